/-
  Lemmas and contracts: YWi YVm YWh YWj YWk YVe. No condition.
-/
import Derived.Deep.CutBlock
import Derived.Test.YtpcjdalgebgofaaGreatDoorKa13
import Derived.Test.YtpcjdalgebgofaaGreatDoorKa15
import Derived.Test.YtpcjdalgebgofaaGreatDoorKa16
import Derived.Test.YtpcjdalgebgofaaGreatDoorKa18
import Derived.Test.YtpcjdalgebgofaaGreatDoorKa25
import Derived.Test.YtpcjdalgebgofaaGreatDoorKa27
set_option linter.unusedSimpArgs false
set_option linter.unusedVariables false
set_option linter.unusedSectionVars false
namespace Go.Proofs.YtpcjdalgebgofaaGreatDoorY
open Go.RowKit Go.Sort Go.Conc
set_option maxRecDepth 100000 in
set_option maxHeartbeats 2000000 in
theorem engineStart_any (l:Lvl) (ws gs:Sl) (w:World) (hl:RdL w l ws gs) (hok:levelOk l=true) :
  Calls Qy.prog 92 #[lvlV l ws gs] w fun e w'=>e=.returned (.tuple #[carV (startW l),.bool true])∧Below w.heap.size w w':=by
 have HL:=Lib.hid hl
 have HOK:=Lib.hid hok
 clear hl hok
 go_enter Qy.func92,Tryz.ntmps92
 go_wp2_with fail
 refine (implLevelValid_any l ws gs _ (HL.out.below (ba (ba (Below.refl _ _))))).mono ?_
 rintro e w1 ⟨rfl,hb⟩
 have KL:=Lib.hid (((Blk.new w 29 (lvlC l ws gs)).alloc _).next hb)
 have KR:=Lib.hid ((Blk.newAt _ 45 car0 (w.heap.size+1) (by simp)).next hb)
 have HB:=Lib.hid (ba (ba hb))
 clear hb
 rw [HOK.out]
 have cl:=fun o=>KL.out.cell o
 have fl:=fun o=>KL.out.frozen o
 have zl:=KL.out.lt
 have cr:=fun o=>KR.out.cell o
 have fr:=fun o=>KR.out.frozen o
 have zr:=KR.out.lt
 go_wp2_with fail
 refine bodyPost_ret (v:=.tuple #[carV (startW l),.bool true]) (by simp [results,Tryz.results92,go_sem,cr,carV,startW]) rfl ⟨rfl,?_⟩
 have hb:=HB.out
 go_grown
theorem startW_in (l:Lvl):CarIn (startW l):=⟨by simp [startW,slow],by simp [startW,slow],by simp [startW],by simp [startW],by simp [startW]⟩
theorem runW_in (l:Lvl) (xs:List Inp) (n:Nat):CarIn (runW l xs n):=by
 unfold runW
 have:∀ (ys:List Inp) (c:Car),CarIn c→CarIn (ys.foldl (stepW l) c):=by
  intro ys
  induction ys with
  | nil=>intro c h;exact h
  | cons y r ih=>intro c h;exact ih _ (stepW_in l c y h)
 exact this _ _ (startW_in l)
theorem levelOk_boxes {l:Lvl} (h:levelOk l=true):(∀ b ∈ l.walls,boxOk b=true)∧(∀ b ∈ l.gates,boxOk b=true)∧boxOk l.f=true:=by
 simp only [levelOk,Bool.and_eq_true] at h
 exact ⟨List.all_eq_true.1 h.1.1.1.1.1.2,List.all_eq_true.1 h.1.1.1.2,h.1.1.2⟩
theorem legalFrom_len {l:Lvl}:∀ (xs:List Inp) (p:Int) (b:Inp) (i:Int),legalFrom l p b xs i<0→0≤i→xs=[]∨i+xs.length≤l.ticks
 | [],_,_,_,_,_=>.inl rfl
 |x :: r,p,b,i,h,hi=>by
  rw [legalFrom] at h
  by_cases hc:l.ticks≤i∨3<(if x.z then p+1 else p)∨followsW l b x=false
  ·rw [if_pos hc] at h
   omega
  ·rw [if_neg hc] at h
   have ht:¬ l.ticks≤i:=fun e=>hc (.inl e)
   rcases legalFrom_len r _ _ _ h (by omega) with h1|h1
   ·subst h1
    right
    simp
    omega
   ·right
    simp only [List.length_cons]
    omega
theorem okW_len {l:Lvl} {xs:List Inp} (h:okW l xs=true):xs.length≤60:=by
 simp only [okW,Bool.and_eq_true,decide_eq_true_eq] at h
 have ht:l.ticks≤60:=by
  have:=h.1
  simp [levelOk,inR] at this
  omega
 rcases legalFrom_len xs 0 inp0 0 h.2 (Int.le_refl _) with h1|h1
 ·rw [h1];simp
 ·omega
def ChanAt (w:World) (c cap:Nat) (vs:List Value) (cl:Bool):Prop:=∃ s r,w.heap[c]?=some (.chan cap vs.toArray cl s r false)
section
variable {w w':World} {c cap:Nat} {vs:List Value} {cl:Bool}
theorem ChanAt.lt (h:ChanAt w c cap vs cl):c<w.heap.size:=by
 obtain ⟨s,r,h⟩:=h
 exact (Array.getElem?_eq_some_iff.1 h).1
theorem ChanAt.keep (h:ChanAt w c cap vs cl) (hb:w'.heap[c]?=w.heap[c]?):ChanAt w' c cap vs cl:=by
 obtain ⟨s,r,h⟩:=h
 exact ⟨s,r,by rw [hb];exact h⟩
theorem ChanAt.next (h:ChanAt w c cap vs cl) (hb:Below w.heap.size w w'):ChanAt w' c cap vs cl:=h.keep (hb.block c h.lt)
theorem ChanAt.only {g:Nat} (h:ChanAt w c cap vs cl) (ho:Only g w w') (hne:c≠g):ChanAt w' c cap vs cl:=h.keep (ho.block c h.lt (by simpa using hne))
theorem ChanAt.set_ (h:c<w.heap.size) (cap:Nat) (vs:List Value) (cl:Bool) (s r:Nat):ChanAt (w.setChan c cap vs.toArray cl s r false) c cap vs cl:=⟨s,r,heap_setChan _ _ _ _ _ _ _ _ h⟩
theorem only_setChan (w:World) (c cap:Nat) (buf:Array Value) (cl:Bool) (s r:Nat) (tm:Bool):Only c w (w.setChan c cap buf cl s r tm):=by
 exact ⟨rfl,rfl,rfl,by simp [World.setChan],fun k hk hne=>by simp only [World.setChan];rw [Array.getElem?_setIfInBounds_ne (fun e=>hne (by rw [e]))]⟩
end
section
variable {P:Program} {ops:Array Oper} {Q:Exit→Act→World→Prop} {a:Act} {w:World} {i c cap:Nat} {rest:List Nat} {o:Oper} {vs:List Value} {v z:Value}
theorem sem_send_at (ho:ops[i]?=some o) (hw:Region.wanted o (yielded ops a.tmps)=true) (hr:(execOp a.eval o).run P w=.ok (.comm #[scase c v z] true .send) w) (hc:ChanAt w c cap vs false) (hroom:vs.length<cap)
  (h:∀ Y,Only c w Y→ChanAt Y c cap (vs ++ [v]) false→SemOps P ops Q rest (a.put o.dst undef) Y):SemOps P ops Q (i :: rest) a w:=by
 have hlt:=hc.lt
 obtain ⟨s,r,hc⟩:=hc
 refine sem_send ho hw hr hc (by simpa using hroom) (h _ (only_setChan _ _ _ _ _ _ _ _) ?_)
 rw [List.push_toArray]
 exact ChanAt.set_ hlt _ _ _ _ _
theorem sem_recv_at {cl:Bool} (ho:ops[i]?=some o) (hw:Region.wanted o (yielded ops a.tmps)=true) (hr:(execOp a.eval o).run P w=.ok (.comm #[rcase c z] true (.recv true)) w) (hc:ChanAt w c cap (v :: vs) cl)
  (h:∀ Y,Only c w Y→ChanAt Y c cap vs cl→SemOps P ops Q rest (a.put o.dst (.tuple #[v,.bool true])) Y):SemOps P ops Q (i :: rest) a w:=by
 have hlt:=hc.lt
 obtain ⟨s,r,hc⟩:=hc
 have h2:=h _ (only_setChan w c cap vs.toArray cl s (r+1) false) (ChanAt.set_ hlt _ _ _ _ _)
 refine sem_recv true ho hw hr hc (by simp) ?_
 have e1:(v :: vs).toArray.getD 0 undef=v:=by simp
 have e2:(v :: vs).toArray.extract 1 (v :: vs).toArray.size=vs.toArray:=by simp
 rw [e1,e2]
 exact h2
theorem sem_shut_at (ho:ops[i]?=some o) (hw:Region.wanted o (yielded ops a.tmps)=true) (hr:(execOp a.eval o).run P w=.ok (.comm #[rcase c z] true (.recv true)) w) (hc:ChanAt w c cap [] true)
  (h:SemOps P ops Q rest (a.put o.dst (.tuple #[z,.bool false])) w):SemOps P ops Q (i :: rest) a w:=by
 obtain ⟨s,r,hc⟩:=hc
 exact sem_shut true ho hw hr hc h
end
def lenOf:Value→Nat
 | .slice _ n _=>n
 | _=>0
def encC (c:Car):List Value:=(carC c).toList
theorem encC_len (c:Car):(encC c).length=9:=rfl
theorem encC_one:∀ x,∀ u ∈ encC x,u.oneCell'=true:=by
 intro b u hu
 simp [encC] at hu
 rcases hu with rfl|rfl|rfl|rfl|rfl|rfl|rfl|rfl|rfl <;> rfl
abbrev cellsC:List Car→List Value:=cellsX encC
theorem infoC:(Qy.prog.info? 45).map (fun i=>(i.zero,i.size,i.bytes))=some (some (carV ⟨0,0,0,0,0,0,0,false,false⟩),9,64):=by kernel_rfl
noncomputable def statesW (l:Lvl) (xs:List Inp):List Car:=(List.range (xs.length+1)).map (runW l xs)
def StatesPost (l:Lvl) (xs:List Inp) (w:World) (e:Ending) (w':World):Prop :=
 (okW l xs=false∧e=.returned (.tuple #[.slice none 0 0,.bool false])∧Below w.heap.size w w') ∨
 (okW l xs=true∧∃ (A:Option Addr) (c:Nat),e=.returned (.tuple #[.slice A (xs.length+1) c,.bool true])∧Ow w.heap.size w' 45 9 A (xs.length+1) c (cellsC (statesW l xs))∧Below w.heap.size w w')
set_option maxRecDepth 100000 in
set_option maxHeartbeats 4000000 in
theorem statesOf_any (l:Lvl) (ws gs:Sl) (A:Option Addr) (n c:Nat) (xs:List Inp) (w:World) (hl:RdL w l ws gs) (hr:RdN w A n xs) (hn:n≤1048576) :
  Calls Qy.prog 52 #[lvlV l ws gs,.slice A n c] w (StatesPost l xs w):=by
 have HL:=Lib.hid hl
 have HR:=Lib.hid hr
 clear hl hr
 go_enter Qy.func52,Tryz.ntmps52
 go_wp2_with fail
 refine (implLevelValid_any l ws gs _ (HL.out.below (ba (Below.refl _ _)))).mono ?_
 rintro e w1 ⟨rfl,hb⟩
 have KL:=Lib.hid ((Blk.new w 29 (lvlC l ws gs)).next hb)
 have HB:=Lib.hid (ba hb)
 clear hb
 cases hok:levelOk l
 ·have HE:=Lib.hid (show okW l xs=false by unfold okW;rw [hok];rfl)
  clear hok
  go_wp2_with fail
  go_ret2
  exact .inl ⟨HE.out,rfl,HB.out⟩
 have HLE:=Lib.hid (show legI l xs=legalW l xs by unfold legI;rw [hok];rfl)
 have HOK:=Lib.hid hok
 have cl:=fun o=>KL.out.cell o
 have fl:=fun o=>KL.out.frozen o
 have zl:=KL.out.lt
 go_wp2_with fail
 refine (implInputsLegal_any l ws gs A n c xs _ (HL.out.below HB.out) (HR.out.below HB.out) hn).mono ?_
 rintro e w2 ⟨rfl,hb⟩
 replace KL:=Lib.hid (KL.out.next hb)
 replace HB:=Lib.hid (below_next HB.out hb)
 clear hb cl fl zl
 rw [HLE.out]
 obtain ⟨lg,hlg⟩:∃ t,legalW l xs=t:=⟨_,rfl⟩
 rw [hlg]
 by_cases h6:0≤lg
 ·have HE:=Lib.hid (show okW l xs=false by unfold okW;rw [hlg,decide_eq_false (by omega:¬ lg<0)];simp)
  clear hlg hok
  go_wp2_with fail
  go_ret2
  exact .inl ⟨HE.out,rfl,HB.out⟩
 have hkw:okW l xs=true:=by unfold okW;rw [hok,hlg,decide_eq_true (by omega:lg<0)];rfl
 have hn60:n≤60:=by have:=okW_len hkw;have h2:=HR.out.len;omega
 have HKW:=Lib.hid hkw
 clear hlg hok hkw
 have cl:=fun o=>KL.out.cell o
 have fl:=fun o=>KL.out.frozen o
 have zl:=KL.out.lt
 have hmk:∀ W:World,(Instr.makeChan 126 (.int .i64 ((n:Int)+1))).run Qy.prog W=.ok (.chan (some W.heap.size)) (W.alloc (.chan (n+1) #[] false 0 0 false)):=by
  obtain ⟨i0,hi0,hy0,hy1,hy2⟩:=info_parts infoC
  intro W
  have:=run_makeChan (P:=Qy.prog) (w:=W) (Qy.un Tryz.underlying126) hi0 .i64 (n+1) (by omega) (by rw [hy2];omega)
  simpa using this
 go_wp2_with fail
 have KC:=Lib.hid (show ChanAt (w2.alloc (.chan (n+1) #[] false 0 0 false)) w2.heap.size (n+1) [] false from ⟨0,0,(MapKept.heap_alloc _ _).1⟩)
 have hzL:=KL.out.lt
 refine (engineStart_any l ws gs _ (HL.out.below (HB.out.alloc HB.out.size _)) HOK.out).mono ?_
 rintro e w3 ⟨rfl,hb⟩
 have hz3:=hb.size
 simp at hz3
 replace KL:=Lib.hid ((KL.out.alloc _).next hb)
 replace KC:=Lib.hid (KC.out.next hb)
 replace HB:=Lib.hid (below_next (HB.out.alloc HB.out.size _) hb)
 clear hb cl fl zl
 rw [show carV (startW l)=.agg #[.int .i64 0,.int .i64 l.sx,.int .i64 l.sy,.int .i64 0,.int .i64 0,.int .i64 0,.int .i64 0,.bool false,.bool false] from rfl]
 go_upto_region 5 with (fail)
 refine into_world (fun Y=>Below w.heap.size w Y∧Blk Y w.heap.size 29 (lvlC l ws gs)∧Blk Y w3.heap.size 45 (carC (startW l))∧ChanAt Y w2.heap.size (n+1) [] false) ⟨HB.out.alloc HB.out.size _,KL.out.alloc _,Blk.new _ _ _,KC.out.next ((Below.refl _ _).alloc (Nat.le_refl _) _)⟩ ?_
 clear KL KC HB
 rintro W ⟨HB,KL,KS,KC⟩
 replace HB:=Lib.hid HB
 replace KL:=Lib.hid KL
 replace KS:=Lib.hid KS
 replace KC:=Lib.hid KC
 have cs:=fun o=>KS.out.cell o
 have fs:=fun o=>KS.out.frozen o
 have zs:=KS.out.lt
 refine wp_sem (show SemOps _ _ _ [0,1,2] _ _ from ?_)
 refine sem_val rfl rfl (fun K hK=>?_)
 go_simp
 refine hK _ _ ?_
 clear hK K
 refine sem_val rfl rfl (fun K hK=>?_)
 go_simp
 refine hK _ _ ?_
 clear hK K
 refine sem_send_at (c:=w2.heap.size) rfl rfl rfl KC.out (by simp;try omega) ?_
 intro Y ho hc
 refine sem_nil ?_
 replace HB:=Lib.hid (HB.out.trans (ho.below (show w.heap.size≤w2.heap.size by omega) HB.out.size))
 replace KL:=Lib.hid (KL.out.only ho (by omega))
 replace KS:=Lib.hid (KS.out.only ho (by omega))
 replace KC:=Lib.hid hc
 clear ho hc cs fs zs
 go_wp2_with fail
 go_loopw [35] (fun i wr=>∃ k:Nat,k≤n∧i=.int .i64 k∧Hid (Below w.heap.size w wr∧Blk wr w.heap.size 29 (lvlC l ws gs)∧Blk wr w3.heap.size 45 (carC (runW l xs k))∧ChanAt wr w2.heap.size (n+1) ((List.range (k+1)).map fun j=>carV (runW l xs j)) false)) (fun i _=>n - (intOf i).toNat)
 case atStart=>exact ⟨0,Nat.zero_le _,rfl,HB.out,KL.out,KS.out,KC.out⟩
 case round =>
  clear HB KL KS KC
  obtain ⟨k,hk,rfl,HH⟩:=hrel
  obtain ⟨HB,KL,KS,KC⟩:=HH.out
  replace HB:=Lib.hid HB
  replace KL:=Lib.hid KL
  replace KS:=Lib.hid KS
  replace KC:=Lib.hid KC
  clear HH
  by_cases hlt:k<n
  ·obtain ⟨bb,off,x,hA,hbb,hxk,h0,h1,h2⟩:=RdN.cells (HR.out.below HB.out) hlt
   subst hA
   have HRS:=Lib.hid (runW_succ (l:=l) hxk)
   have HBD:=Lib.hid (inOk_bd (okW_ins HKW.out x (List.mem_of_getElem? hxk)))
   have HCI:=Lib.hid (runW_in l xs k)
   clear hxk
   have hzc:=KC.out.lt
   obtain ⟨car,hcr⟩:∃ q,runW l xs k=q:=⟨_,rfl⟩
   rw [hcr] at KS HRS HCI
   clear hcr
   have cl:=fun o=>KL.out.cell o
   have fl:=fun o=>KL.out.frozen o
   have zl:=KL.out.lt
   have cs:=fun o=>KS.out.cell o
   have fs:=fun o=>KS.out.frozen o
   have zs:=KS.out.lt
   obtain ⟨hbw,hbg,hbf⟩:=levelOk_boxes HOK.out
   have hwn:ws.n≤1048576:=HL.out.2.2.1.2
   have HA:=Lib.hid (fun W (hb:Below w.heap.size w W)=>after_any l ws gs car x W (HL.out.below hb) hwn HCI.out HBD.out.1 HBD.out.2.1 hbw hbg hbf)
   clear hbw hbg hbf hwn
   go_wp2_with fail
   refine (HA.out _ (HB.out.alloc HB.out.size _)).mono ?_
   rintro e w5 ⟨rfl,hb⟩
   replace KL:=Lib.hid ((KL.out.alloc _).next hb)
   replace KS:=Lib.hid ((KS.out.alloc _).next hb)
   replace KC:=Lib.hid ((KC.out.next ((Below.refl _ _).alloc (Nat.le_refl _) _)).next hb)
   replace HB:=Lib.hid (below_next (HB.out.alloc HB.out.size _) hb)
   clear hb cl fl zl cs fs zs h0 h1 h2
   rw [HRS.out]
   obtain ⟨cr2,hcr⟩:∃ c,runW l xs (k+1)=c:=⟨_,rfl⟩
   rw [hcr]
   have HCR:=Lib.hid hcr
   clear hcr
   rw [show carV cr2=.agg #[.int .i64 cr2.tick,.int .i64 cr2.ax,.int .i64 cr2.ay,.int .i64 cr2.fx,.int .i64 cr2.fy,.int .i64 cr2.turn,.int .i64 cr2.gate,.bool cr2.dn,.bool cr2.ov] from rfl]
   have cs:=fun o=>KS.out.cell o
   have fs:=fun o=>KS.out.frozen o
   have zs:=KS.out.lt
   go_upto_region 10 with (fail)
   have hos:Only w3.heap.size w5 (w5.setCells w3.heap.size 0 (carC cr2).toList):=onlySets (.inl rfl) _ 0 _ (Only.refl _ _)
   refine into_world (fun Y=>Below w.heap.size w Y∧Blk Y w.heap.size 29 (lvlC l ws gs)∧Blk Y w3.heap.size 45 (carC cr2)∧ChanAt Y w2.heap.size (n+1) ((List.range (k+1)).map fun j=>carV (runW l xs j)) false) ⟨HB.out.trans (hos.below (by omega) HB.out.size),KL.out.only hos (by omega),KS.out.all9 _ _ _ _ _ _ _ _ _,KC.out.only hos (by omega)⟩ ?_
   clear KL KC KS HB hos cs fs zs
   rintro W ⟨HB,KL,KS,KC⟩
   replace HB:=Lib.hid HB
   replace KL:=Lib.hid KL
   replace KS:=Lib.hid KS
   replace KC:=Lib.hid KC
   have cs:=fun o=>KS.out.cell o
   have fs:=fun o=>KS.out.frozen o
   have zs:=KS.out.lt
   refine wp_sem (show SemOps _ _ _ [0,1,2] _ _ from ?_)
   refine sem_val rfl rfl (fun K hK=>?_)
   go_simp
   refine hK _ _ ?_
   clear hK K
   refine sem_val rfl rfl (fun K hK=>?_)
   go_simp
   refine hK _ _ ?_
   clear hK K
   refine sem_send_at (c:=w2.heap.size) rfl rfl rfl KC.out (by simp;try omega) ?_
   intro Y ho hc
   refine sem_nil ?_
   replace HB:=Lib.hid (HB.out.trans (ho.below (show w.heap.size≤w2.heap.size by omega) HB.out.size))
   replace KL:=Lib.hid (KL.out.only ho (by omega))
   replace KS:=Lib.hid (KS.out.only ho (by omega))
   replace KC:=Lib.hid hc
   clear ho hc cs fs zs
   go_wp2_with fail
   refine ⟨⟨k+1,by omega,by go_num,HB.out,KL.out,by rw [HCR.out];exact KS.out,?_⟩,by simp [intOf];omega⟩
   rw [List.range_succ,List.map_append]
   show ChanAt _ _ _ (_ ++ [carV (runW l xs (k+1))]) _
   rw [HCR.out]
   exact KC.out
  ·have hkn:k=n:=by omega
   subst hkn
   have hSL:(statesW l xs).length=k+1:=by unfold statesW;rw [List.length_map,List.length_range,HR.out.len]
   have HSL:=Lib.hid hSL
   have hsm:((List.range (k+1)).map fun j=>carV (runW l xs j))=(statesW l xs).map carV:=by unfold statesW;rw [List.map_map,HR.out.len];rfl
   have hkc:=KC.out
   rw [hsm] at hkc
   have hzc:=hkc.lt
   obtain ⟨s,r,hch⟩:=hkc
   have hcl:=fun ats ty=>run_close_open (P:=Qy.prog) (w:=wr) ats ty hch
   have hos:=only_setChan wr w2.heap.size (k+1) ((statesW l xs).map carV).toArray true s r false
   clear hSL hsm KC
   go_upto_region 13 with (fail)
   refine into_world (fun Y=>Below w.heap.size w Y∧ChanAt Y w2.heap.size (k+1) ((statesW l xs).map carV) true) ⟨HB.out.trans (hos.below (by omega) HB.out.size),ChanAt.set_ hzc _ _ _ _ _⟩ ?_
   clear hcl hch KL KS HB hos
   rintro W ⟨HB,KC⟩
   have hzW:=KC.lt
   replace HB:=Lib.hid HB
   replace KC:=Lib.hid KC
   obtain ⟨i0,hi0,hy0,hy1,hy2⟩:=info_parts infoC
   have HI:=Lib.hid hi0
   have HZ:=Lib.hid hy0
   have HS:=Lib.hid hy1
   have HBY:=Lib.hid hy2
   clear hi0 hy0 hy1 hy2
   have hzw:=HB.out.size
   go_upto_block 2 with (fail)
   go_wp2_with fail
   go_loopw [11] (fun out wr=>∃ (j:Nat) (A':Option Addr) (c':Nat),j≤k+1∧out=.slice A' j c'∧Hid (Below w.heap.size w wr∧ChanAt wr w2.heap.size (k+1) (((statesW l xs).drop j).map carV) true∧Ow W.heap.size wr 45 9 A' j c' (cellsC ((statesW l xs).take j))∧W.heap.size≤wr.heap.size)) (fun out _=>k+2 - lenOf out)
   case atStart=>exact ⟨0,none,0,Nat.zero_le _,rfl,HB.out,KC.out,Ow.bare _ _ _ _ _,Nat.le_refl _⟩
   case round =>
    clear HB KC
    obtain ⟨j,A',c',hj,rfl,HH⟩:=hrel
    obtain ⟨HB,KC,HOW,hzr⟩:=HH.out
    replace HB:=Lib.hid HB
    replace KC:=Lib.hid KC
    replace HOW:=Lib.hid HOW
    clear HH
    by_cases hlj:j<k+1
    ·have hjs:j<(statesW l xs).length:=by rw [HSL.out];exact hlj
     obtain ⟨st,hst⟩:∃ q,(statesW l xs)[j]=q:=⟨_,rfl⟩
     have HDR:=Lib.hid (show (statesW l xs).drop j=st :: (statesW l xs).drop (j+1) by rw [← hst];exact List.drop_eq_getElem_cons hjs)
     have HTK:=Lib.hid (show (statesW l xs).take (j+1)=(statesW l xs).take j ++ [st] by rw [List.take_add_one,List.getElem?_eq_getElem hjs,hst];rfl)
     clear hst hjs
     have hkc:=KC.out
     rw [HDR.out,List.map_cons] at hkc
     replace KC:=Lib.hid hkc
     clear hkc
     go_upto_region 15 with (fail)
     refine wp_sem (show SemOps _ _ _ [0,1] _ _ from ?_)
     refine sem_recv_at (c:=w2.heap.size) (z:=carV ⟨0,0,0,0,0,0,0,false,false⟩) rfl rfl (by kernel_rfl) KC.out ?_
     intro Y ho hc
     refine sem_val rfl rfl (fun K hK=>?_)
     go_simp
     refine hK _ _ ?_
     clear hK K
     refine sem_nil ?_
     replace HB:=Lib.hid (HB.out.trans (ho.below (show w.heap.size≤w2.heap.size by omega) HB.out.size))
     replace HOW:=Lib.hid (HOW.out.keep fun g hg hgc=>ho.block g (HOW.out.lt hg hgc).2 (by have:=(HOW.out.lt hg hgc).1;simp;omega))
     have hzY:W.heap.size≤Y.heap.size:=Nat.le_trans hzr ho.size
     replace KC:=Lib.hid hc
     clear ho hc
     rw [show carV st=.agg #[.int .i64 st.tick,.int .i64 st.ax,.int .i64 st.ay,.int .i64 st.fx,.int .i64 st.fy,.int .i64 st.turn,.int .i64 st.gate,.bool st.dn,.bool st.ov] from rfl]
     go_wp2_with (at_builtin;refine wpList_append_ow _ rfl (.tmp 51) (.tmp 53) _ rfl W.heap.size 45 i0 _ 9 64 (Qy.un Tryz.underlying77) HI.out HZ.out HS.out HBY.out rfl (by omega) _ j c' _ rfl ((HOW.out.alloc _).alloc _) _ 1 1 (cellsC [st]) rfl (Src.blk (Blk.newAt _ _ _ _ (by simp)) rfl) (cellsX_oneCell encC_one _) (by unfold maxLen;omega) (by omega) (by simp;omega) ?_;intro A2 c2 w5 hown5 hg5 _;have HO5:=Lib.hid hown5;have HG5:=Lib.hid hg5;clear hown5 hg5)
     have hrow:=(HOW.out.alloc (.cells (carC st) 45)).alloc (.cells (carC st) 45)
     have hka:=((KC.out.next ((Below.refl _ _).alloc (Nat.le_refl _) (.cells (carC st) 45))).next ((Below.refl _ _).alloc (Nat.le_refl _) (.cells (carC st) 45)))
     refine ⟨⟨j+1,A2,c2,by omega,rfl,?_,?_,?_,?_⟩,by simp [lenOf];omega⟩
     ·exact hrow.grown HG5.out ((HB.out.alloc HB.out.size _).alloc (by have:=HB.out.size;simp;omega) _) (by omega) (by simp;omega)
     ·refine hka.keep (HG5.out.block _ hka.lt fun e=>?_)
      have:=row_base hrow _ e.symm
      omega
     ·rw [HTK.out,show cellsC ((statesW l xs).take j ++ [st])=cellsC ((statesW l xs).take j) ++ cellsC [st] from by simp [cellsC,cellsX]]
      exact HO5.out
     ·have:=HG5.out.size
      simp at this
      omega
    ·have hjk:j=k+1:=by omega
     subst hjk
     have hkc:=KC.out
     rw [List.drop_of_length_le (by rw [HSL.out];exact Nat.le_refl _)] at hkc
     have how:=HOW.out
     rw [List.take_of_length_le (by rw [HSL.out];exact Nat.le_refl _)] at how
     replace HOW:=Lib.hid how
     replace KC:=Lib.hid hkc
     clear hkc how
     go_upto_region 15 with (fail)
     refine wp_sem (show SemOps _ _ _ [0,1] _ _ from ?_)
     refine sem_shut_at (c:=w2.heap.size) (z:=carV ⟨0,0,0,0,0,0,0,false,false⟩) rfl rfl (by kernel_rfl) KC.out ?_
     refine sem_val rfl rfl (fun K hK=>?_)
     go_simp
     refine hK _ _ ?_
     clear hK K
     refine sem_nil ?_
     go_wp2_with fail
     go_ret2
     exact .inr ⟨HKW.out,A',c',by rw [HR.out.len];rfl,by rw [HR.out.len];exact HOW.out.mono hzw,HB.out⟩
end Go.Proofs.YtpcjdalgebgofaaGreatDoorY
namespace Go.Proofs.YtpcjdalgebgofaaGreatDoorY
open Go.RowKit Go.Sort
set_option maxRecDepth 100000 in
set_option maxHeartbeats 2000000 in
theorem hasher_any (w:World) :
  Calls Qy.prog 57 #[] w fun e w'=>e=.returned (.func (.func 99) #[] #[.pointer (some ⟨w.heap.size,0,none⟩)])∧w'=w.alloc (.cells #[.int .i64 17] 3):=by
 go_enter Qy.func57,Tryz.ntmps57
 go_wp2_with fail
 go_ret
 exact ⟨rfl,rfl⟩
set_option maxRecDepth 100000 in
set_option maxHeartbeats 2000000 in
theorem hashin_any (h:Int) (A:Option Addr) (n c g:Nat) (zs:List Int) (w:World) (hh:HashOk h) (hr:RdI .i64 w A n zs) (hn:n≤1048576) (hg:Blk w g 3 #[.int .i64 h]) (hne:0<n→A.map (·.block)≠some g) :
  Calls Qy.prog 99 #[.slice A n c,.pointer (some ⟨g,0,none⟩)] w fun e w'=>e=.returned (.int .i64 (hashW h zs))∧Only g w w'∧Blk w' g 3 #[.int .i64 (hashW h zs)]:=by
 have HR:=Lib.hid hr
 have HH:=Lib.hid hh
 have HG:=Lib.hid hg
 have HNE:=Lib.hid hne
 clear hr hh hg hne
 go_enter Qy.func99,Tryz.ntmps99
 go_wp2_with fail
 go_loopw [8] (fun i wr=>∃ k:Nat,k≤n∧i=.int .i64 k∧Hid (Only g w wr∧Blk wr g 3 #[.int .i64 (hashW h (zs.take k))])) (fun i _=>n - (intOf i).toNat)
 case atStart=>exact ⟨0,Nat.zero_le _,rfl,⟨Only.refl _ _,HG.out⟩⟩
 case round =>
  obtain ⟨k,hk,rfl,HK⟩:=hrel
  by_cases hlt:k<n
  ·obtain ⟨b,off,z,hA,hb,hz,hc⟩:=(HR.out.only HK.out.1 HNE.out).at_ hlt
   have hne':b≠g:=by
    intro e
    refine HNE.out (by omega) ?_
    rw [hA,e];rfl
   subst hA
   obtain ⟨q,r,s,e1,q0,q1,e2,r0,r1,e3,e4,s0,s1⟩:=hstep_facts (hashW h (zs.take k)) z (hashW_ok HH.out _)
   have HN:=Lib.hid ((hashW_at h zs k z hz).symm.trans e4)
   obtain ⟨p0,p1⟩:=hashW_ok HH.out (zs.take k)
   have KG:=Lib.hid HK.out.2
   have HO:=Lib.hid HK.out.1
   clear HK e4 hz
   generalize hashW h (zs.take k)=y at *
   have e3':(y * 8191+r+1).tmod 1000003=s:=by rw [Int.mul_comm];exact e3
   have cg:=fun o=>KG.out.cell o
   have fg:=fun o=>KG.out.frozen o
   have zg:=KG.out.lt
   go_wp2_with fail
   exact ⟨⟨k+1,by omega,by go_num,⟨HO.out.set_ (.inl rfl) _,by rw [HN.out];exact KG.out.set_ 0 _⟩⟩,by simp [intOf];omega⟩
  ·have hkn:zs.take k=zs:=List.take_of_length_le (by rw [HR.out.len];omega)
   rw [hkn] at HK
   have KG:=Lib.hid HK.out.2
   have HO:=Lib.hid HK.out.1
   clear HK
   have cg:=fun o=>KG.out.cell o
   have fg:=fun o=>KG.out.frozen o
   have zg:=KG.out.lt
   go_wp2
   go_ret
   exact ⟨rfl,HO.out,KG.out⟩
end Go.Proofs.YtpcjdalgebgofaaGreatDoorY
namespace Go.Proofs.YtpcjdalgebgofaaGreatDoorY
open Go.RowKit Go.Sort
set_option maxRecDepth 100000 in
set_option maxHeartbeats 4000000 in
theorem hashOf_any (c:Car) (w:World) (h1:(c.dn && c.ov)=false):Calls Qy.prog 55 #[carV c] w fun e w'=>e=.returned (.int .i64 (carHash c))∧Below w.heap.size w w':=by
 obtain ⟨tick,ax,ay,fx,fy,turn,gate,dn,ov⟩:=c
 obtain ⟨f,hf⟩:∃ f,flagW ⟨tick,ax,ay,fx,fy,turn,gate,dn,ov⟩=f:=⟨_,rfl⟩
 have HRES:=Lib.hid (show carHash ⟨tick,ax,ay,fx,fy,turn,gate,dn,ov⟩=hashW 17 [tick,ax,ay,fx,fy,turn,gate,f] by simp [carHash,hf])
 have HF:=Lib.hid hf
 clear hf
 rw [show carV ⟨tick,ax,ay,fx,fy,turn,gate,dn,ov⟩=.agg #[.int .i64 tick,.int .i64 ax,.int .i64 ay,.int .i64 fx,.int .i64 fy,.int .i64 turn,.int .i64 gate,.bool dn,.bool ov] from rfl]
 go_enter Qy.func55,Tryz.ntmps55
 go_upto_block 0 with (fail)
 go_cut [3] (fun s wx=>s=.int .i64 f∧Hid (Below w.heap.size w wx∧Blk wx w.heap.size 45 #[.int .i64 tick,.int .i64 ax,.int .i64 ay,.int .i64 fx,.int .i64 fy,.int .i64 turn,.int .i64 gate,.bool dn,.bool ov]))
 case first =>
  cases dn <;> cases ov
  ·go_wp2_with fail
   go_meet
   exact ⟨by rw [← HF.out];rfl,ba (Below.refl _ _),Blk.new _ _ _⟩
  ·go_wp2_with fail
   go_meet
   exact ⟨by rw [← HF.out];rfl,ba (Below.refl _ _),Blk.new _ _ _⟩
  ·go_wp2_with fail
   go_meet
   exact ⟨by rw [← HF.out];rfl,ba (Below.refl _ _),Blk.new _ _ _⟩
  ·cases h1
 case rest =>
  obtain ⟨rfl,HQ⟩:=hcut
  obtain ⟨hb,hks⟩:=HQ.out
  have HB:=Lib.hid hb
  have KS:=Lib.hid hks
  clear hb hks HQ
  go_upto_region 6 with (fail)
  refine wp_region_grow 21 (by kernel_rfl) (by kernel_rfl) (by kernel_rfl) (fun a b=>Below a.heap.size a b) (fun mq w'=>Below wc.heap.size wc w') (fun iq v w'=>match iq with|0=>(∃ g,v=.func (.func 99) #[] #[.pointer (some ⟨g,0,none⟩)]∧wc.heap.size≤g∧Blk w' g 3 #[.int .i64 17])|1=>(v=.pointer (some ⟨w.heap.size,0,none⟩))|2=>(v=.int .i64 tick)|3=>(v=.pointer (some ⟨w.heap.size,1,none⟩))|4=>(v=.pointer (some ⟨w.heap.size,1,none⟩))|5=>(v=.int .i64 ax)|6=>(v=.pointer (some ⟨w.heap.size,1,none⟩))|7=>(v=.pointer (some ⟨w.heap.size,2,none⟩))|8=>(v=.int .i64 ay)|9=>(v=.pointer (some ⟨w.heap.size,3,none⟩))|10=>(v=.pointer (some ⟨w.heap.size,3,none⟩))|11=>(v=.int .i64 fx)|12=>(v=.pointer (some ⟨w.heap.size,3,none⟩))|13=>(v=.pointer (some ⟨w.heap.size,4,none⟩))|14=>(v=.int .i64 fy)|15=>(v=.pointer (some ⟨w.heap.size,5,none⟩))|16=>(v=.int .i64 turn)|17=>(v=.pointer (some ⟨w.heap.size,6,none⟩))|18=>(v=.int .i64 gate)|19=>(v=.int .i64 f)|20=>(∃ b,v=.slice (some ⟨b,0,none⟩) 8 8∧Blk w' b 3 #[.int .i64 tick,.int .i64 ax,.int .i64 ay,.int .i64 fx,.int .i64 fy,.int .i64 turn,.int .i64 gate,.int .i64 f])|_=>True) (fun sq=>{ tmps:=#[Value.agg #[Value.int .i64 tick,Value.int .i64 ax,Value.int .i64 ay,Value.int .i64 fx,Value.int .i64 fy,Value.int .i64 turn,Value.int .i64 gate,Value.bool dn,Value.bool ov],Value.pointer (some (⟨w.heap.size,0,none⟩:Addr)),Value.int .i64 0,Value.int .i64 f,u4,u5,u6,u7,u8,u9,sq 0,sq 1,sq 2,sq 3,sq 4,sq 5,sq 6,sq 7,sq 8,sq 9,sq 10,sq 11,sq 12,sq 13,sq 14,sq 15,sq 16,sq 17,sq 18,sq 19,sq 20,u31],defers:=[] }) (fun j=>match j with|0=>u10|1=>u11|2=>u12|3=>u13|4=>u14|5=>u15|6=>u16|7=>u17|8=>u18|9=>u19|10=>u20|11=>u21|12=>u22|13=>u23|14=>u24|15=>u25|16=>u26|17=>u27|18=>u28|19=>u29|20=>u30|_=>undef) ?_ ?_ ?_ ?_
  ·rintro iq v a b hg h
   match iq,h with
   | 0,h=>exact (by obtain ⟨g,rfl,h0,h1⟩:=h;exact ⟨g,rfl,h0,h1.next hg⟩)
   | 1,h=>exact h
   | 2,h=>exact h
   | 3,h=>exact h
   | 4,h=>exact h
   | 5,h=>exact h
   | 6,h=>exact h
   | 7,h=>exact h
   | 8,h=>exact h
   | 9,h=>exact h
   | 10,h=>exact h
   | 11,h=>exact h
   | 12,h=>exact h
   | 13,h=>exact h
   | 14,h=>exact h
   | 15,h=>exact h
   | 16,h=>exact h
   | 17,h=>exact h
   | 18,h=>exact h
   | 19,h=>exact h
   | 20,h=>exact (by obtain ⟨b,rfl,h1⟩:=h;exact ⟨b,rfl,h1.next hg⟩)
   | (kq+21),_=>exact trivial
  ·exact ⟨rfl,rfl,rfl,Nat.le_refl _,fun _ _=>rfl⟩
  ·intro mq sq w' iq oq hmq hiq hoq hJ hd Kq hK
   have hiq':iq=0∨iq=1∨iq=2∨iq=3∨iq=4∨iq=5∨iq=6∨iq=7∨iq=8∨iq=9∨iq=10∨iq=11∨iq=12∨iq=13∨iq=14∨iq=15∨iq=16∨iq=17∨iq=18∨iq=19∨iq=20:=by omega
   rcases hiq' with rfl|rfl|rfl|rfl|rfl|rfl|rfl|rfl|rfl|rfl|rfl|rfl|rfl|rfl|rfl|rfl|rfl|rfl|rfl|rfl|rfl
   ·cases (show some _=some oq from hoq)
    have hK':=hK
    simp only [updV,Nat.reduceEqDiff,↓reduceIte] at hK'
    clear hK hd
    generalize sq 0=x0,sq 1=x1,sq 2=x2,sq 3=x3,sq 4=x4,sq 5=x5,sq 6=x6,sq 7=x7,sq 8=x8,sq 9=x9,sq 10=x10,sq 11=x11,sq 12=x12,sq 13=x13,sq 14=x14,sq 15=x15,sq 16=x16,sq 17=x17,sq 18=x18,sq 19=x19,sq 20=x20 at *
    go_simp
    refine (hasher_any _).mono ?_
    rintro e w2 ⟨rfl,rfl⟩
    exact hK' _ _ ((Below.refl _ _).alloc (Nat.le_refl _) _) (hJ.alloc hJ.size _) ⟨_,rfl,hJ.size,Blk.new _ _ _⟩
   ·cases (show some _=some oq from hoq)
    have hK':=hK
    simp only [updV,Nat.reduceEqDiff,↓reduceIte] at hK'
    clear hK hd
    generalize sq 0=x0,sq 1=x1,sq 2=x2,sq 3=x3,sq 4=x4,sq 5=x5,sq 6=x6,sq 7=x7,sq 8=x8,sq 9=x9,sq 10=x10,sq 11=x11,sq 12=x12,sq 13=x13,sq 14=x14,sq 15=x15,sq 16=x16,sq 17=x17,sq 18=x18,sq 19=x19,sq 20=x20 at *
    go_simp
    exact hK' _ _ (Below.refl _ _) hJ rfl
   ·cases (show some _=some oq from hoq)
    have d1:=hd 1 (by kernel_rfl) (by decide)
    have hK':=hK
    simp only [updV,Nat.reduceEqDiff,↓reduceIte] at hK'
    clear hK hd
    generalize sq 0=x0,sq 1=x1,sq 2=x2,sq 3=x3,sq 4=x4,sq 5=x5,sq 6=x6,sq 7=x7,sq 8=x8,sq 9=x9,sq 10=x10,sq 11=x11,sq 12=x12,sq 13=x13,sq 14=x14,sq 15=x15,sq 16=x16,sq 17=x17,sq 18=x18,sq 19=x19,sq 20=x20 at *
    obtain rfl:=d1
    have hcc:=(KS.out.next hJ).cell 0
    go_simp
    exact hK' _ _ (Below.refl _ _) hJ rfl
   ·cases (show some _=some oq from hoq)
    have hK':=hK
    simp only [updV,Nat.reduceEqDiff,↓reduceIte] at hK'
    clear hK hd
    generalize sq 0=x0,sq 1=x1,sq 2=x2,sq 3=x3,sq 4=x4,sq 5=x5,sq 6=x6,sq 7=x7,sq 8=x8,sq 9=x9,sq 10=x10,sq 11=x11,sq 12=x12,sq 13=x13,sq 14=x14,sq 15=x15,sq 16=x16,sq 17=x17,sq 18=x18,sq 19=x19,sq 20=x20 at *
    go_simp
    exact hK' _ _ (Below.refl _ _) hJ rfl
   ·cases (show some _=some oq from hoq)
    have d3:=hd 3 (by kernel_rfl) (by decide)
    have hK':=hK
    simp only [updV,Nat.reduceEqDiff,↓reduceIte] at hK'
    clear hK hd
    generalize sq 0=x0,sq 1=x1,sq 2=x2,sq 3=x3,sq 4=x4,sq 5=x5,sq 6=x6,sq 7=x7,sq 8=x8,sq 9=x9,sq 10=x10,sq 11=x11,sq 12=x12,sq 13=x13,sq 14=x14,sq 15=x15,sq 16=x16,sq 17=x17,sq 18=x18,sq 19=x19,sq 20=x20 at *
    obtain rfl:=d3
    go_simp
    exact hK' _ _ (Below.refl _ _) hJ rfl
   ·cases (show some _=some oq from hoq)
    have d4:=hd 4 (by kernel_rfl) (by decide)
    have hK':=hK
    simp only [updV,Nat.reduceEqDiff,↓reduceIte] at hK'
    clear hK hd
    generalize sq 0=x0,sq 1=x1,sq 2=x2,sq 3=x3,sq 4=x4,sq 5=x5,sq 6=x6,sq 7=x7,sq 8=x8,sq 9=x9,sq 10=x10,sq 11=x11,sq 12=x12,sq 13=x13,sq 14=x14,sq 15=x15,sq 16=x16,sq 17=x17,sq 18=x18,sq 19=x19,sq 20=x20 at *
    obtain rfl:=d4
    have hcc:=(KS.out.next hJ).cell 1
    go_simp
    exact hK' _ _ (Below.refl _ _) hJ rfl
   ·cases (show some _=some oq from hoq)
    have hK':=hK
    simp only [updV,Nat.reduceEqDiff,↓reduceIte] at hK'
    clear hK hd
    generalize sq 0=x0,sq 1=x1,sq 2=x2,sq 3=x3,sq 4=x4,sq 5=x5,sq 6=x6,sq 7=x7,sq 8=x8,sq 9=x9,sq 10=x10,sq 11=x11,sq 12=x12,sq 13=x13,sq 14=x14,sq 15=x15,sq 16=x16,sq 17=x17,sq 18=x18,sq 19=x19,sq 20=x20 at *
    go_simp
    exact hK' _ _ (Below.refl _ _) hJ rfl
   ·cases (show some _=some oq from hoq)
    have d6:=hd 6 (by kernel_rfl) (by decide)
    have hK':=hK
    simp only [updV,Nat.reduceEqDiff,↓reduceIte] at hK'
    clear hK hd
    generalize sq 0=x0,sq 1=x1,sq 2=x2,sq 3=x3,sq 4=x4,sq 5=x5,sq 6=x6,sq 7=x7,sq 8=x8,sq 9=x9,sq 10=x10,sq 11=x11,sq 12=x12,sq 13=x13,sq 14=x14,sq 15=x15,sq 16=x16,sq 17=x17,sq 18=x18,sq 19=x19,sq 20=x20 at *
    obtain rfl:=d6
    go_simp
    exact hK' _ _ (Below.refl _ _) hJ rfl
   ·cases (show some _=some oq from hoq)
    have d7:=hd 7 (by kernel_rfl) (by decide)
    have hK':=hK
    simp only [updV,Nat.reduceEqDiff,↓reduceIte] at hK'
    clear hK hd
    generalize sq 0=x0,sq 1=x1,sq 2=x2,sq 3=x3,sq 4=x4,sq 5=x5,sq 6=x6,sq 7=x7,sq 8=x8,sq 9=x9,sq 10=x10,sq 11=x11,sq 12=x12,sq 13=x13,sq 14=x14,sq 15=x15,sq 16=x16,sq 17=x17,sq 18=x18,sq 19=x19,sq 20=x20 at *
    obtain rfl:=d7
    have hcc:=(KS.out.next hJ).cell 2
    go_simp
    exact hK' _ _ (Below.refl _ _) hJ rfl
   ·cases (show some _=some oq from hoq)
    have hK':=hK
    simp only [updV,Nat.reduceEqDiff,↓reduceIte] at hK'
    clear hK hd
    generalize sq 0=x0,sq 1=x1,sq 2=x2,sq 3=x3,sq 4=x4,sq 5=x5,sq 6=x6,sq 7=x7,sq 8=x8,sq 9=x9,sq 10=x10,sq 11=x11,sq 12=x12,sq 13=x13,sq 14=x14,sq 15=x15,sq 16=x16,sq 17=x17,sq 18=x18,sq 19=x19,sq 20=x20 at *
    go_simp
    exact hK' _ _ (Below.refl _ _) hJ rfl
   ·cases (show some _=some oq from hoq)
    have d9:=hd 9 (by kernel_rfl) (by decide)
    have hK':=hK
    simp only [updV,Nat.reduceEqDiff,↓reduceIte] at hK'
    clear hK hd
    generalize sq 0=x0,sq 1=x1,sq 2=x2,sq 3=x3,sq 4=x4,sq 5=x5,sq 6=x6,sq 7=x7,sq 8=x8,sq 9=x9,sq 10=x10,sq 11=x11,sq 12=x12,sq 13=x13,sq 14=x14,sq 15=x15,sq 16=x16,sq 17=x17,sq 18=x18,sq 19=x19,sq 20=x20 at *
    obtain rfl:=d9
    go_simp
    exact hK' _ _ (Below.refl _ _) hJ rfl
   ·cases (show some _=some oq from hoq)
    have d10:=hd 10 (by kernel_rfl) (by decide)
    have hK':=hK
    simp only [updV,Nat.reduceEqDiff,↓reduceIte] at hK'
    clear hK hd
    generalize sq 0=x0,sq 1=x1,sq 2=x2,sq 3=x3,sq 4=x4,sq 5=x5,sq 6=x6,sq 7=x7,sq 8=x8,sq 9=x9,sq 10=x10,sq 11=x11,sq 12=x12,sq 13=x13,sq 14=x14,sq 15=x15,sq 16=x16,sq 17=x17,sq 18=x18,sq 19=x19,sq 20=x20 at *
    obtain rfl:=d10
    have hcc:=(KS.out.next hJ).cell 3
    go_simp
    exact hK' _ _ (Below.refl _ _) hJ rfl
   ·cases (show some _=some oq from hoq)
    have hK':=hK
    simp only [updV,Nat.reduceEqDiff,↓reduceIte] at hK'
    clear hK hd
    generalize sq 0=x0,sq 1=x1,sq 2=x2,sq 3=x3,sq 4=x4,sq 5=x5,sq 6=x6,sq 7=x7,sq 8=x8,sq 9=x9,sq 10=x10,sq 11=x11,sq 12=x12,sq 13=x13,sq 14=x14,sq 15=x15,sq 16=x16,sq 17=x17,sq 18=x18,sq 19=x19,sq 20=x20 at *
    go_simp
    exact hK' _ _ (Below.refl _ _) hJ rfl
   ·cases (show some _=some oq from hoq)
    have d12:=hd 12 (by kernel_rfl) (by decide)
    have hK':=hK
    simp only [updV,Nat.reduceEqDiff,↓reduceIte] at hK'
    clear hK hd
    generalize sq 0=x0,sq 1=x1,sq 2=x2,sq 3=x3,sq 4=x4,sq 5=x5,sq 6=x6,sq 7=x7,sq 8=x8,sq 9=x9,sq 10=x10,sq 11=x11,sq 12=x12,sq 13=x13,sq 14=x14,sq 15=x15,sq 16=x16,sq 17=x17,sq 18=x18,sq 19=x19,sq 20=x20 at *
    obtain rfl:=d12
    go_simp
    exact hK' _ _ (Below.refl _ _) hJ rfl
   ·cases (show some _=some oq from hoq)
    have d13:=hd 13 (by kernel_rfl) (by decide)
    have hK':=hK
    simp only [updV,Nat.reduceEqDiff,↓reduceIte] at hK'
    clear hK hd
    generalize sq 0=x0,sq 1=x1,sq 2=x2,sq 3=x3,sq 4=x4,sq 5=x5,sq 6=x6,sq 7=x7,sq 8=x8,sq 9=x9,sq 10=x10,sq 11=x11,sq 12=x12,sq 13=x13,sq 14=x14,sq 15=x15,sq 16=x16,sq 17=x17,sq 18=x18,sq 19=x19,sq 20=x20 at *
    obtain rfl:=d13
    have hcc:=(KS.out.next hJ).cell 4
    go_simp
    exact hK' _ _ (Below.refl _ _) hJ rfl
   ·cases (show some _=some oq from hoq)
    have hK':=hK
    simp only [updV,Nat.reduceEqDiff,↓reduceIte] at hK'
    clear hK hd
    generalize sq 0=x0,sq 1=x1,sq 2=x2,sq 3=x3,sq 4=x4,sq 5=x5,sq 6=x6,sq 7=x7,sq 8=x8,sq 9=x9,sq 10=x10,sq 11=x11,sq 12=x12,sq 13=x13,sq 14=x14,sq 15=x15,sq 16=x16,sq 17=x17,sq 18=x18,sq 19=x19,sq 20=x20 at *
    go_simp
    exact hK' _ _ (Below.refl _ _) hJ rfl
   ·cases (show some _=some oq from hoq)
    have d15:=hd 15 (by kernel_rfl) (by decide)
    have hK':=hK
    simp only [updV,Nat.reduceEqDiff,↓reduceIte] at hK'
    clear hK hd
    generalize sq 0=x0,sq 1=x1,sq 2=x2,sq 3=x3,sq 4=x4,sq 5=x5,sq 6=x6,sq 7=x7,sq 8=x8,sq 9=x9,sq 10=x10,sq 11=x11,sq 12=x12,sq 13=x13,sq 14=x14,sq 15=x15,sq 16=x16,sq 17=x17,sq 18=x18,sq 19=x19,sq 20=x20 at *
    obtain rfl:=d15
    have hcc:=(KS.out.next hJ).cell 5
    go_simp
    exact hK' _ _ (Below.refl _ _) hJ rfl
   ·cases (show some _=some oq from hoq)
    have hK':=hK
    simp only [updV,Nat.reduceEqDiff,↓reduceIte] at hK'
    clear hK hd
    generalize sq 0=x0,sq 1=x1,sq 2=x2,sq 3=x3,sq 4=x4,sq 5=x5,sq 6=x6,sq 7=x7,sq 8=x8,sq 9=x9,sq 10=x10,sq 11=x11,sq 12=x12,sq 13=x13,sq 14=x14,sq 15=x15,sq 16=x16,sq 17=x17,sq 18=x18,sq 19=x19,sq 20=x20 at *
    go_simp
    exact hK' _ _ (Below.refl _ _) hJ rfl
   ·cases (show some _=some oq from hoq)
    have d17:=hd 17 (by kernel_rfl) (by decide)
    have hK':=hK
    simp only [updV,Nat.reduceEqDiff,↓reduceIte] at hK'
    clear hK hd
    generalize sq 0=x0,sq 1=x1,sq 2=x2,sq 3=x3,sq 4=x4,sq 5=x5,sq 6=x6,sq 7=x7,sq 8=x8,sq 9=x9,sq 10=x10,sq 11=x11,sq 12=x12,sq 13=x13,sq 14=x14,sq 15=x15,sq 16=x16,sq 17=x17,sq 18=x18,sq 19=x19,sq 20=x20 at *
    obtain rfl:=d17
    have hcc:=(KS.out.next hJ).cell 6
    go_simp
    exact hK' _ _ (Below.refl _ _) hJ rfl
   ·cases (show some _=some oq from hoq)
    have hK':=hK
    simp only [updV,Nat.reduceEqDiff,↓reduceIte] at hK'
    clear hK hd
    generalize sq 0=x0,sq 1=x1,sq 2=x2,sq 3=x3,sq 4=x4,sq 5=x5,sq 6=x6,sq 7=x7,sq 8=x8,sq 9=x9,sq 10=x10,sq 11=x11,sq 12=x12,sq 13=x13,sq 14=x14,sq 15=x15,sq 16=x16,sq 17=x17,sq 18=x18,sq 19=x19,sq 20=x20 at *
    go_simp
    exact hK' _ _ (Below.refl _ _) hJ rfl
   ·cases (show some _=some oq from hoq)
    have d2:=hd 2 (by kernel_rfl) (by decide)
    have d5:=hd 5 (by kernel_rfl) (by decide)
    have d8:=hd 8 (by kernel_rfl) (by decide)
    have d11:=hd 11 (by kernel_rfl) (by decide)
    have d14:=hd 14 (by kernel_rfl) (by decide)
    have d16:=hd 16 (by kernel_rfl) (by decide)
    have d18:=hd 18 (by kernel_rfl) (by decide)
    have d19:=hd 19 (by kernel_rfl) (by decide)
    have hK':=hK
    simp only [updV,Nat.reduceEqDiff,↓reduceIte] at hK'
    clear hK hd
    generalize sq 0=x0,sq 1=x1,sq 2=x2,sq 3=x3,sq 4=x4,sq 5=x5,sq 6=x6,sq 7=x7,sq 8=x8,sq 9=x9,sq 10=x10,sq 11=x11,sq 12=x12,sq 13=x13,sq 14=x14,sq 15=x15,sq 16=x16,sq 17=x17,sq 18=x18,sq 19=x19,sq 20=x20 at *
    obtain rfl:=d2
    obtain rfl:=d5
    obtain rfl:=d8
    obtain rfl:=d11
    obtain rfl:=d14
    obtain rfl:=d16
    obtain rfl:=d18
    obtain rfl:=d19
    go_simp
    exact hK' _ _ ((Below.refl _ _).alloc (Nat.le_refl _) _) (hJ.alloc hJ.size _) ⟨_,rfl,Blk.new _ _ _⟩
  ·intro sq w' hJ hφ
   simp only [List.drop_succ_cons,List.drop_zero]
   have d0:=hφ 0 (by decide)
   have d20:=hφ 20 (by decide)
   clear hφ
   generalize sq 0=x0,sq 1=x1,sq 2=x2,sq 3=x3,sq 4=x4,sq 5=x5,sq 6=x6,sq 7=x7,sq 8=x8,sq 9=x9,sq 10=x10,sq 11=x11,sq 12=x12,sq 13=x13,sq 14=x14,sq 15=x15,sq 16=x16,sq 17=x17,sq 18=x18,sq 19=x19,sq 20=x20 at *
   obtain ⟨g,rfl,hgz,hg⟩:=d0
   obtain ⟨b,rfl,hbl⟩:=d20
   have hne:b≠g:=by
    intro e
    subst e
    have h2:some _=some _:=hg.symm.trans hbl
    cases h2
   have HG:=Lib.hid hg
   have HBL:=Lib.hid hbl
   have HB2:=Lib.hid (below_next HB.out hJ)
   have HZ:=Lib.hid hJ.size
   clear hg hbl hJ
   go_wp2_with fail
   refine (hashin_any 17 (some ⟨b,0,none⟩) 8 8 g [tick,ax,ay,fx,fy,turn,gate,f] _ ⟨by decide,by decide⟩ (RdI.blk HBL.out) (by omega) HG.out (by simpa using hne)).mono ?_
   rintro e w2 ⟨rfl,ho,hg⟩
   have HB3:=Lib.hid (HB2.out.trans (ho.below (by have h1:=HB.out.size;omega) HB2.out.size))
   clear ho hg
   go_wp2_with fail
   go_ret
   exact ⟨ret_int HRES.out.symm,HB3.out⟩
end Go.Proofs.YtpcjdalgebgofaaGreatDoorY
namespace Go.Proofs.YtpcjdalgebgofaaGreatDoorY
open Go.RowKit Go.Sort
abbrev car00:Car:=⟨0,0,0,0,0,0,0,false,false⟩
theorem RdC.cells {w:World} {A:Option Addr} {n:Nat} {xs:List Car} (h:Rd encC 9 w A n xs) {k:Nat} (hk:k<n):∃ b off x,A=some ⟨b,off,none⟩∧b<w.heap.size∧xs[k]?=some x∧w.cell? ⟨b,off+k * 9,none⟩=some (.int .i64 x.tick)∧w.cell? ⟨b,off+k * 9+1,none⟩=some (.int .i64 x.ax)∧w.cell? ⟨b,off+k * 9+2,none⟩=some (.int .i64 x.ay)∧w.cell? ⟨b,off+k * 9+3,none⟩=some (.int .i64 x.fx)∧w.cell? ⟨b,off+k * 9+4,none⟩=some (.int .i64 x.fy)∧w.cell? ⟨b,off+k * 9+5,none⟩=some (.int .i64 x.turn)∧w.cell? ⟨b,off+k * 9+6,none⟩=some (.int .i64 x.gate)∧w.cell? ⟨b,off+k * 9+7,none⟩=some (.bool x.dn)∧w.cell? ⟨b,off+k * 9+8,none⟩=some (.bool x.ov):=by
 obtain ⟨b,off,x,hA,hb,hx,hc⟩:=h.at_ hk
 exact ⟨b,off,x,hA,hb,hx,hc 0 _ rfl,hc 1 _ rfl,hc 2 _ rfl,hc 3 _ rfl,hc 4 _ rfl,hc 5 _ rfl,hc 6 _ rfl,hc 7 _ rfl,hc 8 _ rfl⟩
theorem statesW_at {l:Lvl} {xs:List Inp} {k:Nat} {x:Car} (h:(statesW l xs)[k]?=some x):x=runW l xs k:=by
 unfold statesW at h
 rw [List.getElem?_map] at h
 obtain ⟨j,hj,e⟩:=Option.map_eq_some_iff.1 h
 have hk:k<xs.length+1:=by simpa using (List.getElem?_eq_some_iff.1 hj).1
 rw [List.getElem?_range hk] at hj
 cases hj
 exact e.symm
noncomputable def runToW (l:Lvl) (xs:List Inp) (m:Int):Car × Bool:=if okW l xs && inR m 0 xs.length then (runW l xs m.toNat,true) else (car00,false)
set_option maxRecDepth 100000 in
set_option maxHeartbeats 4000000 in
theorem implRunTo_any (l:Lvl) (ws gs:Sl) (A:Option Addr) (n c:Nat) (m:Int) (xs:List Inp) (w:World) (hl:RdL w l ws gs) (hr:RdN w A n xs) (hn:n≤1048576) :
  Calls Qy.prog 17 #[lvlV l ws gs,.slice A n c,.int .i64 m] w fun e w'=>e=.returned (.tuple #[carV (runToW l xs m).1,.bool (runToW l xs m).2])∧Below w.heap.size w w':=by
 have hlen:=hr.len
 have HL:=Lib.hid hl
 have HR:=Lib.hid hr
 have HT:=Lib.hid (show runToW l xs m=if okW l xs && inR m 0 n then (runW l xs m.toNat,true) else (car00,false) by unfold runToW;rw [hlen])
 clear hl hr
 go_enter Qy.func17,Tryz.ntmps17
 go_wp2_with fail
 refine (statesOf_any l ws gs A n c xs _ (HL.out.below (ba (ba (Below.refl _ _)))) (HR.out.below (ba (ba (Below.refl _ _)))) hn).mono ?_
 rintro e w1 (⟨hk,rfl,hb⟩|⟨hk,A1,c1,rfl,ho,hb⟩)
 ·have HE:=Lib.hid (show runToW l xs m=(car00,false) by rw [HT.out,hk];rfl)
  have KR:=Lib.hid ((Blk.newAt _ 45 car0 (w.heap.size+1) (by simp)).next hb)
  have HB:=Lib.hid (ba (ba hb))
  clear hb hk
  have cr:=fun o=>KR.out.cell o
  have fr:=fun o=>KR.out.frozen o
  have zr:=KR.out.lt
  go_wp2_with fail
  refine bodyPost_ret (v:=.tuple #[carV car00,.bool false]) (by simp [results,Tryz.results17,go_sem,cr,carV]) rfl ⟨by rw [HE.out],?_⟩
  have hb:=HB.out
  go_grown
 have KR:=Lib.hid ((Blk.newAt _ 45 car0 (w.heap.size+1) (by simp)).next hb)
 have HB:=Lib.hid (ba (ba hb))
 have HO:=Lib.hid (Ow.rd encC_len (by decide) ho)
 have HK:=Lib.hid hk
 clear hb hk ho
 rw [hlen]
 go_wp2_with fail
 refine (inRange_any _ _ _ _).mono ?_
 rintro e w' ⟨rfl,rfl⟩
 cases hm:inR m 0 n
 ·have HE:=Lib.hid (show runToW l xs m=(car00,false) by rw [HT.out,hm,HK.out];rfl)
  clear hm
  have cr:=fun o=>KR.out.cell o
  have fr:=fun o=>KR.out.frozen o
  have zr:=KR.out.lt
  go_wp2_with fail
  refine bodyPost_ret (v:=.tuple #[carV car00,.bool false]) (by simp [results,Tryz.results17,go_sem,cr,carV]) rfl ⟨by rw [HE.out],?_⟩
  have hb:=HB.out
  go_grown
 have HE:=Lib.hid (show runToW l xs m=(runW l xs m.toNat,true) by rw [HT.out,hm,HK.out];rfl)
 obtain ⟨k,rfl,hkn⟩:∃ k:Nat,m=(k:Int)∧k≤n:=by
  simp only [inR,Bool.and_eq_true,decide_eq_true_eq] at hm
  exact ⟨m.toNat,by omega,by omega⟩
 clear hm
 obtain ⟨b,off,x,rfl,hbb,hx,h0,h1,h2,h3,h4,h5,h6,h7,h8⟩:=RdC.cells HO.out (show k<xs.length+1 by omega)
 have HX:=Lib.hid (statesW_at hx)
 clear hx
 have cr:=fun o=>KR.out.cell o
 have fr:=fun o=>KR.out.frozen o
 have zr:=KR.out.lt
 go_wp2_with fail
 refine bodyPost_ret (v:=.tuple #[carV x,.bool true]) (by simp [results,Tryz.results17,go_sem,cr,carV]) rfl ⟨by rw [HE.out,HX.out];rfl,?_⟩
 have hb:=HB.out
 go_grown
set_option maxRecDepth 100000 in
set_option maxHeartbeats 4000000 in
theorem implRunScore_any (l:Lvl) (ws gs:Sl) (A:Option Addr) (n c:Nat) (xs:List Inp) (w:World) (hl:RdL w l ws gs) (hr:RdN w A n xs) (hn:n≤1048576) :
  Calls Qy.prog 21 #[lvlV l ws gs,.slice A n c] w fun e w'=>e=.returned (.int .i64 (scoreW l xs))∧Below w.heap.size w w':=by
 have hlen:=hr.len
 have HL:=Lib.hid hl
 have HR:=Lib.hid hr
 have HT:=Lib.hid (show scoreW l xs=if (runToW l xs n).2 then (if (runToW l xs n).1.dn then (runToW l xs n).1.tick else -1) else -1 by
  unfold scoreW runToW
  have:inR (n:Int) 0 xs.length=true:=by simp [inR];omega
  rw [this]
  cases okW l xs
  ·rfl
  ·simp [hlen])
 clear hl hr
 go_enter Qy.func21,Tryz.ntmps21
 go_wp2_with fail
 refine (implRunTo_any l ws gs A n c n xs _ (HL.out.below (ba (Below.refl _ _))) (HR.out.below (ba (Below.refl _ _))) hn).mono ?_
 rintro e w1 ⟨rfl,hb⟩
 have HB:=Lib.hid (ba hb)
 clear hb
 obtain ⟨⟨car,ok⟩,hcr⟩:∃ q,runToW l xs n=q:=⟨_,rfl⟩
 have ht:=HT.out
 rw [hcr] at ht ⊢
 have HT2:=Lib.hid ht
 clear ht hcr HT
 simp only
 obtain ⟨tick,ax,ay,fx,fy,turn,gate,dn,ov⟩:=car
 rw [show carV ⟨tick,ax,ay,fx,fy,turn,gate,dn,ov⟩=.agg #[.int .i64 tick,.int .i64 ax,.int .i64 ay,.int .i64 fx,.int .i64 fy,.int .i64 turn,.int .i64 gate,.bool dn,.bool ov] from rfl]
 cases ok <;> cases dn <;>
 ·go_wp2_with fail
  go_ret
  exact ⟨ret_int (by rw [HT2.out];rfl),HB.out.alloc HB.out.size _⟩
set_option maxRecDepth 100000 in
set_option maxHeartbeats 4000000 in
theorem implRunHashes_any (l:Lvl) (ws gs:Sl) (A:Option Addr) (n c:Nat) (xs:List Inp) (w:World) (hl:RdL w l ws gs) (hr:RdN w A n xs) (hn:n≤1048576) :
  Calls Qy.prog 19 #[lvlV l ws gs,.slice A n c] w (IntsPost w.heap.size (hashesW l xs) w):=by
 have hlen:=hr.len
 obtain ⟨i0,hi0,hy0,hy1,hy2⟩:=info_parts infoZ
 have HI:=Lib.hid hi0
 have HZ:=Lib.hid hy0
 have HS:=Lib.hid hy1
 have HBY:=Lib.hid hy2
 clear hi0 hy0 hy1 hy2
 have HL:=Lib.hid hl
 have HR:=Lib.hid hr
 clear hl hr
 go_enter Qy.func19,Tryz.ntmps19
 go_wp2_with fail
 refine (statesOf_any l ws gs A n c xs _ (HL.out.below (ba (Below.refl _ _))) (HR.out.below (ba (Below.refl _ _))) hn).mono ?_
 rintro e w1 (⟨hk,rfl,hb⟩|⟨hk,A1,c1,rfl,ho,hb⟩)
 ·have HE:=Lib.hid (show hashesW l xs=[] by unfold hashesW;rw [hk];rfl)
  have HB:=Lib.hid (ba hb)
  clear hb hk
  go_wp2_with fail
  refine wp_loop_rounds 1 ?_
  rw [rounds_succ]
  go_wp2_with fail
  go_ret
  unfold IntsPost
  rw [HE.out]
  exact ⟨none,0,rfl,Ow.bare _ _ _ _ _,HB.out⟩
 have HB:=Lib.hid (ba hb)
 have HO:=Lib.hid (Ow.rd encC_len (by decide) ho)
 have HK:=Lib.hid hk
 have hz1:=HB.out.size
 clear hb hk ho
 rw [hlen]
 go_wp2_with fail
 go_loopw [7,8] (fun out i wr=>∃ (k:Nat) (A':Option Addr) (c':Nat),5 * k≤n∧i=.int .i64 (5 * (k+1):Nat)∧out=.slice A' k c'∧Hid (Below w1.heap.size w1 wr∧Ow w1.heap.size wr 3 1 A' k c' (cellsI ((List.range k).map fun j=>carHash (runW l xs (5 * (j+1))))))) (fun _ i _=>n+5 - (intOf i).toNat)
 case atStart=>exact ⟨0,none,0,by omega,rfl,rfl,Below.refl _ _,Ow.bare _ _ _ _ _⟩
 case round =>
  obtain ⟨k,A',c',hk,rfl,rfl,HH⟩:=hrel
  obtain ⟨HB2,HOW⟩:=HH.out
  replace HB2:=Lib.hid HB2
  replace HOW:=Lib.hid HOW
  clear HH
  obtain ⟨K5,hK5⟩:∃ K5:Nat,K5=5 * (k+1):=⟨_,rfl⟩
  rw [← hK5]
  have HK5:=Lib.hid hK5
  have hKb:K5≤n+5:=by omega
  clear hK5
  by_cases hlt:K5<n+1
  ·have hlt':decide ((K5:Int)<(n:Int)+1)=true:=by simp;omega
   obtain ⟨b,off,x,rfl,hbb,hx,h0,h1,h2,h3,h4,h5,h6,h7,h8⟩:=RdC.cells (HO.out.below HB2.out) (show K5<xs.length+1 by omega)
   have HX:=Lib.hid (statesW_at hx)
   have HX1:=Lib.hid (show (x.dn && x.ov)=false by rw [statesW_at hx];exact runW_one l xs K5)
   clear hx
   go_wp2_with fail
   refine (hashOf_any x _ HX1.out).mono ?_
   rintro e w3 ⟨rfl,hb⟩
   replace HOW:=Lib.hid (Ow.next HOW.out hb)
   replace HB2:=Lib.hid (below_next HB2.out hb)
   clear hb h0 h1 h2 h3 h4 h5 h6 h7 h8
   obtain ⟨z,hz⟩:∃ z,carHash x=z:=⟨_,rfl⟩
   rw [hz]
   have HZK:=Lib.hid (show carHash (runW l xs K5)=z by rw [← HX.out];exact hz)
   clear hz
   have hzs:=HB2.out.size
   go_wp2_with (at_builtin;refine wpList_append_ow _ rfl (.tmp 21) (.tmp 27) _ rfl w1.heap.size 3 i0 _ 1 8 (Qy.un Tryz.underlying31) HI.out HZ.out HS.out HBY.out rfl (by omega) _ k c' _ rfl (HOW.out.alloc _) _ 1 1 (cellsI [z]) rfl (Src.blk (Blk.new _ _ _) rfl) (cellsI_one _) (by unfold maxLen;omega) (by omega) (by simp;omega) ?_;intro A2 c2 w5 hown5 hg5 _;have HO5:=Lib.hid hown5;have HG5:=Lib.hid hg5;clear hown5 hg5)
   have hrow:=HOW.out.alloc (.cells #[.int .i64 z] 3)
   refine ⟨⟨k+1,A2,c2,by have:=HK5.out;omega,by have:=HK5.out;go_num,rfl,?_,?_⟩,by simp [intOf];omega⟩
   ·exact hrow.grown HG5.out (HB2.out.alloc HB2.out.size _) (by omega) (by simp;omega)
   ·have:=HO5.out
    have hzk:carHash (runW l xs (5 * (k+1)))=z:=by rw [← HK5.out];exact HZK.out
    rw [List.range_succ,List.map_append]
    show Ow _ _ _ 1 _ _ _ (List.map (Value.int .i64) (_ ++ [carHash (runW l xs (5 * (k+1)))]))
    rw [List.map_append,hzk]
    exact this
  ·have hlt':decide ((K5:Int)<(n:Int)+1)=false:=by simp;omega
   have HRES:=Lib.hid (show hashesW l xs=(List.range k).map fun j=>carHash (runW l xs (5 * (j+1))) by
    unfold hashesW
    rw [HK.out,if_pos rfl,show xs.length / 5=k by have:=HK5.out;omega])
   go_wp2_with fail
   go_ret
   unfold IntsPost
   rw [HRES.out]
   exact ⟨A',c',by simp,by simpa using HOW.out.mono hz1,below_next HB.out HB2.out⟩
end Go.Proofs.YtpcjdalgebgofaaGreatDoorY
namespace Go.Proofs.YtpcjdalgebgofaaGreatDoorY
open Go.RowKit Go.Sort
def listI (r:Rep):List Int:=if repOk r then listW r else []
set_option maxRecDepth 100000 in
set_option maxHeartbeats 4000000 in
theorem implReplayList_any (r:Rep) (si sh:Sl) (w:World) (hr:RdR w r si sh) :
  Calls Qy.prog 15 #[repV r si sh] w (IntsPost w.heap.size (listI r) w):=by
 obtain ⟨i0,hi0,hy0,hy1,hy2⟩:=info_parts infoZ
 have HI:=Lib.hid hi0
 have HZ:=Lib.hid hy0
 have HS:=Lib.hid hy1
 have HBY:=Lib.hid hy2
 clear hi0 hy0 hy1 hy2
 have HRR:=Lib.hid hr
 obtain ⟨hi,hh,⟨_,hn1⟩,_,hn2⟩:=hr
 have HIN:=Lib.hid hi
 have HH:=Lib.hid hh
 clear hi hh
 go_enter Qy.func15,Tryz.ntmps15
 go_wp2_with fail
 refine (implReplayValid_any r si sh _ (HRR.out.below (ba (Below.refl _ _)))).mono ?_
 rintro e w1 ⟨rfl,hb⟩
 have KR:=Lib.hid ((Blk.new w 33 (repC r si sh)).next hb)
 have HB:=Lib.hid (ba hb)
 clear hb
 cases hok:repOk r
 ·have HE:=Lib.hid (show listI r=[] by unfold listI;rw [hok];rfl)
  clear hok
  go_wp2_with fail
  go_ret
  unfold IntsPost
  rw [HE.out]
  exact ⟨none,0,rfl,Ow.bare _ _ _ _ _,HB.out⟩
 have HE:=Lib.hid (show listI r=listW r by unfold listI;rw [hok];rfl)
 have HF:=Lib.hid (repOk_facts hok).2.2.2.2.2.1
 clear hok
 have hz1:=HB.out.size
 have cr:=fun o=>KR.out.cell o
 have fr:=fun o=>KR.out.frozen o
 have zr:=KR.out.lt
 go_wp2_with fail
 go_loopw [3,22] (fun out i wr=>∃ (k m:Nat) (A':Option Addr) (c':Nat),k≤si.n∧m=4+k∧i=.int .i64 k∧out=.slice A' m c'∧Hid (Below w.heap.size w wr∧Blk wr w.heap.size 33 (repC r si sh)∧Ow (w.heap.size+1) wr 3 1 A' m c' (cellsI ([r.lv,r.pl,r.sc,(si.n:Int)] ++ (r.ins.take k).map codeW)))) (fun _ i _=>si.n - (intOf i).toNat)
 case atStart=>exact ⟨0,4,_,4,Nat.zero_le _,rfl,rfl,rfl,HB.out.alloc HB.out.size _,KR.out.alloc _,Ow.of_blk (Blk.newAt _ _ _ _ (by simp)) rfl (by decide) (by have:=KR.out.lt;omega)⟩
 case round =>
  obtain ⟨k,m,A',c',hk,hm,rfl,rfl,HQ⟩:=hrel
  clear HB KR
  obtain ⟨HB,KR,HOW⟩:=HQ.out
  replace HB:=Lib.hid HB
  replace KR:=Lib.hid KR
  replace HOW:=Lib.hid HOW
  have HM:=Lib.hid hm
  have hmb:m≤1048580:=by omega
  clear HQ hm cr fr zr
  have cr:=fun o=>KR.out.cell o
  have fr:=fun o=>KR.out.frozen o
  have zr:=KR.out.lt
  by_cases hlt:k<si.n
  ·obtain ⟨b,off,x,hA,hb,hx,h0,h1,h2⟩:=RdN.cells (HIN.out.below HB.out) hlt
   have HX:=Lib.hid hx
   have HXO:=Lib.hid (show codeI x=codeW x by unfold codeI;rw [HF.out x (List.mem_of_getElem? hx)];rfl)
   have HA:=Lib.hid hA
   clear hx
   rw [hA]
   clear hA
   go_wp2_with fail
   refine (implInputCode_any x _).mono ?_
   rintro e w2 ⟨rfl,hb1⟩
   rw [HXO.out]
   have hba:Below wr.heap.size wr (wr.alloc (.cells #[.int .i64 x.s,.int .i64 x.p,.bool x.z] 74)):=(Below.refl _ _).alloc (Nat.le_refl _) _
   replace HOW:=Lib.hid (Ow.next (Ow.next HOW.out hba) hb1)
   replace KR:=Lib.hid ((KR.out.next hba).next hb1)
   replace HB:=Lib.hid (below_next (below_next HB.out hba) hb1)
   clear hb1 hba cr fr zr h0 h1 h2
   obtain ⟨z,hz⟩:∃ z,codeW x=z:=⟨_,rfl⟩
   rw [hz]
   have HZX:=Lib.hid hz
   clear hz
   have hzs:=HB.out.size
   have hzl:=KR.out.lt
   go_wp2_with (at_builtin;refine wpList_append_ow _ rfl (.tmp 26) (.tmp 29) _ rfl (w.heap.size+1) 3 i0 _ 1 8 (Qy.un Tryz.underlying31) HI.out HZ.out HS.out HBY.out rfl (by omega) _ m c' _ rfl (HOW.out.alloc _) _ 1 1 (cellsI [z]) rfl (Src.blk (Blk.new _ _ _) rfl) (cellsI_one _) (by unfold maxLen;omega) (by omega) (by simp;omega) ?_;intro A2 c2 w5 hown5 hg5 _;have HO5:=Lib.hid hown5;have HG5:=Lib.hid hg5;clear hown5 hg5)
   have hrow:=HOW.out.alloc (.cells #[.int .i64 z] 3)
   refine ⟨⟨k+1,m+1,A2,c2,by omega,by have:=HM.out;omega,by go_num,rfl,?_,?_,?_⟩,by simp [intOf];omega⟩
   ·exact (hrow.grown HG5.out (HB.out.alloc HB.out.size _) (by omega) (by simp;omega))
   ·exact (KR.out.alloc _).frm (Frm.of_own (lo:=w.heap.size+1) (hi:=(w2.alloc (.cells #[.int .i64 z] 3)).heap.size) (OwI.of hrow) HG5.out) (by omega)
   ·have he:cellsI ([r.lv,r.pl,r.sc,(si.n:Int)] ++ (r.ins.take (k+1)).map codeW)=cellsI ([r.lv,r.pl,r.sc,(si.n:Int)] ++ (r.ins.take k).map codeW) ++ cellsI [z]:=by
     rw [List.take_add_one,HX.out]
     simp [cellsI,HZX.out]
    rw [he]
    exact HO5.out
  ·have hkn:k=si.n:=by omega
   subst hkn
   have HTK:=Lib.hid (show r.ins.take si.n=r.ins from List.take_of_length_le (by rw [HIN.out.len];exact Nat.le_refl _))
   have HLEN:=Lib.hid HIN.out.len
   have hzs:=HB.out.size
   have hzl:=KR.out.lt
   have hsn:=HH.out.len
   go_wp2_with (at_builtin;refine wpList_append_ow _ rfl (.tmp 32) (.tmp 34) _ rfl (w.heap.size+1) 3 i0 _ 1 8 (Qy.un Tryz.underlying31) HI.out HZ.out HS.out HBY.out rfl (by omega) _ m c' _ rfl HOW.out sh.a sh.n sh.c (cellsI r.hs) rfl (Src.ints (HH.out.below HB.out)) (cellsI_one _) (by unfold maxLen;omega) (by omega) (by omega) ?_;intro A2 c2 w5 hown5 hg5 _;have HO5:=Lib.hid hown5;have HG5:=Lib.hid hg5;clear hown5 hg5)
   go_ret
   have hll:(listW r).length=m+sh.n:=by
    have h1:=HM.out
    have h2:=HLEN.out
    simp [listW]
    omega
   unfold IntsPost
   rw [HE.out]
   refine ⟨A2,c2,by rw [hll];rfl,?_,HOW.out.grown HG5.out HB.out (by omega) (by omega)⟩
   have h5:=HO5.out
   rw [HTK.out,← HLEN.out] at h5
   rw [hll]
   refine Ow.mono (B:=w.heap.size+1) ?_ (by omega)
   show Ow _ _ _ 1 _ _ _ (List.map (Value.int .i64) (_ ++ r.hs))
   rw [List.map_append]
   exact h5
end Go.Proofs.YtpcjdalgebgofaaGreatDoorY
namespace Go.Proofs.YtpcjdalgebgofaaGreatDoorY
open Go.RowKit Go.Sort
open Go.Proofs.YtpcjdalgebgofaaGreatDoor (seqFn FJD difV difB)
def RdO (w:World) (A:Option Addr) (n:Nat) (bs:List Bool):Prop:=bs.length=n∧(0<n→∃ b off,A=some ⟨b,off,none⟩∧b<w.heap.size∧∀ j z,bs[j]?=some z→w.cell? ⟨b,off+j,none⟩=some (.bool z))
section
variable {w w':World} {A:Option Addr} {n:Nat} {bs:List Bool}
theorem RdO.at_ (h:RdO w A n bs) {j:Nat} (hj:j<n):∃ b off z,A=some ⟨b,off,none⟩∧b<w.heap.size∧bs[j]?=some z∧w.cell? ⟨b,off+j,none⟩=some (.bool z):=by
 obtain ⟨b,off,hA,hb,hc⟩:=h.2 (by omega)
 have hl:j<bs.length:=by rw [h.1];exact hj
 exact ⟨b,off,bs[j],hA,hb,List.getElem?_eq_getElem hl,hc j _ (List.getElem?_eq_getElem hl)⟩
end
def diffL (a b:List Int) (n:Nat):List Bool:=(List.range n).map fun i=>differW a b i
theorem difB_eq (a b:List Int) (i:Nat):difB a.length b.length (a.take (min a.length b.length)) (b.take (min a.length b.length)) i=differW a b i:=by
 unfold difB differW
 by_cases h1:i<a.length
 ·by_cases h2:i<b.length
  ·have hm:i<min a.length b.length:=by omega
   have e1:(a.take (min a.length b.length)).getD i 0=(a[i]?).getD 0:=by rw [List.getD_eq_getElem?_getD,List.getElem?_take,if_pos hm]
   have e2:(b.take (min a.length b.length)).getD i 0=(b[i]?).getD 0:=by rw [List.getD_eq_getElem?_getD,List.getElem?_take,if_pos hm]
   rw [e1,e2,Bool.or_assoc]
  ·simp [Nat.le_of_not_lt h2]
 ·simp [Nat.le_of_not_lt h1]
theorem differences_any (A B:Option Addr) (la ca lb cb n:Nat) (a b:List Int) (w:World) (ha:RdI .i64 w A la a) (hb:RdI .i64 w B lb b) (h1:la≤64) (h2:lb≤64) (hn:n=max la lb) :
  Calls Qy.prog 54 #[.slice A la ca,.slice B lb cb] w fun e w'=>∃ C,e=.returned (.slice C n n)∧RdO w' C n (diffL a b n)∧Below w.heap.size w w':=by
 have hla:=ha.len
 have hlb:=hb.len
 subst hla hlb
 refine calls_of_wp (c:=seqBody) Qy.func54 rfl ?_
 simp only [Qy.ntmps54,List.size_toArray,List.length_cons,List.length_nil,Nat.reduceAdd,Nat.reduceSub,Array.replicate_succ,Array.replicate_zero,List.push_toArray,List.append_toArray,List.nil_append,List.cons_append]
 refine wp_mono (seq_wp A B _ ca _ cb _ n _ _ w rfl hn (ha.take (Nat.min_le_left _ _)) (hb.take (Nat.min_le_right _ _)) ⟨h1,h2⟩ undef undef undef undef undef undef undef undef undef undef undef undef undef undef undef undef undef undef undef undef undef undef undef (if n=0 then none else some 64) rfl) ?_
 rintro e ⟨T,ds⟩ w' ⟨rfl,hd,h4,hF⟩
 simp only at hd h4
 subst hd
 refine bodyPost_ret (v:=.slice (some ⟨w.heap.size+2,0,none⟩) n n) (by simp [results,seqFn,h4]) rfl ⟨_,rfl,⟨by simp [diffL],fun h0=>⟨w.heap.size+2,0,rfl,by have:=hF.fj.size_ge;omega,fun j z hz=>?_⟩⟩,hF.fj.below⟩
 obtain ⟨arr,f1,f2,f3⟩:=hF.fill
 have hj:j<n:=by
  rcases Nat.lt_or_ge j n with h|h
  ·exact h
  ·rw [List.getElem?_eq_none (by simp [diffL];omega)] at hz;cases hz
 have hz':z=differW a b j:=by
  simp [diffL,hj] at hz
  exact hz.symm
 subst hz'
 have:=f3 j hj
 simp only [difV,difB_eq] at this
 simp [World.cell?,f1,this]
def goB (g:Nat→Bool):Nat→Nat→Int
 | 0,_ => -1
 | f+1,i=>if g i then i else goB g f (i+1)
def idxB (bs:List Bool):Int:=goB (fun i=>(bs[i]?).getD false) bs.length 0
theorem goB_eq {a b:List Int} {g:Nat→Bool}:∀ (f i:Nat),(∀ j,i≤j→j<i+f→g j=differW a b j)→goB g f i=divGo a b f i
 | 0,_,_=>rfl
 |f+1,i,h=>by
  simp only [goB,divGo,h i (Nat.le_refl _) (by omega)]
  rw [goB_eq f (i+1) fun j h1 h2=>h j (by omega) (by omega)]
theorem idxB_diff (a b:List Int) (n:Nat) (hn:n=max a.length b.length):idxB (diffL a b n)=divW a b:=by
 unfold idxB divW
 have hl:(diffL a b n).length=n:=by simp [diffL]
 rw [hl,← hn]
 refine goB_eq n 0 fun j _ hj=>?_
 have:j<n:=by omega
 simp [diffL,this]
set_option maxRecDepth 100000 in
set_option maxHeartbeats 2000000 in
theorem indexB_any (A:Option Addr) (n c:Nat) (bs:List Bool) (w:World) (hr:RdO w A n bs) (hn:n≤1048576) :
  Calls Qy.prog 53 #[.slice A n c,.bool true] w fun e w'=>e=.returned (.int .i64 (idxB bs))∧Below w.heap.size w w':=by
 have HR:=Lib.hid hr
 have HD:=Lib.hid (show idxB bs=goB (fun i=>(bs[i]?).getD false) n 0 by unfold idxB;rw [hr.1])
 clear hr
 go_enter Qy.func53,Tryz.ntmps53
 go_wp2_with fail
 go_loopw [8] (fun i wr=>∃ k:Nat,k≤n∧i=.int .i64 k∧Hid (Below w.heap.size w wr∧idxB bs=goB (fun i=>(bs[i]?).getD false) (n - k) k)) (fun i _=>n - (intOf i).toNat)
 case atStart=>exact ⟨0,Nat.zero_le _,rfl,Below.refl _ _,HD.out⟩
 case round =>
  obtain ⟨k,hk,rfl,HQ⟩:=hrel
  obtain ⟨HB,HG⟩:=HQ.out
  replace HB:=Lib.hid HB
  replace HG:=Lib.hid HG
  clear HQ
  by_cases hlt:k<n
  ·obtain ⟨b,off,z,rfl,hb,hz,hc⟩:=HR.out.at_ hlt
   have HST:=Lib.hid (show idxB bs=if z then (k:Int) else goB (fun i=>(bs[i]?).getD false) (n - (k+1)) (k+1) by rw [HG.out,show n - k=(n - (k+1))+1 by omega,goB];simp [hz])
   have hc':wr.cell? ⟨b,off+k,none⟩=some (.bool z):=by rw [(bcell HB.out).1 b _ hb];exact hc
   clear hc hz
   cases z
   ·have HE:=Lib.hid (show idxB bs=goB (fun i=>(bs[i]?).getD false) (n - (k+1)) (k+1) by rw [HST.out];rfl)
    clear HST
    go_wp2_with fail
    exact ⟨⟨k+1,by omega,by go_num,HB.out,HE.out⟩,by simp [intOf];omega⟩
   ·have HE:=Lib.hid (show idxB bs=k by rw [HST.out];rfl)
    clear HST
    go_wp2_with fail
    go_ret
    exact ⟨ret_int (by rw [HE.out]),HB.out⟩
  ·obtain rfl:k=n:=by omega
   have HE:=Lib.hid (show idxB bs = -1 by rw [HG.out,Nat.sub_self];rfl)
   go_wp2_with fail
   go_ret
   exact ⟨ret_int (by rw [HE.out]),HB.out⟩
theorem implDivergeFirst_any (A B:Option Addr) (la ca lb cb:Nat) (a b:List Int) (w:World) (ha:RdI .i64 w A la a) (hb:RdI .i64 w B lb b) (h1:la≤64) (h2:lb≤64) :
  Calls Qy.prog 18 #[.slice A la ca,.slice B lb cb] w fun e w'=>e=.returned (.int .i64 (divW a b))∧Below w.heap.size w w':=by
 have HA:=Lib.hid ha
 have HB:=Lib.hid hb
 clear ha hb
 obtain ⟨n,hn⟩:∃ n:Nat,n=max la lb:=⟨_,rfl⟩
 have hn64:n≤64:=by omega
 have HN:=Lib.hid hn
 clear hn
 go_enter Qy.func18,Tryz.ntmps18
 go_wp2_with fail
 refine (differences_any A B la ca lb cb n a b _ HA.out HB.out h1 h2 HN.out).mono ?_
 rintro e w1 ⟨C,rfl,hC,hb1⟩
 have HC:=Lib.hid hC
 have HB1:=Lib.hid hb1
 clear hb1 hC
 go_wp2_with fail
 refine (indexB_any C n n (diffL a b n) _ HC.out (by omega)).mono ?_
 rintro e w2 ⟨rfl,hb2⟩
 replace HB1:=Lib.hid (below_next HB1.out hb2)
 clear hb2
 go_wp2_with fail
 go_ret
 exact ⟨ret_int (by rw [idxB_diff a b n (by rw [HA.out.len,HB.out.len];exact HN.out)]),HB1.out⟩
end Go.Proofs.YtpcjdalgebgofaaGreatDoorY

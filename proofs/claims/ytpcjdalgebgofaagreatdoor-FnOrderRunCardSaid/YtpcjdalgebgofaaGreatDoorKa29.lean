/-
  Lemmas and contracts: YWn YVn YVo YVq YWo. No condition.
-/
import Derived.Deep.CutBlock
import Derived.Test.YtpcjdalgebgofaaGreatDoorKa13
import Derived.Test.YtpcjdalgebgofaaGreatDoorKa16
import Derived.Test.YtpcjdalgebgofaaGreatDoorKa28
set_option linter.unusedSimpArgs false
set_option linter.unusedVariables false
set_option linter.unusedSectionVars false
namespace Go.Proofs.YtpcjdalgebgofaaGreatDoorY
open Go.RowKit Go.Sort
theorem hashesW_len (l:Lvl) (xs:List Inp):(hashesW l xs).length≤64:=by
 unfold hashesW
 cases h:okW l xs
 ·simp
 ·have:=okW_len h
  simp
  omega
noncomputable def repW (l:Lvl) (xs:List Inp) (hs:List Int):(Int × Int × Int) × Bool :=
 if okW l xs && decide (0≤divW (hashesW l xs) hs) then ((divW (hashesW l xs) hs,divW (hashesW l xs) hs * 5,min ((divW (hashesW l xs) hs+1) * 5) xs.length),true) else ((0,0,0),false)
theorem divGo_le {a b:List Int}:∀ (f i:Nat),divGo a b f i<(i+f:Nat)
 | 0,i=>by simp [divGo];omega
 |f+1,i=>by
  rw [divGo]
  split
  ·omega
  ·have:=divGo_le (a:=a) (b:=b) f (i+1)
   omega
theorem divW_le {a b:List Int} (ha:a.length≤64) (hb:b.length≤64):divW a b≤64:=by
 have:=divGo_le (a:=a) (b:=b) (max a.length b.length) 0
 unfold divW
 omega
set_option maxRecDepth 100000 in
set_option maxHeartbeats 4000000 in
theorem divergeReport_any (l:Lvl) (ws gs:Sl) (A B:Option Addr) (n c m cm:Nat) (xs:List Inp) (hs:List Int) (w:World) (hl:RdL w l ws gs) (hr:RdN w A n xs) (hn:n≤1048576) (hc:RdI .i64 w B m hs) (hm:m≤64) :
  Calls Qy.prog 58 #[lvlV l ws gs,.slice A n c,.slice B m cm] w fun e w'=>e=.returned (.tuple #[.agg #[.int .i64 (repW l xs hs).1.1,.int .i64 (repW l xs hs).1.2.1,.int .i64 (repW l xs hs).1.2.2],.bool (repW l xs hs).2])∧Below w.heap.size w w':=by
 have hlen:=hr.len
 have hmm:=hc.len
 have HL:=Lib.hid hl
 have HR:=Lib.hid hr
 have HC:=Lib.hid hc
 clear hl hr hc
 go_enter Qy.func58,Tryz.ntmps58
 go_wp2_with fail
 refine (implLevelValid_any l ws gs _ (HL.out.below (ba (ba (Below.refl _ _))))).mono ?_
 rintro e w1 ⟨rfl,hb⟩
 have KL:=Lib.hid (((Blk.new w 29 (lvlC l ws gs)).alloc _).next hb)
 have KR:=Lib.hid ((Blk.newAt _ 88 #[.int .i64 0,.int .i64 0,.int .i64 0] (w.heap.size+1) (by simp)).next hb)
 have HB:=Lib.hid (ba (ba hb))
 clear hb
 cases hok:levelOk l
 ·have HE:=Lib.hid (show repW l xs hs=((0,0,0),false) by unfold repW okW;rw [hok];rfl)
  clear hok
  have cr:=fun o=>KR.out.cell o
  have fr:=fun o=>KR.out.frozen o
  have zr:=KR.out.lt
  go_wp2_with fail
  refine bodyPost_ret (v:=.tuple #[.agg #[.int .i64 0,.int .i64 0,.int .i64 0],.bool false]) (by simp [results,Tryz.results58,go_sem,cr]) rfl ⟨by rw [HE.out],?_⟩
  have hb:=HB.out
  go_grown
 have HLE:=Lib.hid (show legI l xs=legalW l xs by unfold legI;rw [hok];rfl)
 have cl:=fun o=>KL.out.cell o
 have fl:=fun o=>KL.out.frozen o
 have zl:=KL.out.lt
 go_wp2_with fail
 refine (implInputsLegal_any l ws gs A n c xs _ (HL.out.below HB.out) (HR.out.below HB.out) hn).mono ?_
 rintro e w2 ⟨rfl,hb⟩
 replace KL:=Lib.hid (KL.out.next hb)
 replace KR:=Lib.hid (KR.out.next hb)
 replace HB:=Lib.hid (below_next HB.out hb)
 clear hb fl zl
 rw [HLE.out]
 obtain ⟨lg,hlg⟩:∃ t,legalW l xs=t:=⟨_,rfl⟩
 rw [hlg]
 by_cases h6:0≤lg
 ·have HE:=Lib.hid (show repW l xs hs=((0,0,0),false) by unfold repW okW;rw [hlg,decide_eq_false (by omega:¬ lg<0)];simp)
  clear hlg hok
  have cr:=fun o=>KR.out.cell o
  have fr:=fun o=>KR.out.frozen o
  have zr:=KR.out.lt
  go_wp2_with fail
  refine bodyPost_ret (v:=.tuple #[.agg #[.int .i64 0,.int .i64 0,.int .i64 0],.bool false]) (by simp [results,Tryz.results58,go_sem,cr]) rfl ⟨by rw [HE.out],?_⟩
  have hb:=HB.out
  go_grown
 have hkw:okW l xs=true:=by unfold okW;rw [hok,hlg,decide_eq_true (by omega:lg<0)];rfl
 have HKW:=Lib.hid hkw
 have HN:=Lib.hid (okW_len hkw)
 clear hlg hok hkw
 have cl:=fun o=>KL.out.cell o
 have fl:=fun o=>KL.out.frozen o
 have zl:=KL.out.lt
 go_wp2_with fail
 refine (implRunHashes_any l ws gs A n c xs _ (HL.out.below HB.out) (HR.out.below HB.out) hn).mono ?_
 rintro e w3 ⟨A3,c3,rfl,ho,hb⟩
 replace KR:=Lib.hid (KR.out.next hb)
 replace HB:=Lib.hid (below_next HB.out hb)
 have HO:=Lib.hid ho
 clear hb ho cl fl zl KL
 obtain ⟨h,hh⟩:∃ h,(hashesW l xs).length=h:=⟨_,rfl⟩
 have hhl:=hashesW_len l xs
 rw [hh] at hhl HO ⊢
 have HH:=Lib.hid hh
 clear hh
 go_wp2_with fail
 refine (implDivergeFirst_any A3 B h c3 m cm (hashesW l xs) hs _ HO.out.rdI (HC.out.below HB.out) hhl hm).mono ?_
 rintro e w4 ⟨rfl,hb⟩
 replace KR:=Lib.hid (KR.out.next hb)
 replace HB:=Lib.hid (below_next HB.out hb)
 clear hb
 have hdl:=divW_le (a:=hashesW l xs) (b:=hs) (by rw [HH.out];exact hhl) (by omega)
 obtain ⟨d,hd⟩:∃ d,divW (hashesW l xs) hs=d:=⟨_,rfl⟩
 rw [hd] at hdl ⊢
 have HD:=Lib.hid hd
 clear hd
 by_cases h0:d<0
 ·have h0':decide (d<0)=true:=by simpa using h0
  have HE:=Lib.hid (show repW l xs hs=((0,0,0),false) by unfold repW;rw [HD.out,decide_eq_false (by omega:¬ 0≤d)];simp)
  clear h0
  have cr:=fun o=>KR.out.cell o
  have fr:=fun o=>KR.out.frozen o
  have zr:=KR.out.lt
  go_wp2_with fail
  refine bodyPost_ret (v:=.tuple #[.agg #[.int .i64 0,.int .i64 0,.int .i64 0],.bool false]) (by simp [results,Tryz.results58,go_sem,cr]) rfl ⟨by rw [HE.out],?_⟩
  have hb:=HB.out
  go_grown
 have h0':decide (d<0)=false:=by simpa using h0
 have hre:repW l xs hs=((d,d * 5,min ((d+1) * 5) n),true):=by unfold repW;rw [HD.out,HKW.out,decide_eq_true (by omega:0≤d),hlen];rfl
 have q1:IntKind.i64.wrap (d * 5)=d * 5:=IntWalk.i64_in _ (by omega)
 have q2:IntKind.i64.wrap (d+1)=d+1:=IntWalk.i64_in _ (by omega)
 have q3:IntKind.i64.wrap ((d+1) * 5)=(d+1) * 5:=IntWalk.i64_in _ (by omega)
 have cr:=fun o=>KR.out.cell o
 have fr:=fun o=>KR.out.frozen o
 have zr:=KR.out.lt
 by_cases hq:(d+1) * 5≤(n:Int)
 ·rw [Int.min_eq_left hq] at hre
  have HE:=Lib.hid hre
  clear hre
  go_wp2_with fail
  all_goals try (exfalso;omega)
  refine bodyPost_ret (v:=.tuple #[.agg #[.int .i64 d,.int .i64 (d * 5),.int .i64 ((d+1) * 5)],.bool true]) (by simp [results,Tryz.results58,go_sem,cr]) rfl ⟨by rw [HE.out],?_⟩
  have hb:=HB.out
  go_grown
 ·rw [Int.min_eq_right (by omega)] at hre
  have HE:=Lib.hid hre
  clear hre
  go_wp2_with fail
  all_goals try (exfalso;omega)
  refine bodyPost_ret (v:=.tuple #[.agg #[.int .i64 d,.int .i64 (d * 5),.int .i64 n],.bool true]) (by simp [results,Tryz.results58,go_sem,cr]) rfl ⟨by rw [HE.out],?_⟩
  have hb:=HB.out
  go_grown
noncomputable def tickW (l:Lvl) (r:Rep):Int :=
 if repOk r=false then -1 else if levelOk l=false∨l.id≠r.lv then -1 else if 0≤legalW l r.ins then legalW l r.ins else if (repW l r.ins r.hs).2 then (repW l r.ins r.hs).1.2.1 else -1
set_option maxRecDepth 100000 in
set_option maxHeartbeats 4000000 in
theorem verifyTick_any (l:Lvl) (ws gs:Sl) (r:Rep) (si sh:Sl) (w:World) (hl:RdL w l ws gs) (hr:RdR w r si sh) :
  Calls Qy.prog 23 #[lvlV l ws gs,repV r si sh] w fun e w'=>e=.returned (.int .i64 (tickW l r))∧Below w.heap.size w w':=by
 have HL:=Lib.hid hl
 have HR:=Lib.hid hr
 have hsi:=hr.2.2.1.2
 clear hl hr
 go_enter Qy.func23,Tryz.ntmps23
 go_wp2_with fail
 refine (implReplayValid_any r si sh _ (HR.out.below (ba (ba (Below.refl _ _))))).mono ?_
 rintro e w1 ⟨rfl,hb⟩
 have KL:=Lib.hid (((Blk.new w 29 (lvlC l ws gs)).alloc _).next hb)
 have KR:=Lib.hid ((Blk.newAt _ 33 (repC r si sh) (w.heap.size+1) (by simp)).next hb)
 have HB:=Lib.hid (ba (ba hb))
 clear hb
 cases h1:repOk r
 ·go_wp2_with fail
  go_ret
  exact ⟨ret_int (by simp [tickW,h1]),HB.out⟩
 have HF:=Lib.hid (repOk_facts h1)
 have H1:=Lib.hid h1
 clear h1
 have cl:=fun o=>KL.out.cell o
 have fl:=fun o=>KL.out.frozen o
 have zl:=KL.out.lt
 go_wp2_with fail
 refine (implLevelValid_any l ws gs _ (HL.out.below HB.out)).mono ?_
 rintro e w2 ⟨rfl,hb⟩
 replace KL:=Lib.hid (KL.out.next hb)
 replace KR:=Lib.hid (KR.out.next hb)
 replace HB:=Lib.hid (below_next HB.out hb)
 clear hb cl fl zl
 cases h2:levelOk l
 ·go_wp2_with fail
  go_ret
  exact ⟨ret_int (by simp [tickW,H1.out,h2]),HB.out⟩
 have HLE:=Lib.hid (show legI l r.ins=legalW l r.ins by unfold legI;rw [h2];rfl)
 have H2:=Lib.hid h2
 clear h2
 have cl:=fun o=>KL.out.cell o
 have fl:=fun o=>KL.out.frozen o
 have zl:=KL.out.lt
 have cr:=fun o=>KR.out.cell o
 have fr:=fun o=>KR.out.frozen o
 have zr:=KR.out.lt
 by_cases h3:l.id=r.lv
 rotate_left
 ·have h3':(l.id == r.lv)=false:=by simpa using h3
  have h3n:(l.id != r.lv)=true:=by simpa using h3
  go_wp2_with fail
  go_ret
  exact ⟨ret_int (by simp [tickW,H1.out,H2.out,h3]),HB.out⟩
 have h3':(l.id == r.lv)=true:=by simpa using h3
 have h3n:(l.id != r.lv)=false:=by simpa using h3
 have H3:=Lib.hid h3
 clear h3
 go_wp2_with fail
 refine (implInputsLegal_any l ws gs si.a si.n si.c r.ins _ (HL.out.below HB.out) (HR.out.1.below HB.out) hsi).mono ?_
 rintro e w3 ⟨rfl,hb⟩
 replace KL:=Lib.hid (KL.out.next hb)
 replace KR:=Lib.hid (KR.out.next hb)
 replace HB:=Lib.hid (below_next HB.out hb)
 clear hb cl fl zl cr fr zr
 rw [HLE.out]
 obtain ⟨lg,hlg⟩:∃ t,legalW l r.ins=t:=⟨_,rfl⟩
 rw [hlg]
 have HLG:=Lib.hid hlg
 clear hlg
 by_cases h6:0≤lg
 ·have h6':decide (0≤lg)=true:=by simpa using h6
  have H6:=Lib.hid h6
  clear h6
  go_wp2_with fail
  go_ret
  exact ⟨ret_int (by simp [tickW,H1.out,H2.out,H3.out,HLG.out,H6.out]),HB.out⟩
 have h6':decide (0≤lg)=false:=by simpa using h6
 have H6:=Lib.hid h6
 clear h6
 have h64:sh.n≤64:=by have h1:=HF.out.2.2.2.2.2.2.1;have h2:=HF.out.2.2.2.2.2.2.2;have h3:=HR.out.2.1.len;omega
 have cl:=fun o=>KL.out.cell o
 have fl:=fun o=>KL.out.frozen o
 have zl:=KL.out.lt
 have cr:=fun o=>KR.out.cell o
 have fr:=fun o=>KR.out.frozen o
 have zr:=KR.out.lt
 go_wp2_with fail
 refine (divergeReport_any l ws gs si.a sh.a si.n si.c sh.n sh.c r.ins r.hs _ (HL.out.below HB.out) (HR.out.1.below HB.out) hsi (HR.out.2.1.below HB.out) h64).mono ?_
 rintro e w4 ⟨rfl,hb⟩
 replace HB:=Lib.hid (below_next HB.out hb)
 clear hb cl fl zl cr fr zr KL KR
 obtain ⟨⟨⟨k,f,t⟩,ok⟩,hrp⟩:∃ q,repW l r.ins r.hs=q:=⟨_,rfl⟩
 rw [hrp]
 have HRP:=Lib.hid hrp
 clear hrp
 cases ok
 ·go_wp2_with fail
  go_ret
  exact ⟨ret_int (by unfold tickW;rw [HRP.out,HLG.out,H1.out,H2.out,H3.out];simp;intro hc;exact absurd hc (Int.not_le.2 H6.out)),HB.out.alloc HB.out.size _⟩
 ·go_wp2_with fail
  go_ret
  exact ⟨ret_int (by unfold tickW;rw [HRP.out,HLG.out,H1.out,H2.out,H3.out];simp;intro hc;exact absurd hc (Int.not_le.2 H6.out)),HB.out.alloc HB.out.size _⟩
end Go.Proofs.YtpcjdalgebgofaaGreatDoorY
namespace Go.Proofs.YtpcjdalgebgofaaGreatDoorY
open Go.RowKit Go.Sort
def fixW (n:Int):Bool:=decide (-2000000000≤n∧n≤2000000000)
set_option maxRecDepth 100000 in
set_option maxHeartbeats 2000000 in
theorem areFixed_any (A:Option Addr) (n c:Nat) (zs:List Int) (w:World) (hr:RdI .i64 w A n zs) (hn:n≤1048576) :
  Calls Qy.prog 98 #[.slice A n c] w fun e w'=>e=.returned (.bool (zs.all fixW))∧w'=w:=by
 have HR:=Lib.hid hr
 clear hr
 go_enter Qy.func98,Tryz.ntmps98
 go_wp2_with fail
 go_loopw [7] (fun i wr=>∃ k:Nat,k≤n∧i=.int .i64 k∧Hid ((zs.take k).all fixW=true)∧wr=w) (fun i _=>n - (intOf i).toNat)
 case atStart=>exact ⟨0,Nat.zero_le _,rfl,(rfl:(List.take 0 zs).all fixW=true),rfl⟩
 case round =>
  obtain ⟨k,hk,rfl,HK,rfl⟩:=hrel
  by_cases hlt:k<n
  ·obtain ⟨b,off,z,hA,hb,hz,hc⟩:=HR.out.at_ hlt
   subst hA
   have HZ:=Lib.hid hz
   clear hz
   go_wp2_with fail
   refine (fixedOk_any z _).mono ?_
   rintro e w' ⟨rfl,rfl⟩
   cases hf:decide (-2000000000≤z∧z≤2000000000)
   ·have HF:=Lib.hid (show zs.all fixW=false by
     rw [List.all_eq_false]
     exact ⟨z,List.mem_of_getElem? HZ.out,by unfold fixW;rw [hf];exact Bool.false_ne_true⟩)
    clear hf
    go_wp2_with fail
    go_ret
    exact ⟨ret_bool HF.out.symm,rfl⟩
   ·have HF:=Lib.hid (show (zs.take (k+1)).all fixW=true by
     rw [List.take_add_one,HZ.out,List.all_append,HK.out]
     simp [fixW,hf])
    clear hf
    go_wp2_with fail
    exact ⟨⟨k+1,by omega,by go_num,HF,trivial⟩,by simp [intOf];omega⟩
  ·have hkn:zs.take k=zs:=List.take_of_length_le (by rw [HR.out.len];omega)
   rw [hkn] at HK
   go_wp2
   go_ret
   exact ⟨ret_bool HK.out.symm,rfl⟩
set_option maxRecDepth 100000 in
set_option maxHeartbeats 2000000 in
theorem isList_any (A:Option Addr) (n c:Nat) (zs:List Int) (w:World) (hr:RdI .i64 w A n zs) (hn:n≤1048576) :
  Calls Qy.prog 56 #[.slice A n c] w fun e w'=>e=.returned (.bool (decide (n≤200) && zs.all fixW))∧w'=w:=by
 have HR:=Lib.hid hr
 clear hr
 by_cases hl:n≤200
 ·go_enter Qy.func56,Tryz.ntmps56
  go_wp2_with fail
  refine (areFixed_any A n c zs _ HR.out hn).mono ?_
  rintro e w' ⟨rfl,rfl⟩
  go_wp2_with fail
  go_ret
  exact ⟨ret_bool (by simp [hl]),rfl⟩
 ·go_enter Qy.func56,Tryz.ntmps56
  go_wp2_with fail
  go_ret
  exact ⟨ret_bool (by simp [hl]),rfl⟩
end Go.Proofs.YtpcjdalgebgofaaGreatDoorY
namespace Go.Proofs.YtpcjdalgebgofaaGreatDoorY
open Go.RowKit Go.Sort
def tagO (key:Int) (zs:List Int):Int:=if inR key 1 9999 && (decide (zs.length≤200) && zs.all fixW) then tagW key zs else -1
set_option maxRecDepth 100000 in
set_option maxHeartbeats 2000000 in
theorem tagOf_any (key:Int) (A:Option Addr) (n c:Nat) (zs:List Int) (w:World) (hr:RdI .i64 w A n zs) (hn:n≤1048576) :
  Calls Qy.prog 22 #[.int .i64 key,.slice A n c] w fun e w'=>e=.returned (.int .i64 (tagO key zs))∧Below w.heap.size w w':=by
 have hne:0<n→A.map (·.block)≠some w.heap.size:=by
  intro h0 e
  obtain ⟨b,off,z,hA,hb,_,_⟩:=hr.at_ h0
  rw [hA] at e
  simp at e
  omega
 have hl:=hr.len
 have HT:=Lib.hid (show tagO key zs=if inR key 1 9999 && (decide (n≤200) && zs.all fixW) then tagW key zs else -1 by rw [tagO,hl])
 have HR:=Lib.hid hr
 have HNE:=Lib.hid hne
 clear hr hne hl
 cases hk:inR key 1 9999
 ·have HF:=Lib.hid (show tagO key zs = -1 by rw [HT.out,hk];rfl)
  have HK:=Lib.hid hk
  clear hk
  go_enter Qy.func22,Tryz.ntmps22
  go_wp2_with fail
  refine (inRange_any _ _ _ _).mono ?_
  rintro e w' ⟨rfl,rfl⟩
  rw [HK.out]
  go_wp2_with fail
  go_ret
  exact ⟨by rw [HF.out];rfl,Below.refl _ _⟩
 have HK:=Lib.hid hk
 cases hv:(decide (n≤200) && zs.all fixW)
 ·have HF:=Lib.hid (show tagO key zs = -1 by rw [HT.out,hk,hv];rfl)
  have HV:=Lib.hid hv
  clear hk hv
  go_enter Qy.func22,Tryz.ntmps22
  go_wp2_with fail
  refine (inRange_any _ _ _ _).mono ?_
  rintro e w' ⟨rfl,rfl⟩
  rw [HK.out]
  go_wp2_with fail
  refine (isList_any A n c zs _ HR.out hn).mono ?_
  rintro e w' ⟨rfl,rfl⟩
  rw [HV.out]
  go_wp2_with fail
  go_ret
  exact ⟨by rw [HF.out];rfl,Below.refl _ _⟩
 have HF:=Lib.hid (show tagO key zs=tagW key zs by rw [HT.out,hk,hv];rfl)
 have HV:=Lib.hid hv
 clear hk hv
 go_enter Qy.func22,Tryz.ntmps22
 go_wp2_with fail
 refine (inRange_any _ _ _ _).mono ?_
 rintro e w' ⟨rfl,rfl⟩
 rw [HK.out]
 go_wp2_with fail
 refine (isList_any A n c zs _ HR.out hn).mono ?_
 rintro e w' ⟨rfl,rfl⟩
 rw [HV.out]
 go_wp2_with fail
 refine (hasher_any _).mono ?_
 rintro e w1 ⟨rfl,rfl⟩
 go_wp2_with fail
 refine (hashin_any 17 (some ⟨w'.heap.size+1,0,none⟩) 1 1 w'.heap.size [key] _ ⟨by decide,by decide⟩ (RdI.blk (Blk.newAt _ _ _ _ (by simp))) (by omega) ((Blk.new _ _ _).alloc _) (by simp)).mono ?_
 rintro e w2 ⟨rfl,ho,hg⟩
 have HB:=Lib.hid ((((Below.refl w'.heap.size w').alloc (Nat.le_refl _) _).alloc (by simp <;> omega) _).trans (ho.below (Nat.le_refl _) (by simp <;> omega)))
 have G:=Lib.hid hg
 clear ho hg
 go_wp2_with fail
 refine (hashin_any _ A n c w'.heap.size zs _ (hashW_ok ⟨by decide,by decide⟩ [key]) (HR.out.below HB.out) hn G.out HNE.out).mono ?_
 rintro e w3 ⟨rfl,ho,hg⟩
 have HB3:=Lib.hid (HB.out.trans (ho.below (Nat.le_refl _) HB.out.size))
 have G3:=Lib.hid hg
 have z3:=hg.lt
 clear ho hg HB G
 go_wp2_with fail
 refine (hashin_any _ (some ⟨w3.heap.size,0,none⟩) 1 1 w'.heap.size [key] _ (hashW_ok (hashW_ok ⟨by decide,by decide⟩ [key]) zs) (RdI.blk (Blk.new _ _ _)) (by omega) (G3.out.alloc _) (by simp;omega)).mono ?_
 rintro e w4 ⟨rfl,ho,hg⟩
 have HB4:=Lib.hid ((HB3.out.alloc HB3.out.size _).trans (ho.below (Nat.le_refl _) (by simp <;> omega)))
 go_wp2_with fail
 go_ret
 exact ⟨by rw [HF.out];rfl,HB4.out⟩
end Go.Proofs.YtpcjdalgebgofaaGreatDoorY
namespace Go.Proofs.YtpcjdalgebgofaaGreatDoorY
open Go.RowKit Go.Sort
set_option maxRecDepth 100000 in
set_option maxHeartbeats 2000000 in
theorem tagCheck_any (key v:Int) (A:Option Addr) (n c:Nat) (zs:List Int) (w:World) (hr:RdI .i64 w A n zs) (hn:n≤1048576) :
  Calls Qy.prog 14 #[.int .i64 key,.slice A n c,.int .i64 v] w fun e w'=>e=.returned (.bool (decide (0≤v) && decide (v=tagO key zs)))∧Below w.heap.size w w':=by
 have HR:=Lib.hid hr
 clear hr
 by_cases hv:0≤v
 ·go_enter Qy.func14,Tryz.ntmps14
  go_wp2_with fail
  refine (tagOf_any key A n c zs _ HR.out hn).mono ?_
  rintro e w1 ⟨rfl,hb⟩
  have HB:=Lib.hid hb
  clear hb
  go_wp2_with fail
  go_ret
  exact ⟨ret_bool (by simp [hv] <;> rfl),HB.out⟩
 ·go_enter Qy.func14,Tryz.ntmps14
  go_wp2_with fail
  go_ret
  exact ⟨ret_bool (by rw [show decide (0≤v)=false from decide_eq_false (Int.not_le.2 hv)];rfl),Below.refl _ _⟩
end Go.Proofs.YtpcjdalgebgofaaGreatDoorY
namespace Go.Proofs.YtpcjdalgebgofaaGreatDoorY
open Go.RowKit Go.Sort
structure Errs (E:Nat→Addr) (w:World):Prop where
 cell:∀ i,i<9→w.cell? ⟨i,0,none⟩=some (.iface 216 (.pointer (some (E i))))
 row:∀ i,i<9→∃ c t,w.heap[(E i).block]?=some (.cells c t (0,0))
 ne:∀ i j,i<9→j<9→i≠j→E i≠E j
theorem Errs.next {E:Nat→Addr} {w w':World} (h:Errs E w) (hb:Below w.heap.size w w'):Errs E w':=by
 refine ⟨fun i hi=>?_,fun i hi=>?_,h.ne⟩
 ·rw [hb.cell (p:=⟨i,0,none⟩) (World.block_lt_of_cell? _ _ (h.cell i hi))]
  exact h.cell i hi
 ·obtain ⟨c,t,hc⟩:=h.row i hi
  exact ⟨c,t,by rw [hb.block _ (Array.getElem?_eq_some_iff.1 hc).1];exact hc⟩
abbrev errV (E:Nat→Addr) (k:Nat):Value:=.iface 216 (.pointer (some (E k)))
def errOf (E:Nat→Addr) (v:Int):Value:=if v=0 then .nilIface else errV E (v - 1).toNat
theorem codeW_bd {x:Inp} (h:inOk x=true):0≤codeW x∧codeW x≤9:=by
 obtain ⟨a,b,c,d⟩:=inOk_bd h
 unfold codeW
 split
 ·omega
 ·rw [IntWalk.wrap64_in (3 * x.p) (by omega),IntWalk.wrap64_in (3 * x.p+x.s) (by omega),IntWalk.wrap64_in (3 * x.p+x.s+1) (by omega)]
  omega
theorem listW_len (r:Rep):(listW r).length=4+r.ins.length+r.hs.length:=by
 simp [listW]
 omega
theorem listW_fix {r:Rep} (h:repOk r=true):(listW r).all fixW=true:=by
 obtain ⟨⟨a0,a1⟩,⟨b0,b1⟩,⟨c0,c1⟩,_,hh,hi,hl,_⟩:=repOk_facts h
 rw [List.all_eq_true]
 intro z hz
 have : -2000000000≤z∧z≤2000000000:=by
  simp only [listW,List.mem_append,List.mem_cons,List.not_mem_nil,or_false,List.mem_map] at hz
  rcases hz with ((rfl|rfl|rfl|rfl)|⟨x,hx,rfl⟩)|hz
  ·omega
  ·omega
  ·omega
  ·omega
  ·have:=codeW_bd (hi x hx)
   omega
  ·have:=hh z hz
   omega
 simpa [fixW] using this
theorem tagO_rep {r:Rep} {key:Int} (h:repOk r=true) (hk:inR key 1 9999=true):tagO key (listW r)=tagW key (listW r):=by
 have hf:=repOk_facts h
 have hl:(listW r).length≤200:=by rw [listW_len];omega
 unfold tagO
 rw [hk,listW_fix h,decide_eq_true hl]
 rfl
set_option maxRecDepth 100000 in
set_option maxHeartbeats 4000000 in
theorem refusal_any (E:Nat→Addr) (l:Lvl) (ws gs:Sl) (key:Int) (r:Rep) (si sh:Sl) (w:World) (hE:Errs E w) (hl:RdL w l ws gs) (hr:RdR w r si sh) :
  Calls Qy.prog 30 #[lvlV l ws gs,.int .i64 key,repV r si sh] w fun e w'=>e=.returned (errOf E (verdW l key r))∧Below w.heap.size w w':=by
 have HEE:=Lib.hid hE
 have HL:=Lib.hid hl
 have HR:=Lib.hid hr
 have hsi:=hr.2.2.1.2
 clear hl hr hE
 go_enter Qy.func30,Tryz.ntmps30
 go_wp2_with fail
 refine (implReplayValid_any r si sh _ (HR.out.below (ba (ba (Below.refl _ _))))).mono ?_
 rintro e w1 ⟨rfl,hb⟩
 have KL:=Lib.hid (((Blk.new w 29 (lvlC l ws gs)).alloc _).next hb)
 have KR:=Lib.hid ((Blk.newAt _ 33 (repC r si sh) (w.heap.size+1) (by simp)).next hb)
 have HB:=Lib.hid (ba (ba hb))
 clear hb
 cases h1:repOk r
 ·have HV:=Lib.hid (show verdW l key r=0+1 by unfold verdW;simp [h1])
  have he:=(HEE.out.next HB.out).cell 0 (by decide)
  go_wp2_with fail
  go_ret
  exact ⟨by rw [HV.out];rfl,HB.out⟩
 have HF:=Lib.hid (repOk_facts h1)
 have H1:=Lib.hid h1
 clear h1
 have cl:=fun o=>KL.out.cell o
 have fl:=fun o=>KL.out.frozen o
 have zl:=KL.out.lt
 go_wp2_with fail
 refine (implLevelValid_any l ws gs _ (HL.out.below HB.out)).mono ?_
 rintro e w2 ⟨rfl,hb⟩
 replace KL:=Lib.hid (KL.out.next hb)
 replace KR:=Lib.hid (KR.out.next hb)
 replace HB:=Lib.hid (below_next HB.out hb)
 clear hb cl fl zl
 cases h2:levelOk l
 ·have HV:=Lib.hid (show verdW l key r=1+1 by unfold verdW;simp [H1.out,h2])
  have he:=(HEE.out.next HB.out).cell 1 (by decide)
  go_wp2_with fail
  go_ret
  exact ⟨by rw [HV.out];rfl,HB.out⟩
 have HLE:=Lib.hid (show legI l r.ins=legalW l r.ins by unfold legI;rw [h2];rfl)
 have H2:=Lib.hid h2
 clear h2
 have cl:=fun o=>KL.out.cell o
 have fl:=fun o=>KL.out.frozen o
 have zl:=KL.out.lt
 have cr:=fun o=>KR.out.cell o
 have fr:=fun o=>KR.out.frozen o
 have zr:=KR.out.lt
 by_cases h3:l.id=r.lv
 rotate_left
 ·have h3':(l.id == r.lv)=false:=by simpa using h3
  have h3n:(l.id != r.lv)=true:=by simpa using h3
  have HV:=Lib.hid (show verdW l key r=1+1 by unfold verdW;simp [H1.out,H2.out,h3])
  have he:=(HEE.out.next HB.out).cell 1 (by decide)
  go_wp2_with fail
  go_ret
  exact ⟨by rw [HV.out];rfl,HB.out⟩
 have h3':(l.id == r.lv)=true:=by simpa using h3
 have h3n:(l.id != r.lv)=false:=by simpa using h3
 have H3:=Lib.hid h3
 clear h3
 go_wp2_with fail
 refine (inRange_any _ _ _ _).mono ?_
 rintro e w3 ⟨rfl,rfl⟩
 cases h4:inR key 1 9999
 ·have HV:=Lib.hid (show verdW l key r=2+1 by unfold verdW;simp [H1.out,H2.out,H3.out,h4])
  have he:=(HEE.out.next HB.out).cell 2 (by decide)
  go_wp2_with fail
  go_ret
  exact ⟨by rw [HV.out];rfl,HB.out⟩
 have H4:=Lib.hid h4
 clear h4 cl fl zl cr fr zr
 obtain ⟨NL,hnl⟩:∃ n:Nat,(listW r).length=n:=⟨_,rfl⟩
 have hnb:NL≤1048576:=by have h1:=HF.out;rw [listW_len] at hnl;omega
 have HLI:=Lib.hid (show listI r=listW r by unfold listI;rw [H1.out];rfl)
 have HNL:=Lib.hid hnl
 have HTO:=Lib.hid (tagO_rep (key:=key) H1.out H4.out)
 have htg:0≤r.tag:=HF.out.2.2.2.1.1
 obtain ⟨tc,htc⟩:∃ b,decide (r.tag=tagW key (listW r))=b:=⟨_,rfl⟩
 have HTC:=Lib.hid htc
 clear hnl htc
 go_upto_region 7 with (fail)
 obtain ⟨W,hW⟩:∃ W,W=w2:=⟨_,rfl⟩
 rw [← hW] at HB KL KR ⊢
 clear hW
 refine wp_region_grow 7 (by kernel_rfl) (by kernel_rfl) (by kernel_rfl) (fun a b=>Below a.heap.size a b) (fun mq w'=>Below W.heap.size W w') (fun iq v w'=>match iq with|0=>(v=.int .i64 key)|1=>(v=repV r si sh)|2=>(∃ A c,v=.slice A NL c∧Ow 0 w' 3 1 A NL c (cellsI (listW r)))|3=>(v=.pointer (some ⟨w.heap.size+1,5,none⟩))|4=>(v=.int .i64 r.tag)|5=>(v=.bool tc)|6=>(v=.bool (!tc))|_=>True) (fun sq=>{ tmps:=#[lvlV l ws gs,Value.int .i64 key,repV r si sh,Value.pointer (some (⟨w.heap.size,0,none⟩:Addr)),undef,Value.pointer (some (⟨w.heap.size+1,0,none⟩:Addr)),Value.nilIface,undef,undef,Value.bool false,Value.agg #[Value.int .i64 r.lv,Value.int .i64 r.pl,Value.int .i64 r.sc,Value.slice si.a si.n si.c,Value.slice sh.a sh.n sh.c,Value.int .i64 r.tag],Value.bool true,Value.bool false,undef,Value.bool false,Value.agg #[Value.int .i64 l.id,Value.int .i64 l.ticks,Value.int .i64 l.sx,Value.int .i64 l.sy,Value.slice ws.a ws.n ws.c,Value.slice gs.a gs.n gs.c,Value.int .i64 l.f.1,Value.int .i64 l.f.2.1,Value.int .i64 l.f.2.2.1,Value.int .i64 l.f.2.2.2,Value.int .i64 l.bans],Value.bool true,Value.bool false,Value.bool false,Value.pointer (some (⟨w.heap.size,0,none⟩:Addr)),Value.int .i64 l.id,Value.pointer (some (⟨w.heap.size+1,0,none⟩:Addr)),Value.int .i64 r.lv,Value.bool false,Value.bool false,undef,Value.bool false,Value.int .i64 key,Value.bool true,Value.bool false,undef,undef,sq 0,sq 1,sq 2,sq 3,sq 4,sq 5,sq 6,undef,undef,undef,undef,undef,undef,undef,undef,undef,undef,undef,undef,undef,undef,undef,undef,undef,undef,undef,undef,undef,undef,undef,undef,undef,undef,undef,undef,undef,undef,undef,undef,undef,undef,undef,undef,undef,undef,undef,undef,undef,undef,undef,undef,undef,undef,undef,undef,undef],defers:=[] }) (fun _=>undef) ?_ ?_ ?_ ?_
 ·rintro iq v a b hg h
  match iq,h with
  | 0,h=>exact h
  | 1,h=>exact h
  | 2,h=>exact (by obtain ⟨A,c,rfl,ho⟩:=h;exact ⟨A,c,rfl,Ow.next ho hg⟩)
  | 3,h=>exact h
  | 4,h=>exact h
  | 5,h=>exact h
  | 6,h=>exact h
  | (kq+7),_=>exact trivial
 ·exact ⟨rfl,rfl,rfl,Nat.le_refl _,fun _ _=>rfl⟩
 ·intro mq sq w' iq oq hmq hiq hoq hJ hd Kq hK
  have hiq':iq=0∨iq=1∨iq=2∨iq=3∨iq=4∨iq=5∨iq=6:=by omega
  rcases hiq' with rfl|rfl|rfl|rfl|rfl|rfl|rfl
  ·cases (show some _=some oq from hoq)
   have hK':=hK
   simp only [updV,Nat.reduceEqDiff,↓reduceIte] at hK'
   clear hK hd
   generalize sq 0=x0,sq 1=x1,sq 2=x2,sq 3=x3,sq 4=x4,sq 5=x5,sq 6=x6 at *
   go_simp
   exact hK' _ _ (Below.refl _ _) hJ rfl
  ·cases (show some _=some oq from hoq)
   have hK':=hK
   simp only [updV,Nat.reduceEqDiff,↓reduceIte] at hK'
   clear hK hd
   generalize sq 0=x0,sq 1=x1,sq 2=x2,sq 3=x3,sq 4=x4,sq 5=x5,sq 6=x6 at *
   have hcc:=fun q=>(KR.out.next hJ).cell q
   go_simp
   exact hK' _ _ (Below.refl _ _) hJ rfl
  ·cases (show some _=some oq from hoq)
   have d1:=hd 1 (by kernel_rfl) (by decide)
   have hK':=hK
   simp only [updV,Nat.reduceEqDiff,↓reduceIte] at hK'
   clear hK hd
   generalize sq 0=x0,sq 1=x1,sq 2=x2,sq 3=x3,sq 4=x4,sq 5=x5,sq 6=x6 at *
   obtain rfl:=d1
   go_simp
   refine (implReplayList_any r si sh _ (HR.out.below (below_next HB.out hJ))).mono ?_
   rintro e w3 ⟨A3,c3,rfl,ho,hb⟩
   rw [HLI.out,HNL.out] at ho
   rw [HLI.out,HNL.out]
   exact hK' _ _ hb (below_next hJ hb) ⟨_,_,rfl,Ow.mono ho (Nat.zero_le _)⟩
  ·cases (show some _=some oq from hoq)
   have hK':=hK
   simp only [updV,Nat.reduceEqDiff,↓reduceIte] at hK'
   clear hK hd
   generalize sq 0=x0,sq 1=x1,sq 2=x2,sq 3=x3,sq 4=x4,sq 5=x5,sq 6=x6 at *
   go_simp
   exact hK' _ _ (Below.refl _ _) hJ rfl
  ·cases (show some _=some oq from hoq)
   have d3:=hd 3 (by kernel_rfl) (by decide)
   have hK':=hK
   simp only [updV,Nat.reduceEqDiff,↓reduceIte] at hK'
   clear hK hd
   generalize sq 0=x0,sq 1=x1,sq 2=x2,sq 3=x3,sq 4=x4,sq 5=x5,sq 6=x6 at *
   obtain rfl:=d3
   have hcc:=(KR.out.next hJ).cell 5
   go_simp
   exact hK' _ _ (Below.refl _ _) hJ rfl
  ·cases (show some _=some oq from hoq)
   have d0:=hd 0 (by kernel_rfl) (by decide)
   have d2:=hd 2 (by kernel_rfl) (by decide)
   have d4:=hd 4 (by kernel_rfl) (by decide)
   have hK':=hK
   simp only [updV,Nat.reduceEqDiff,↓reduceIte] at hK'
   clear hK hd
   generalize sq 0=x0,sq 1=x1,sq 2=x2,sq 3=x3,sq 4=x4,sq 5=x5,sq 6=x6 at *
   obtain rfl:=d0
   obtain ⟨A,c,rfl,ho⟩:=d2
   obtain rfl:=d4
   go_simp
   refine (tagCheck_any key r.tag A NL c (listW r) _ ho.rdI hnb).mono ?_
   rintro e w3 ⟨rfl,hb⟩
   rw [HTO.out,HTC.out,decide_eq_true htg,Bool.true_and]
   exact hK' _ _ hb (below_next hJ hb) rfl
  ·cases (show some _=some oq from hoq)
   have d5:=hd 5 (by kernel_rfl) (by decide)
   have hK':=hK
   simp only [updV,Nat.reduceEqDiff,↓reduceIte] at hK'
   clear hK hd
   generalize sq 0=x0,sq 1=x1,sq 2=x2,sq 3=x3,sq 4=x4,sq 5=x5,sq 6=x6 at *
   obtain rfl:=d5
   go_simp
   exact hK' _ _ (Below.refl _ _) hJ rfl
 ·intro sq w' hJ hφ
  simp only [List.drop_succ_cons,List.drop_zero]
  have d6:=hφ 6 (by decide)
  clear hφ
  generalize sq 0=x0,sq 1=x1,sq 2=x2,sq 3=x3,sq 4=x4,sq 5=x5,sq 6=x6 at *
  obtain rfl:=d6
  replace HB:=Lib.hid (below_next HB.out hJ)
  replace KL:=Lib.hid (KL.out.next hJ)
  replace KR:=Lib.hid (KR.out.next hJ)
  clear hJ
  cases tc
  ·have H5:=Lib.hid (show ¬ tagW key (listW r)=r.tag from fun e=>by have:=HTC.out;rw [e] at this;simp at this)
   simp only [Bool.not_false]
   have HV:=Lib.hid (show verdW l key r=3+1 by unfold verdW;simp [H1.out,H2.out,H3.out,H4.out,H5.out])
   have he:=(HEE.out.next HB.out).cell 3 (by decide)
   go_wp2_with fail
   go_ret
   exact ⟨by rw [HV.out];rfl,HB.out⟩
  have H5:=Lib.hid (show tagW key (listW r)=r.tag from (of_decide_eq_true HTC.out).symm)
  simp only [Bool.not_true]
  have cl:=fun o=>KL.out.cell o
  have fl:=fun o=>KL.out.frozen o
  have zl:=KL.out.lt
  have cr:=fun o=>KR.out.cell o
  have fr:=fun o=>KR.out.frozen o
  have zr:=KR.out.lt
  go_wp2_with fail
  refine (implRunTo_any l ws gs si.a si.n si.c si.n r.ins _ (HL.out.below HB.out) (HR.out.1.below HB.out) hsi).mono ?_
  rintro e w3 ⟨rfl,hb⟩
  replace KL:=Lib.hid (KL.out.next hb)
  replace KR:=Lib.hid (KR.out.next hb)
  replace HB:=Lib.hid (below_next HB.out hb)
  clear hb cl fl zl cr fr zr
  have hsl:=HR.out.1.len
  obtain ⟨lg,hlg⟩:∃ t,legalW l r.ins=t:=⟨_,rfl⟩
  have HLG:=Lib.hid hlg
  by_cases h6:0≤lg
  ·have hrt:runToW l r.ins si.n=(car00,false):=by unfold runToW okW;rw [hlg,decide_eq_false (by omega:¬ lg<0)];simp
   rw [hrt]
   have H6:=Lib.hid h6
   clear hrt hlg h6
   rw [show carV car00=.agg #[.int .i64 0,.int .i64 0,.int .i64 0,.int .i64 0,.int .i64 0,.int .i64 0,.int .i64 0,.bool false,.bool false] from rfl]
   go_upto_block 1 with (fail)
   refine into_world (fun Y=>Below w.heap.size w Y) (HB.out.alloc HB.out.size _) ?_
   clear HB
   intro Y hY
   have HB:=Lib.hid hY
   clear hY
   have HV:=Lib.hid (show verdW l key r=4+1 by unfold verdW;simp [H1.out,H2.out,H3.out,H4.out,H5.out,HLG.out,H6.out])
   have he:=(HEE.out.next HB.out).cell 4 (by decide)
   go_wp2_with fail
   go_ret
   exact ⟨by rw [HV.out];rfl,HB.out⟩
  have hkw:okW l r.ins=true:=by unfold okW;rw [H2.out,hlg,decide_eq_true (by omega:lg<0)];rfl
  have hrt:runToW l r.ins si.n=(runW l r.ins r.ins.length,true):=by
   unfold runToW
   rw [hkw,show inR (si.n:Int) 0 r.ins.length=true by simp [inR];omega,hsl]
   rfl
  rw [hrt]
  have H6:=Lib.hid h6
  have HKW:=Lib.hid hkw
  have htk:=runW_tick l r.ins r.ins.length (by have:=HF.out.2.2.2.2.2.2.1;omega)
  obtain ⟨⟨tick,ax,ay,fx,fy,turn,gate,dn,ov⟩,hcr⟩:∃ q,runW l r.ins r.ins.length=q:=⟨_,rfl⟩
  rw [hcr] at htk ⊢
  have HCR:=Lib.hid hcr
  clear hrt hlg h6 hkw hcr
  rw [show carV ⟨tick,ax,ay,fx,fy,turn,gate,dn,ov⟩=.agg #[.int .i64 tick,.int .i64 ax,.int .i64 ay,.int .i64 fx,.int .i64 fy,.int .i64 turn,.int .i64 gate,.bool dn,.bool ov] from rfl]
  go_upto_block 1 with (fail)
  refine into_world (fun Y=>Below w.heap.size w Y∧Blk Y w.heap.size 29 (lvlC l ws gs)∧Blk Y (w.heap.size+1) 33 (repC r si sh)∧Blk Y w3.heap.size 45 #[.int .i64 tick,.int .i64 ax,.int .i64 ay,.int .i64 fx,.int .i64 fy,.int .i64 turn,.int .i64 gate,.bool dn,.bool ov]) ⟨HB.out.alloc HB.out.size _,KL.out.alloc _,KR.out.alloc _,Blk.new _ _ _⟩ ?_
  clear HB KL KR
  rintro Y ⟨HB,KL,KR,KS⟩
  replace HB:=Lib.hid HB
  replace KL:=Lib.hid KL
  replace KR:=Lib.hid KR
  replace KS:=Lib.hid KS
  have cs:=fun o=>KS.out.cell o
  have fs:=fun o=>KS.out.frozen o
  have zs:=KS.out.lt
  cases ov
  rotate_left
  ·have HV:=Lib.hid (show verdW l key r=5+1 by unfold verdW;simp [H1.out,H2.out,H3.out,H4.out,H5.out,HLG.out,H6.out,runV,HCR.out])
   have he:=(HEE.out.next HB.out).cell 5 (by decide)
   go_wp2_with fail
   go_ret
   exact ⟨by rw [HV.out];rfl,HB.out⟩
  obtain ⟨hh,hhe⟩:∃ n,(hashesW l r.ins).length=n:=⟨_,rfl⟩
  have hhl:=hashesW_len l r.ins
  rw [hhe] at hhl
  have HHL:=Lib.hid hhe
  have h64:sh.n≤64:=by have h1:=HF.out.2.2.2.2.2.2.1;have h2:=HF.out.2.2.2.2.2.2.2;have h3:=HR.out.2.1.len;omega
  obtain ⟨dv,hdv⟩:∃ d,divW (hashesW l r.ins) r.hs=d:=⟨_,rfl⟩
  have HDV:=Lib.hid hdv
  clear hhe hdv
  go_upto_region 14 with (fail)
  clear cs fs zs
  refine wp_region_grow 8 (by kernel_rfl) (by kernel_rfl) (by kernel_rfl) (fun a b=>Below a.heap.size a b) (fun mq w'=>Below Y.heap.size Y w') (fun iq v w'=>match iq with|0=>(v=lvlV l ws gs)|1=>(v=.pointer (some ⟨w.heap.size+1,3,none⟩))|2=>(v=.slice si.a si.n si.c)|3=>(∃ B c',v=.slice B hh c'∧Ow 0 w' 3 1 B hh c' (cellsI (hashesW l r.ins)))|4=>(v=.pointer (some ⟨w.heap.size+1,4,none⟩))|5=>(v=.slice sh.a sh.n sh.c)|6=>(v=.int .i64 dv)|7=>(v=.bool (decide (0≤dv)))|_=>True) (fun sq=>{ tmps:=#[lvlV l ws gs,Value.int .i64 key,repV r si sh,Value.pointer (some (⟨w.heap.size,0,none⟩:Addr)),undef,Value.pointer (some (⟨w.heap.size+1,0,none⟩:Addr)),Value.nilIface,Value.pointer (some (⟨w3.heap.size,0,none⟩:Addr)),Value.bool true,Value.bool false,Value.agg #[Value.int .i64 r.lv,Value.int .i64 r.pl,Value.int .i64 r.sc,Value.slice si.a si.n si.c,Value.slice sh.a sh.n sh.c,Value.int .i64 r.tag],Value.bool true,Value.bool false,undef,Value.bool false,Value.agg #[Value.int .i64 l.id,Value.int .i64 l.ticks,Value.int .i64 l.sx,Value.int .i64 l.sy,Value.slice ws.a ws.n ws.c,Value.slice gs.a gs.n gs.c,Value.int .i64 l.f.1,Value.int .i64 l.f.2.1,Value.int .i64 l.f.2.2.1,Value.int .i64 l.f.2.2.2,Value.int .i64 l.bans],Value.bool true,Value.bool false,Value.bool false,Value.pointer (some (⟨w.heap.size,0,none⟩:Addr)),Value.int .i64 l.id,Value.pointer (some (⟨w.heap.size+1,0,none⟩:Addr)),Value.int .i64 r.lv,Value.bool false,Value.bool false,undef,Value.bool false,Value.int .i64 key,Value.bool true,Value.bool false,undef,Value.bool false,x0,x1,x2,x3,x4,x5,Value.bool false,undef,Value.tuple #[Value.agg #[Value.int .i64 tick,Value.int .i64 ax,Value.int .i64 ay,Value.int .i64 fx,Value.int .i64 fy,Value.int .i64 turn,Value.int .i64 gate,Value.bool dn,Value.bool false],Value.bool true],Value.agg #[Value.int .i64 l.id,Value.int .i64 l.ticks,Value.int .i64 l.sx,Value.int .i64 l.sy,Value.slice ws.a ws.n ws.c,Value.slice gs.a gs.n gs.c,Value.int .i64 l.f.1,Value.int .i64 l.f.2.1,Value.int .i64 l.f.2.2.1,Value.int .i64 l.f.2.2.2,Value.int .i64 l.bans],Value.pointer (some (⟨w.heap.size+1,3,none⟩:Addr)),Value.slice si.a si.n si.c,Value.pointer (some (⟨w.heap.size+1,3,none⟩:Addr)),Value.slice si.a si.n si.c,Value.int .i64 (si.n:Int),Value.tuple #[Value.agg #[Value.int .i64 tick,Value.int .i64 ax,Value.int .i64 ay,Value.int .i64 fx,Value.int .i64 fy,Value.int .i64 turn,Value.int .i64 gate,Value.bool dn,Value.bool false],Value.bool true],Value.agg #[Value.int .i64 tick,Value.int .i64 ax,Value.int .i64 ay,Value.int .i64 fx,Value.int .i64 fy,Value.int .i64 turn,Value.int .i64 gate,Value.bool dn,Value.bool false],Value.bool true,Value.bool false,Value.bool true,Value.bool false,undef,Value.bool false,Value.pointer (some (⟨w3.heap.size,8,none⟩:Addr)),Value.bool false,undef,undef,sq 0,sq 1,sq 2,sq 3,sq 4,sq 5,sq 6,sq 7,undef,undef,undef,undef,undef,undef,undef,undef,undef,undef,undef,undef,undef,undef,undef,undef,undef,undef,undef,undef,undef],defers:=[] }) (fun _=>undef) ?_ ?_ ?_ ?_
  ·rintro iq v a b hg h
   match iq,h with
   | 0,h=>exact h
   | 1,h=>exact h
   | 2,h=>exact h
   | 3,h=>exact (by obtain ⟨B,c',rfl,ho⟩:=h;exact ⟨B,c',rfl,Ow.next ho hg⟩)
   | 4,h=>exact h
   | 5,h=>exact h
   | 6,h=>exact h
   | 7,h=>exact h
   | (kq+8),_=>exact trivial
  ·exact ⟨rfl,rfl,rfl,Nat.le_refl _,fun _ _=>rfl⟩
  ·intro mq sq w' iq oq hmq hiq hoq hJ hd Kq hK
   have hiq':iq=0∨iq=1∨iq=2∨iq=3∨iq=4∨iq=5∨iq=6∨iq=7:=by omega
   rcases hiq' with rfl|rfl|rfl|rfl|rfl|rfl|rfl|rfl
   ·cases (show some _=some oq from hoq)
    have hK':=hK
    simp only [updV,Nat.reduceEqDiff,↓reduceIte] at hK'
    clear hK hd
    generalize sq 0=x0,sq 1=x1,sq 2=x2,sq 3=x3,sq 4=x4,sq 5=x5,sq 6=x6,sq 7=x7 at *
    have hcc:=fun q=>(KL.out.next hJ).cell q
    go_simp
    exact hK' _ _ (Below.refl _ _) hJ rfl
   ·cases (show some _=some oq from hoq)
    have hK':=hK
    simp only [updV,Nat.reduceEqDiff,↓reduceIte] at hK'
    clear hK hd
    generalize sq 0=x0,sq 1=x1,sq 2=x2,sq 3=x3,sq 4=x4,sq 5=x5,sq 6=x6,sq 7=x7 at *
    go_simp
    exact hK' _ _ (Below.refl _ _) hJ rfl
   ·cases (show some _=some oq from hoq)
    have d1:=hd 1 (by kernel_rfl) (by decide)
    have hK':=hK
    simp only [updV,Nat.reduceEqDiff,↓reduceIte] at hK'
    clear hK hd
    generalize sq 0=x0,sq 1=x1,sq 2=x2,sq 3=x3,sq 4=x4,sq 5=x5,sq 6=x6,sq 7=x7 at *
    obtain rfl:=d1
    have hcc:=(KR.out.next hJ).cell 3
    go_simp
    exact hK' _ _ (Below.refl _ _) hJ rfl
   ·cases (show some _=some oq from hoq)
    have d0:=hd 0 (by kernel_rfl) (by decide)
    have d2:=hd 2 (by kernel_rfl) (by decide)
    have hK':=hK
    simp only [updV,Nat.reduceEqDiff,↓reduceIte] at hK'
    clear hK hd
    generalize sq 0=x0,sq 1=x1,sq 2=x2,sq 3=x3,sq 4=x4,sq 5=x5,sq 6=x6,sq 7=x7 at *
    obtain rfl:=d0
    obtain rfl:=d2
    go_simp
    refine (implRunHashes_any l ws gs si.a si.n si.c r.ins _ (HL.out.below (below_next HB.out hJ)) (HR.out.1.below (below_next HB.out hJ)) hsi).mono ?_
    rintro e w4 ⟨B,c',rfl,ho,hb⟩
    rw [HHL.out] at ho ⊢
    exact hK' _ _ hb (below_next hJ hb) ⟨_,_,rfl,Ow.mono ho (Nat.zero_le _)⟩
   ·cases (show some _=some oq from hoq)
    have hK':=hK
    simp only [updV,Nat.reduceEqDiff,↓reduceIte] at hK'
    clear hK hd
    generalize sq 0=x0,sq 1=x1,sq 2=x2,sq 3=x3,sq 4=x4,sq 5=x5,sq 6=x6,sq 7=x7 at *
    go_simp
    exact hK' _ _ (Below.refl _ _) hJ rfl
   ·cases (show some _=some oq from hoq)
    have d4:=hd 4 (by kernel_rfl) (by decide)
    have hK':=hK
    simp only [updV,Nat.reduceEqDiff,↓reduceIte] at hK'
    clear hK hd
    generalize sq 0=x0,sq 1=x1,sq 2=x2,sq 3=x3,sq 4=x4,sq 5=x5,sq 6=x6,sq 7=x7 at *
    obtain rfl:=d4
    have hcc:=(KR.out.next hJ).cell 4
    go_simp
    exact hK' _ _ (Below.refl _ _) hJ rfl
   ·cases (show some _=some oq from hoq)
    have d3:=hd 3 (by kernel_rfl) (by decide)
    have d5:=hd 5 (by kernel_rfl) (by decide)
    have hK':=hK
    simp only [updV,Nat.reduceEqDiff,↓reduceIte] at hK'
    clear hK hd
    generalize sq 0=x0,sq 1=x1,sq 2=x2,sq 3=x3,sq 4=x4,sq 5=x5,sq 6=x6,sq 7=x7 at *
    obtain ⟨B,c',rfl,ho⟩:=d3
    obtain rfl:=d5
    go_simp
    refine (implDivergeFirst_any B sh.a hh c' sh.n sh.c (hashesW l r.ins) r.hs w' ho.rdI (HR.out.2.1.below (below_next HB.out hJ)) hhl h64).mono ?_
    rintro e w4 ⟨rfl,hb⟩
    rw [HDV.out]
    exact hK' _ _ hb (below_next hJ hb) rfl
   ·cases (show some _=some oq from hoq)
    have d6:=hd 6 (by kernel_rfl) (by decide)
    have hK':=hK
    simp only [updV,Nat.reduceEqDiff,↓reduceIte] at hK'
    clear hK hd
    generalize sq 0=x0,sq 1=x1,sq 2=x2,sq 3=x3,sq 4=x4,sq 5=x5,sq 6=x6,sq 7=x7 at *
    obtain rfl:=d6
    go_simp
    exact hK' _ _ (Below.refl _ _) hJ rfl
  ·intro sq w' hJ hφ
   simp only [List.drop_succ_cons,List.drop_zero]
   have d7:=hφ 7 (by decide)
   clear hφ
   generalize sq 0=x0,sq 1=x1,sq 2=x2,sq 3=x3,sq 4=x4,sq 5=x5,sq 6=x6,sq 7=x7 at *
   obtain rfl:=d7
   replace HB:=Lib.hid (below_next HB.out hJ)
   replace KR:=Lib.hid (KR.out.next hJ)
   replace KS:=Lib.hid (KS.out.next hJ)
   clear hJ KL
   by_cases h7:0≤dv
   ·have h7':decide (0≤dv)=true:=by simpa using h7
    have H7:=Lib.hid h7
    simp only [h7']
    clear h7
    have HV:=Lib.hid (show verdW l key r=6+1 by unfold verdW;simp [H1.out,H2.out,H3.out,H4.out,H5.out,HLG.out,H6.out,runV,HCR.out,HDV.out,H7.out])
    have he:=(HEE.out.next HB.out).cell 6 (by decide)
    go_wp2_with fail
    go_ret
    exact ⟨by rw [HV.out];rfl,HB.out⟩
   have h7':decide (0≤dv)=false:=by simpa using h7
   have H7:=Lib.hid h7
   simp only [h7']
   clear h7
   have cs:=fun o=>KS.out.cell o
   have fs:=fun o=>KS.out.frozen o
   have zs:=KS.out.lt
   have cr:=fun o=>KR.out.cell o
   have fr:=fun o=>KR.out.frozen o
   have zr:=KR.out.lt
   cases dn
   ·have HV:=Lib.hid (show verdW l key r=7+1 by unfold verdW;simp [H1.out,H2.out,H3.out,H4.out,H5.out,HLG.out,H6.out,runV,HCR.out,HDV.out,H7.out])
    have he:=(HEE.out.next HB.out).cell 7 (by decide)
    go_wp2_with fail
    go_ret
    exact ⟨by rw [HV.out];rfl,HB.out⟩
   have htk1:tick≤(r.ins.length:Int):=htk.2
   by_cases h8:tick<(si.n:Int)
   ·have h8':decide (tick<(si.n:Int))=true:=by simpa using h8
    have H8:=Lib.hid (show ¬ tick=(r.ins.length:Int) by omega)
    clear h8
    have HV:=Lib.hid (show verdW l key r=7+1 by unfold verdW;simp [H1.out,H2.out,H3.out,H4.out,H5.out,HLG.out,H6.out,runV,HCR.out,HDV.out,H7.out,H8.out])
    have he:=(HEE.out.next HB.out).cell 7 (by decide)
    go_wp2_with fail
    go_ret
    exact ⟨by rw [HV.out];rfl,HB.out⟩
   have h8':decide (tick<(si.n:Int))=false:=by simpa using h8
   have H8:=Lib.hid (show tick=(r.ins.length:Int) by omega)
   clear h8
   by_cases h9:tick=r.sc
   rotate_left
   ·have h9':(tick == r.sc)=false:=by simpa using h9
    have h9n:(tick != r.sc)=true:=by simpa using h9
    have H9:=Lib.hid (show ¬ (r.ins.length:Int)=r.sc by rw [← H8.out];exact h9)
    clear h9
    have HV:=Lib.hid (show verdW l key r=8+1 by unfold verdW;simp [H1.out,H2.out,H3.out,H4.out,H5.out,HLG.out,H6.out,runV,HCR.out,HDV.out,H7.out,H8.out,H9.out])
    have he:=(HEE.out.next HB.out).cell 8 (by decide)
    go_wp2_with fail
    go_ret
    exact ⟨by rw [HV.out];rfl,HB.out⟩
   have h9':(tick == r.sc)=true:=by simpa using h9
   have h9n:(tick != r.sc)=false:=by simpa using h9
   have H9:=Lib.hid (show (r.ins.length:Int)=r.sc by rw [← H8.out];exact h9)
   clear h9
   have HV:=Lib.hid (show verdW l key r=0 by unfold verdW;simp [H1.out,H2.out,H3.out,H4.out,H5.out,HLG.out,H6.out,runV,HCR.out,HDV.out,H7.out,H8.out,H9.out])
   go_wp2_with fail
   go_ret
   exact ⟨by rw [HV.out];rfl,HB.out⟩
end Go.Proofs.YtpcjdalgebgofaaGreatDoorY

/-
  Lemmas and contracts: YIh. No condition.
-/
import Derived.Test.YtpcjdalgebgofaaGreatDoorKa17
import Derived.Test.YtpcjdalgebgofaaGreatDoorKa32
import Derived.Test.YtpcjdalgebgofaaGreatDoorKa33
import Derived.Test.YtpcjdalgebgofaaGreatDoorKa34
set_option linter.unusedSimpArgs false
set_option linter.unusedVariables false
set_option linter.unusedSectionVars false
namespace Go.Proofs.YtpcjdalgebgofaaGreatDoorY
open Go.RowKit Go.Sort
theorem makeW_small {l:Lvl} {p key:Int} {xs:List Inp} (h:xs.length≤60):(makeW l p key xs).1.ins.length≤60∧(makeW l p key xs).1.hs.length≤60:=by
 unfold makeW
 split
 ·refine ⟨h,?_⟩
  show (hashesW l xs).length≤60
  unfold hashesW
  split
  ·simp;omega
  ·simp
 ·exact ⟨by simp [rep0],by simp [rep0]⟩
theorem Ow.lenN {B:Nat} {w:World} {A:Option Addr} {n c:Nat} {xs:List Inp} (h:Ow B w 74 3 A n c (cellsN xs)):n=xs.length:=by
 have h1:=h.len
 have h2:(cellsN xs).length=xs.length * 3:=cellsX_length encIn_len xs
 omega
theorem Ow.lenI {B T:Nat} {w:World} {A:Option Addr} {n c:Nat} {zs:List Int} (h:Ow B w T 1 A n c (cellsI zs)):n=zs.length:=by
 have h1:=h.len
 simp [cellsI] at h1
 omega
def GoodPost (g p K:Nat) (w:World) (e:Ending) (w':World):Prop :=
 ∃ (l:Lvl) (ws gs:Sl) (key:Int) (r:Rep) (si sh:Sl) (q:Nat),e=.returned (.tuple #[lvlV l ws gs,.int .i64 key,repV r si sh])∧OwLv w.heap.size w' l ws gs∧OwRep w' r si sh∧si.n≤60∧sh.n≤60∧q≤p+K∧Dr w g q w'
def OwRs (w:World) (r:Rep) (si sh:Sl):Prop:=OwRep w r si sh∧si.n≤60∧sh.n≤60
def TchG (g:Nat) (a b:World):Prop :=
 Below a.heap.size a b∨(∃ cs,Blk a g 92 cs∧Only g a b)∨(∃ x r si sh cs,Blk a x 33 cs∧Only x a b∧Blk b x 33 (repC r si sh)∧OwRs b r si sh)
section
variable {g:Nat} {a b:World}
theorem TchG.row {B T sz n c:Nat} {A:Option Addr} {vs:List Value} (h:TchG g a b) (k:Ow B a T sz A n c vs) (h1:T≠92) (h2:T≠33):Ow B b T sz A n c vs:=by
 rcases h with h|⟨cs,h,ho⟩|⟨x,r,si,sh,cs,h,ho,_⟩
 ·exact k.next h
 ·exact k.onlyT h h1 ho
 ·exact k.onlyT h h2 ho
theorem TchG.rep {r:Rep} {si sh:Sl} (h:TchG g a b) (k:OwRs a r si sh):OwRs b r si sh:=⟨⟨h.row k.1.1 (by decide) (by decide),h.row k.1.2.1 (by decide) (by decide),k.1.2.2⟩,k.2⟩
theorem TchG.blk {e:Nat} (h:TchG g a b) (k:∃ r si sh,Blk a e 33 (repC r si sh)∧OwRs a r si sh):∃ r si sh,Blk b e 33 (repC r si sh)∧OwRs b r si sh:=by
 obtain ⟨r,si,sh,h1,h2⟩:=k
 rcases h with h|⟨cs,h,ho⟩|⟨x,r',si',sh',cs,h,ho,h3,h4⟩
 ·exact ⟨r,si,sh,h1.next h,TchG.rep (g:=g) (.inl h) h2⟩
 ·exact ⟨r,si,sh,h1.only ho (Blk.ne_ h1 h (by decide)),TchG.rep (.inr (.inl ⟨cs,h,ho⟩)) h2⟩
 ·by_cases e1:e=x
  ·subst e1
   exact ⟨r',si',sh',h3,h4⟩
  ·exact ⟨r,si,sh,h1.only ho e1,TchG.rep (g:=g) (.inr (.inr ⟨x,r',si',sh',cs,h,ho,h3,h4⟩)) h2⟩
theorem Dr.six' {w0 w:World} {q e:Nat} (h:Dr w0 g q w) (hb:w0.heap.size≤e) (hg:g<w0.heap.size) (v0 v1 v2 v3 v4 v5:Value):Dr w0 g q ((((((w.setCell ⟨e,0,none⟩ v0).setCell ⟨e,1,none⟩ v1).setCell ⟨e,2,none⟩ v2).setCell ⟨e,3,none⟩ v3).setCell ⟨e,4,none⟩ v4).setCell ⟨e,5,none⟩ v5) :=
 Dr.sets hg hb [v0,v1,v2,v3,v4,v5] 0 w h
theorem only6' {q e:Nat} {w0 w:World} (hb:e=q∨w0.heap.size≤e) (h:Only q w0 w) (v0 v1 v2 v3 v4 v5:Value):Only q w0 ((((((w.setCell ⟨e,0,none⟩ v0).setCell ⟨e,1,none⟩ v1).setCell ⟨e,2,none⟩ v2).setCell ⟨e,3,none⟩ v3).setCell ⟨e,4,none⟩ v4).setCell ⟨e,5,none⟩ v5) :=
 onlySets hb [v0,v1,v2,v3,v4,v5] 0 w h
end
def GoodInv (g L q:Nat) (l:Lvl) (ws gs:Sl) (w Y:World):Prop :=
 Dr w g q Y∧Blk Y w.heap.size 29 (lvlC lv0 ⟨none,0,0⟩ ⟨none,0,0⟩)∧Blk Y (w.heap.size+1) 33 (repC rep0 ⟨none,0,0⟩ ⟨none,0,0⟩)∧Blk Y L 29 (lvlC l ws gs)∧OwLv w.heap.size Y l ws gs
set_option maxRecDepth 100000 in
set_option maxHeartbeats 8000000 in
theorem l92Good_any (g p:Nat) (w:World) (h:Rdr w g p) (hp:p≤500000) :
  Calls Qy.prog 25 #[.pointer (some ⟨g,0,none⟩)] w (GoodPost g p 5000 w):=by
 have hg:=h.lt
 have hne:w.heap.size≠g:=by omega
 have hne1:w.heap.size+1≠g:=by omega
 have KA:=Lib.hid ((Blk.new w 29 (lvlC lv0 ⟨none,0,0⟩ ⟨none,0,0⟩)).alloc (.cells (repC rep0 ⟨none,0,0⟩ ⟨none,0,0⟩) 33))
 have KB:=Lib.hid (Blk.newAt (w.alloc (.cells (lvlC lv0 ⟨none,0,0⟩ ⟨none,0,0⟩) 29)) 33 (repC rep0 ⟨none,0,0⟩ ⟨none,0,0⟩) (w.heap.size+1) (by simp))
 have HD:=Lib.hid (show Dr w g p _ from Dr.next (Dr.next ⟨h,Only.refl _ _⟩ (ba (Below.refl _ _) (o:=.cells (lvlC lv0 ⟨none,0,0⟩ ⟨none,0,0⟩) 29))) (ba (Below.refl _ _) (o:=.cells (repC rep0 ⟨none,0,0⟩ ⟨none,0,0⟩) 33)))
 clear h
 go_enter Qy.func25,Tryz.ntmps25
 go_wp2_with fail
 refine (l91Level_any g _ _ HD.out.1 (by omega)).mono ?_
 rintro e w1 ⟨l,ws,gs,q1,rfl,hl,hq,hD⟩
 have hz2:w.heap.size+1<w1.heap.size:=by have h1:=hD.2.size;simp at h1;omega
 replace KA:=Lib.hid (KA.out.only hD.2 hne)
 replace KB:=Lib.hid (KB.out.only hD.2 hne1)
 replace HD:=Lib.hid (HD.out.step hD.1 hD.2)
 have HOL:=Lib.hid (hl.mono (show w.heap.size≤_ by simp;omega))
 have hg1:g<w1.heap.size:=by omega
 clear hl hD
 go_upto_region 2 with (fail)
 refine into_world (fun Y=>Dr w g q1 Y∧Blk Y w.heap.size 29 (lvlC lv0 ⟨none,0,0⟩ ⟨none,0,0⟩)∧Blk Y (w.heap.size+1) 33 (repC rep0 ⟨none,0,0⟩ ⟨none,0,0⟩)∧Blk Y w1.heap.size 29 (lvlC l ws gs)∧OwLv w.heap.size Y l ws gs) ⟨HD.out.next (ba (Below.refl _ _)),KA.out.alloc _,KB.out.alloc _,Blk.new _ _ _,HOL.out.next (ba (Below.refl _ _))⟩ ?_
 rintro W ⟨hD,hKA,hKB,hKL,hOL⟩
 have H0:=Lib.hid (show Dr w g q1 W∧Blk W w.heap.size 29 (lvlC lv0 ⟨none,0,0⟩ ⟨none,0,0⟩)∧Blk W (w.heap.size+1) 33 (repC rep0 ⟨none,0,0⟩ ⟨none,0,0⟩)∧Blk W w1.heap.size 29 (lvlC l ws gs)∧OwLv w.heap.size W l ws gs from ⟨hD,hKA,hKB,hKL,hOL⟩)
 clear hD hKA hKB hKL hOL KA KB HD HOL
 go_upto_block 0 with (fail)
 go_cut [6] (fun _ wx=>∃ (l:Lvl) (ws gs:Sl) (q:Nat),Hid (q≤p+1400∧GoodInv g w1.heap.size q l ws gs w wx))
 case first =>
  go_wp2_with fail
  go_loopw [6] (fun i wr=>∃ (k:Nat) (l:Lvl) (ws gs:Sl) (q:Nat),i=.int .i64 k∧k≤6∧Hid (q≤p+200 * (k+1)∧GoodInv g w1.heap.size q l ws gs w wr)) (fun i _=>6 - (intOf i).toNat)
  case atStart=>exact ⟨0,l,ws,gs,q1,rfl,Nat.zero_le _,by omega,H0.out⟩
  case round =>
   obtain ⟨k,l,ws,gs,q,rfl,hk,HX⟩:=hrel
   obtain ⟨hq2,hD,hKA,hKB,hKL,hOL⟩:=HX.out
   have HQ2:=Lib.hid hq2
   have HD:=Lib.hid hD
   have KA:=Lib.hid hKA
   have KB:=Lib.hid hKB
   have KL:=Lib.hid hKL
   have HOL:=Lib.hid hOL
   clear hq2 hD hKA hKB hKL hOL HX
   have cl:=fun o=>KL.out.cell o
   have fl:=fun o=>KL.out.frozen o
   have zl:=KL.out.lt
   by_cases hlt:k<6
   ·have hlti:(k:Int)<6:=by omega
    go_wp2_with fail
    refine (specLevelValid_any l ws gs _ HOL.out.rd).mono ?_
    rintro e w2 ⟨rfl,hb⟩
    replace HD:=Lib.hid (HD.out.next hb)
    replace KA:=Lib.hid (KA.out.next hb)
    replace KB:=Lib.hid (KB.out.next hb)
    replace KL:=Lib.hid (KL.out.next hb)
    replace HOL:=Lib.hid (HOL.out.next hb)
    have hg2:g<w2.heap.size:=HD.out.1.lt
    have hlw:w1.heap.size<w2.heap.size:=KL.out.lt
    clear hb cl fl zl
    cases hlo:levelOk l
    ·clear hlo
     have hpq:q≤1000000:=by have h:=HQ2.out;omega
     go_wp2_with fail
     refine (l91Level_any g q _ HD.out.1 hpq).mono ?_
     rintro e w3 ⟨l',ws',gs',q',rfl,hl',hq',hD'⟩
     replace KA:=Lib.hid (KA.out.only hD'.2 hne)
     replace KB:=Lib.hid (KB.out.only hD'.2 hne1)
     replace KL:=Lib.hid (KL.out.only hD'.2 (by omega))
     replace HD:=Lib.hid (HD.out.step hD'.1 hD'.2)
     have HOL2:=Lib.hid (hl'.mono (show w.heap.size≤w2.heap.size by omega))
     have HQ3:=Lib.hid hq'
     clear hl' hD' hq' HOL
     have cl:=fun o=>KL.out.cell o
     have fl:=fun o=>KL.out.frozen o
     have zl:=KL.out.lt
     go_upto_region 4 with (fail)
     refine into_world (fun Y=>GoodInv g w1.heap.size q' l' ws' gs' w Y) ⟨Dr.sets hg (by omega) (lvlC l' ws' gs').toList 0 _ HD.out,KA.out.only (onlySets (.inl rfl) (lvlC l' ws' gs').toList 0 _ (Only.refl w1.heap.size _)) (by omega),KB.out.only (onlySets (.inl rfl) (lvlC l' ws' gs').toList 0 _ (Only.refl w1.heap.size _)) (by omega),setLv KL.out,HOL2.out.onlyT KL.out (by decide) (onlySets (.inl rfl) (lvlC l' ws' gs').toList 0 _ (Only.refl w1.heap.size _))⟩ ?_
     intro Y hY
     have HY:=Lib.hid hY
     clear hY cl fl zl
     go_wp2_with fail
     exact ⟨⟨k+1,l',ws',gs',q',by go_num,by omega,by have h1:=HQ2.out;have h2:=HQ3.out;omega,HY.out⟩,by simp [intOf];omega⟩
    ·clear hlo
     go_wp2_with fail
     go_meet
     exact ⟨l,ws,gs,q,by have h1:=HQ2.out;omega,HD.out,KA.out,KB.out,KL.out,HOL.out⟩
   ·have hk6:k=6:=by omega
    subst hk6
    go_wp2_with fail
    go_meet
    exact ⟨l,ws,gs,q,by have h1:=HQ2.out;omega,HD.out,KA.out,KB.out,KL.out,HOL.out⟩
 case rest =>
  obtain ⟨l2,ws2,gs2,q2,hcut⟩:=hcut
  obtain ⟨hq2,hD,hKA,hKB,hKL,hOL⟩:=hcut.out
  have HD:=Lib.hid hD
  have KA:=Lib.hid hKA
  have KB:=Lib.hid hKB
  have KL:=Lib.hid hKL
  have HOL:=Lib.hid hOL
  clear hD hKA hKB hKL hOL hcut H0
  go_wp2_with fail
  refine (pick_any g 99 _ _ HD.out.1 (by omega)).mono ?_
  rintro e w3 ⟨v3,rfl,a3,b3,hR,hO⟩
  replace KA:=Lib.hid (KA.out.only hO hne)
  replace KB:=Lib.hid (KB.out.only hO hne1)
  replace KL:=Lib.hid (KL.out.only hO (by omega))
  replace HOL:=Lib.hid (HOL.out.only hO hg)
  replace HD:=Lib.hid (HD.out.step hR hO)
  clear hR hO
  go_wp2_with fail
  refine (pick_any g 100 _ _ HD.out.1 (by omega)).mono ?_
  rintro e w4 ⟨v4,rfl,a4,b4,hR,hO⟩
  replace KA:=Lib.hid (KA.out.only hO hne)
  replace KB:=Lib.hid (KB.out.only hO hne1)
  replace KL:=Lib.hid (KL.out.only hO (by omega))
  replace HOL:=Lib.hid (HOL.out.only hO hg)
  replace HD:=Lib.hid (HD.out.step hR hO)
  have hz4:w1.heap.size<w4.heap.size:=KL.out.lt
  have h1g:w1.heap.size≠g:=by omega
  clear hR hO
  go_upto_region 7 with (fail)
  generalize hkk:(1+100 * v3+v4:Int)=kk at *
  generalize Value.int .i64 (100 * v3)=x25 at *
  generalize Value.int .i64 (1+100 * v3)=x26 at *
  have h5w:w.heap.size≤w4.heap.size:=HD.out.2.size
  refine wp_region_grow 13 (by kernel_rfl) (by kernel_rfl) (by kernel_rfl) (fun a b=>TchG g a b) (fun mq w'=>∃ q,q≤q2+1+1+201 * mq∧Dr w g q w'∧Only g w4 w') (fun iq v w'=>match iq with|0=>(v=lvlV l2 ws2 gs2)|1=>(v=.pointer (some ⟨g,0,none⟩))|2=>(∃ z:Int,v=.int .i64 z)|3=>(v=.int .i64 kk)|4=>(v=.pointer (some ⟨g,0,none⟩))|5=>(v=lvlV l2 ws2 gs2)|6=>(∃ (A1:Option Addr) (n1 c1:Nat) (xs1:List Inp),v=.slice A1 n1 c1∧Ow 0 w' 74 3 A1 n1 c1 (cellsN xs1)∧n1≤60)|7=>(∃ (r:Rep) (si sh:Sl) (ok:Bool),v=.tuple #[repV r si sh,.bool ok]∧OwRs w' r si sh)|8=>(∃ (r:Rep) (si sh:Sl) (ok:Bool),v=.tuple #[repV r si sh,.bool ok]∧OwRs w' r si sh)|9=>(∃ (r:Rep) (si sh:Sl),v=repV r si sh∧OwRs w' r si sh)|10=>(∃ ok:Bool,v=.bool ok)|11=>(∃ e:Nat,v=.pointer (some ⟨e,0,none⟩)∧w4.heap.size≤e∧∃ r si sh,Blk w' e 33 (repC r si sh)∧OwRs w' r si sh)|12=>(True)|_=>True) (fun sq=>{ tmps:=#[.pointer (some ⟨g,0,none⟩),undef,.pointer (some ⟨w.heap.size,0,none⟩),.int .i64 0,.pointer (some ⟨w.heap.size+1,0,none⟩),.pointer (some ⟨w1.heap.size,0,none⟩),u6,.int .i64 kk,sq 11,undef,.pointer (some ⟨g,0,none⟩),lvlV l ws gs,u12,u13,u14,u15,u16,u17,u18,u19,u20,u21,u22,.pointer (some ⟨g,0,none⟩),.int .i64 v3,x25,x26,.pointer (some ⟨g,0,none⟩),.int .i64 v4,.int .i64 kk,sq 8,sq 0,sq 1,sq 2,sq 3,sq 4,sq 5,sq 6,sq 7,sq 9,sq 10,undef,undef,undef],defers:=[] }) (fun _=>undef) ?_ ?_ ?_ ?_
  ·rintro iq v a b hg h
   match iq,h with
   | 0,h=>exact h
   | 1,h=>exact h
   | 2,h=>exact h
   | 3,h=>exact h
   | 4,h=>exact h
   | 5,h=>exact h
   | 6,h=>exact (by obtain ⟨A1,n1,c1,xs1,rfl,h1,h2⟩:=h;exact ⟨A1,n1,c1,xs1,rfl,hg.row h1 (by decide) (by decide),h2⟩)
   | 7,h=>exact (by obtain ⟨r,si,sh,ok,rfl,h1⟩:=h;exact ⟨r,si,sh,ok,rfl,hg.rep h1⟩)
   | 8,h=>exact (by obtain ⟨r,si,sh,ok,rfl,h1⟩:=h;exact ⟨r,si,sh,ok,rfl,hg.rep h1⟩)
   | 9,h=>exact (by obtain ⟨r,si,sh,rfl,h1⟩:=h;exact ⟨r,si,sh,rfl,hg.rep h1⟩)
   | 10,h=>exact h
   | 11,h=>exact (by obtain ⟨e,rfl,h1,h2⟩:=h;exact ⟨e,rfl,h1,hg.blk h2⟩)
   | 12,h=>exact h
   | (kq+13),_=>exact trivial
  ·exact ⟨_,by omega,HD.out.next ⟨rfl,rfl,rfl,Nat.le_refl _,fun _ _=>rfl⟩,(show Only g w4 w4.drew from ⟨rfl,rfl,rfl,Nat.le_refl _,fun _ _ _=>rfl⟩)⟩
  ·intro mq sq w' iq oq hmq hiq hoq hJ hd Kq hK
   have hiq':iq=0∨iq=1∨iq=2∨iq=3∨iq=4∨iq=5∨iq=6∨iq=7∨iq=8∨iq=9∨iq=10∨iq=11∨iq=12:=by omega
   rcases hiq' with rfl|rfl|rfl|rfl|rfl|rfl|rfl|rfl|rfl|rfl|rfl|rfl|rfl
   ·cases (show some _=some oq from hoq)
    have hK':=hK
    simp only [updV,Nat.reduceEqDiff,↓reduceIte] at hK'
    clear hK hd
    generalize sq 0=x0,sq 1=x1,sq 2=x2,sq 3=x3,sq 4=x4,sq 5=x5,sq 6=x6,sq 7=x7,sq 8=x8,sq 9=x9,sq 10=x10,sq 11=x11,sq 12=x12 at *
    have hcc:=fun o=>(KL.out.only (by obtain ⟨q,hq,hD,hO⟩:=hJ;exact hO) h1g).cell o
    go_simp
    exact hK' _ _ (.inl (Below.refl _ _)) (by obtain ⟨q,hq,hD,hO⟩:=hJ;exact ⟨q,by omega,hD,hO⟩) rfl
   ·cases (show some _=some oq from hoq)
    have hK':=hK
    simp only [updV,Nat.reduceEqDiff,↓reduceIte] at hK'
    clear hK hd
    generalize sq 0=x0,sq 1=x1,sq 2=x2,sq 3=x3,sq 4=x4,sq 5=x5,sq 6=x6,sq 7=x7,sq 8=x8,sq 9=x9,sq 10=x10,sq 11=x11,sq 12=x12 at *
    go_simp
    exact hK' _ _ (.inl (Below.refl _ _)) (by obtain ⟨q,hq,hD,hO⟩:=hJ;exact ⟨q,by omega,hD,hO⟩) rfl
   ·cases (show some _=some oq from hoq)
    have d1:=hd 1 (by kernel_rfl) (by decide)
    have hK':=hK
    simp only [updV,Nat.reduceEqDiff,↓reduceIte] at hK'
    clear hK hd
    generalize sq 0=x0,sq 1=x1,sq 2=x2,sq 3=x3,sq 4=x4,sq 5=x5,sq 6=x6,sq 7=x7,sq 8=x8,sq 9=x9,sq 10=x10,sq 11=x11,sq 12=x12 at *
    obtain rfl:=d1
    obtain ⟨q,hq,hD,hO⟩:=hJ
    go_simp
    refine (pick_any g 10 _ _ hD.1 (by omega)).mono ?_
    rintro e9 w9 ⟨v9,rfl,_,_,hR,hO9⟩
    obtain ⟨_,_,_,_,hrb,_⟩:=hD.1
    exact hK' _ _ (.inr (.inl ⟨_,hrb,hO9⟩)) ⟨q+1,by omega,hD.step hR hO9,hO.trans hO9⟩ ⟨_,rfl⟩
   ·cases (show some _=some oq from hoq)
    have hK':=hK
    simp only [updV,Nat.reduceEqDiff,↓reduceIte] at hK'
    clear hK hd
    generalize sq 0=x0,sq 1=x1,sq 2=x2,sq 3=x3,sq 4=x4,sq 5=x5,sq 6=x6,sq 7=x7,sq 8=x8,sq 9=x9,sq 10=x10,sq 11=x11,sq 12=x12 at *
    go_simp
    exact hK' _ _ (.inl (Below.refl _ _)) (by obtain ⟨q,hq,hD,hO⟩:=hJ;exact ⟨q,by omega,hD,hO⟩) rfl
   ·cases (show some _=some oq from hoq)
    have hK':=hK
    simp only [updV,Nat.reduceEqDiff,↓reduceIte] at hK'
    clear hK hd
    generalize sq 0=x0,sq 1=x1,sq 2=x2,sq 3=x3,sq 4=x4,sq 5=x5,sq 6=x6,sq 7=x7,sq 8=x8,sq 9=x9,sq 10=x10,sq 11=x11,sq 12=x12 at *
    go_simp
    exact hK' _ _ (.inl (Below.refl _ _)) (by obtain ⟨q,hq,hD,hO⟩:=hJ;exact ⟨q,by omega,hD,hO⟩) rfl
   ·cases (show some _=some oq from hoq)
    have hK':=hK
    simp only [updV,Nat.reduceEqDiff,↓reduceIte] at hK'
    clear hK hd
    generalize sq 0=x0,sq 1=x1,sq 2=x2,sq 3=x3,sq 4=x4,sq 5=x5,sq 6=x6,sq 7=x7,sq 8=x8,sq 9=x9,sq 10=x10,sq 11=x11,sq 12=x12 at *
    have hcc:=fun o=>(KL.out.only (by obtain ⟨q,hq,hD,hO⟩:=hJ;exact hO) h1g).cell o
    go_simp
    exact hK' _ _ (.inl (Below.refl _ _)) (by obtain ⟨q,hq,hD,hO⟩:=hJ;exact ⟨q,by omega,hD,hO⟩) rfl
   ·cases (show some _=some oq from hoq)
    have d4:=hd 4 (by kernel_rfl) (by decide)
    have d5:=hd 5 (by kernel_rfl) (by decide)
    have hK':=hK
    simp only [updV,Nat.reduceEqDiff,↓reduceIte] at hK'
    clear hK hd
    generalize sq 0=x0,sq 1=x1,sq 2=x2,sq 3=x3,sq 4=x4,sq 5=x5,sq 6=x6,sq 7=x7,sq 8=x8,sq 9=x9,sq 10=x10,sq 11=x11,sq 12=x12 at *
    obtain rfl:=d4
    obtain rfl:=d5
    obtain ⟨q,hq,hD,hO⟩:=hJ
    go_simp
    refine (l92Run_any g q w.heap.size l2 ws2 gs2 _ hD.1 (by omega) (HOL.out.only hO hg) hg).mono ?_
    rintro e9 w9 ⟨A1,n1,c1,xs1,q9,rfl,how,_,hn60,hq9,hD9⟩
    obtain ⟨_,_,_,_,hrb,_⟩:=hD.1
    exact hK' _ _ (.inr (.inl ⟨_,hrb,hD9.2⟩)) ⟨q9,by omega,hD.step hD9.1 hD9.2,hO.trans hD9.2⟩ ⟨A1,n1,c1,xs1,rfl,how.mono (Nat.zero_le _),hn60⟩
   ·cases (show some _=some oq from hoq)
    have d0:=hd 0 (by kernel_rfl) (by decide)
    have d2:=hd 2 (by kernel_rfl) (by decide)
    have d3:=hd 3 (by kernel_rfl) (by decide)
    have d6:=hd 6 (by kernel_rfl) (by decide)
    have hK':=hK
    simp only [updV,Nat.reduceEqDiff,↓reduceIte] at hK'
    clear hK hd
    generalize sq 0=x0,sq 1=x1,sq 2=x2,sq 3=x3,sq 4=x4,sq 5=x5,sq 6=x6,sq 7=x7,sq 8=x8,sq 9=x9,sq 10=x10,sq 11=x11,sq 12=x12 at *
    obtain rfl:=d0
    obtain ⟨z2,rfl⟩:=d2
    obtain rfl:=d3
    obtain ⟨A1,n1,c1,xs1,rfl,ho7,hn60⟩:=d6
    obtain ⟨q,hq,hD,hO⟩:=hJ
    go_simp
    refine (specReplayMake_any l2 ws2 gs2 z2 kk A1 n1 c1 xs1 _ (HOL.out.only hO hg).rd (Ow.rd encIn_len (by decide) ho7) (by omega) ho7.le).mono ?_
    rintro e9 w9 ⟨si,sh,rfl,hor,hb9⟩
    have hsm:=makeW_small (l:=l2) (p:=z2) (key:=kk) (show xs1.length≤60 by rw [← ho7.lenN];exact hn60)
    exact hK' _ _ (.inl hb9) ⟨q,by omega,hD.next hb9,hO.next hb9⟩ ⟨_,si,sh,_,rfl,hor,by rw [hor.1.lenN];exact hsm.1,by rw [hor.2.1.lenI];exact hsm.2⟩
   ·cases (show some _=some oq from hoq)
    have d7:=hd 7 (by kernel_rfl) (by decide)
    have hK':=hK
    simp only [updV,Nat.reduceEqDiff,↓reduceIte] at hK'
    clear hK hd
    generalize sq 0=x0,sq 1=x1,sq 2=x2,sq 3=x3,sq 4=x4,sq 5=x5,sq 6=x6,sq 7=x7,sq 8=x8,sq 9=x9,sq 10=x10,sq 11=x11,sq 12=x12 at *
    obtain ⟨r,si,sh,ok,rfl,ho8⟩:=d7
    go_simp
    exact hK' _ _ (.inl (Below.refl _ _)) (by obtain ⟨q,hq,hD,hO⟩:=hJ;exact ⟨q,by omega,hD,hO⟩) ⟨r,si,sh,ok,rfl,ho8⟩
   ·cases (show some _=some oq from hoq)
    have d8:=hd 8 (by kernel_rfl) (by decide)
    have hK':=hK
    simp only [updV,Nat.reduceEqDiff,↓reduceIte] at hK'
    clear hK hd
    generalize sq 0=x0,sq 1=x1,sq 2=x2,sq 3=x3,sq 4=x4,sq 5=x5,sq 6=x6,sq 7=x7,sq 8=x8,sq 9=x9,sq 10=x10,sq 11=x11,sq 12=x12 at *
    obtain ⟨r,si,sh,ok,rfl,ho8⟩:=d8
    go_simp
    exact hK' _ _ (.inl (Below.refl _ _)) (by obtain ⟨q,hq,hD,hO⟩:=hJ;exact ⟨q,by omega,hD,hO⟩) ⟨r,si,sh,rfl,ho8⟩
   ·cases (show some _=some oq from hoq)
    have d8:=hd 8 (by kernel_rfl) (by decide)
    have hK':=hK
    simp only [updV,Nat.reduceEqDiff,↓reduceIte] at hK'
    clear hK hd
    generalize sq 0=x0,sq 1=x1,sq 2=x2,sq 3=x3,sq 4=x4,sq 5=x5,sq 6=x6,sq 7=x7,sq 8=x8,sq 9=x9,sq 10=x10,sq 11=x11,sq 12=x12 at *
    obtain ⟨r,si,sh,ok,rfl,ho8⟩:=d8
    go_simp
    exact hK' _ _ (.inl (Below.refl _ _)) (by obtain ⟨q,hq,hD,hO⟩:=hJ;exact ⟨q,by omega,hD,hO⟩) ⟨_,rfl⟩
   ·cases (show some _=some oq from hoq)
    have hK':=hK
    simp only [updV,Nat.reduceEqDiff,↓reduceIte] at hK'
    clear hK hd
    generalize sq 0=x0,sq 1=x1,sq 2=x2,sq 3=x3,sq 4=x4,sq 5=x5,sq 6=x6,sq 7=x7,sq 8=x8,sq 9=x9,sq 10=x10,sq 11=x11,sq 12=x12 at *
    obtain ⟨q,hq,hD,hO⟩:=hJ
    go_simp
    exact hK' _ _ (.inl (ba (Below.refl _ _))) ⟨q,by omega,hD.next (ba (Below.refl _ _)),hO.next (ba (Below.refl _ _))⟩ ⟨_,rfl,hO.size,rep0,⟨none,0,0⟩,⟨none,0,0⟩,Blk.new _ _ _,rdR_zero _,by simp,by simp⟩
   ·cases (show some _=some oq from hoq)
    have d9:=hd 9 (by kernel_rfl) (by decide)
    have d11:=hd 11 (by kernel_rfl) (by decide)
    have hK':=hK
    simp only [updV,Nat.reduceEqDiff,↓reduceIte] at hK'
    clear hK hd
    generalize sq 0=x0,sq 1=x1,sq 2=x2,sq 3=x3,sq 4=x4,sq 5=x5,sq 6=x6,sq 7=x7,sq 8=x8,sq 9=x9,sq 10=x10,sq 11=x11,sq 12=x12 at *
    obtain ⟨r,si,sh,rfl,ho10⟩:=d9
    obtain ⟨e,rfl,he,r',si',sh',hbk,ho12⟩:=d11
    obtain ⟨q,hq,hD,hO⟩:=hJ
    have cx:=fun o=>hbk.cell o
    have fx:=fun o=>hbk.frozen o
    have zx:=hbk.lt
    go_simp
    have ho6:=only6' (q:=e) (.inl rfl) (Only.refl e w') (.int .i64 r.lv) (.int .i64 r.pl) (.int .i64 r.sc) (.slice si.a si.n si.c) (.slice sh.a sh.n sh.c) (.int .i64 r.tag)
    exact hK' undef _ (.inr (.inr ⟨e,r,si,sh,_,hbk,ho6,hbk.all6 _ _ _ _ _ _,ho10.1.onlyT hbk (by decide) (by decide) ho6,ho10.2⟩)) ⟨q,by omega,hD.six' (by omega) hg _ _ _ _ _ _,only6' (.inr he) hO _ _ _ _ _ _⟩ trivial
  ·intro sq w' hJ hφ
   simp only [List.drop_succ_cons,List.drop_zero]
   have d10:=hφ 10 (by decide)
   have d11:=hφ 11 (by decide)
   clear hφ
   generalize sq 0=x0,sq 1=x1,sq 2=x2,sq 3=x3,sq 4=x4,sq 5=x5,sq 6=x6,sq 7=x7,sq 8=x8,sq 9=x9,sq 10=x10,sq 11=x11,sq 12=x12 at *
   obtain ⟨ok9,rfl⟩:=d10
   obtain ⟨e9,rfl,he9,r9,si9,sh9,hbk,ho9⟩:=d11
   obtain ⟨q5,hq5,hD,hO⟩:=hJ
   have KX:=Lib.hid hbk
   have HRP:=Lib.hid ho9
   replace HD:=Lib.hid hD
   replace KA:=Lib.hid (KA.out.only hO hne)
   replace KB:=Lib.hid (KB.out.only hO hne1)
   replace KL:=Lib.hid (KL.out.only hO h1g)
   replace HOL:=Lib.hid (HOL.out.only hO hg)
   have HQ5:=Lib.hid hq5
   clear hbk ho9 hD hO hq5
   go_upto_region 8 with (fail)
   refine into_world (fun Y=>Dr w g q5 Y∧Blk Y w.heap.size 29 (lvlC lv0 ⟨none,0,0⟩ ⟨none,0,0⟩)∧Blk Y (w.heap.size+1) 33 (repC rep0 ⟨none,0,0⟩ ⟨none,0,0⟩)∧Blk Y w1.heap.size 29 (lvlC l2 ws2 gs2)∧OwLv w.heap.size Y l2 ws2 gs2∧Blk Y e9 33 (repC r9 si9 sh9)∧OwRs Y r9 si9 sh9) ⟨HD.out,KA.out,KB.out,KL.out,HOL.out,KX.out,HRP.out⟩ ?_
   rintro Z ⟨hD,hKA,hKB,hKL,hOL,hKX,hRP⟩
   replace HD:=Lib.hid hD
   replace KA:=Lib.hid hKA
   replace KB:=Lib.hid hKB
   replace KL:=Lib.hid hKL
   replace HOL:=Lib.hid hOL
   replace KX:=Lib.hid hKX
   replace HRP:=Lib.hid hRP
   clear hD hKA hKB hKL hOL hKX hRP
   have hneA:w1.heap.size≠w.heap.size:=by omega
   have hneE:e9≠w.heap.size:=by have:=Nat.le_trans h5w he9;omega
   have hneB:w.heap.size+1≠w.heap.size:=by omega
   generalize x0=y0 at *
   generalize x1=y1 at *
   generalize x2=y2 at *
   generalize x3=y3 at *
   generalize x4=y4 at *
   generalize x5=y5 at *
   generalize x6=y6 at *
   generalize x7=y7 at *
   generalize x8=y8 at *
   generalize x9=y9 at *
   refine wp_region_grow 5 (by kernel_rfl) (by kernel_rfl) (by kernel_rfl) (fun a b=>Only w.heap.size a b∧(Blk a w.heap.size 29 (lvlC l2 ws2 gs2)→Blk b w.heap.size 29 (lvlC l2 ws2 gs2))) (fun mq w'=>Only w.heap.size Z w'∧(∃ l0 w0 g0,Blk w' w.heap.size 29 (lvlC l0 w0 g0))) (fun iq v w'=>match iq with|0=>(v=lvlV l2 ws2 gs2)|1=>(v=.int .i64 kk)|2=>(v=repV r9 si9 sh9)|3=>(Blk w' w.heap.size 29 (lvlC l2 ws2 gs2))|4=>(v=.int .i64 kk)|_=>True) (fun sq=>{ tmps:=#[.pointer (some ⟨g,0,none⟩),undef,.pointer (some ⟨w.heap.size,0,none⟩),sq 4,.pointer (some ⟨w.heap.size+1,0,none⟩),.pointer (some ⟨w1.heap.size,0,none⟩),u6,.int .i64 kk,.pointer (some ⟨e9,0,none⟩),.bool ok9,.pointer (some ⟨g,0,none⟩),lvlV l ws gs,u12,u13,u14,u15,u16,u17,u18,u19,u20,u21,u22,.pointer (some ⟨g,0,none⟩),.int .i64 v3,x25,x26,.pointer (some ⟨g,0,none⟩),.int .i64 v4,.int .i64 kk,y8,y0,y1,y2,y3,y4,y5,y6,y7,y9,.bool ok9,sq 0,sq 1,sq 2],defers:=[] }) (fun j=>match j with|0=>undef|1=>undef|2=>undef|3=>undef|4=>(.int .i64 0)|_=>undef) ?_ ?_ ?_ ?_
   ·rintro iq v a b hg h
    match iq,h with
    | 0,h=>exact h
    | 1,h=>exact h
    | 2,h=>exact h
    | 3,h=>exact hg.2 h
    | 4,h=>exact h
    | (kq+5),_=>exact trivial
   ·exact ⟨⟨rfl,rfl,rfl,Nat.le_refl _,fun _ _ _=>rfl⟩,_,_,_,KA.out⟩
   ·intro mq sq w' iq oq hmq hiq hoq hJ hd Kq hK
    have hiq':iq=0∨iq=1∨iq=2∨iq=3∨iq=4:=by omega
    rcases hiq' with rfl|rfl|rfl|rfl|rfl
    ·cases (show some _=some oq from hoq)
     have hK':=hK
     simp only [updV,Nat.reduceEqDiff,↓reduceIte] at hK'
     clear hK hd
     generalize sq 0=x0,sq 1=x1,sq 2=x2,sq 3=x3,sq 4=x4 at *
     have hcc:=fun q=>(KL.out.only hJ.1 hneA).cell q
     go_simp
     exact hK' _ _ ⟨Only.refl _ _,fun h=>h⟩ hJ rfl
    ·cases (show some _=some oq from hoq)
     have hK':=hK
     simp only [updV,Nat.reduceEqDiff,↓reduceIte] at hK'
     clear hK hd
     generalize sq 0=x0,sq 1=x1,sq 2=x2,sq 3=x3,sq 4=x4 at *
     go_simp
     exact hK' _ _ ⟨Only.refl _ _,fun h=>h⟩ hJ rfl
    ·cases (show some _=some oq from hoq)
     have hK':=hK
     simp only [updV,Nat.reduceEqDiff,↓reduceIte] at hK'
     clear hK hd
     generalize sq 0=x0,sq 1=x1,sq 2=x2,sq 3=x3,sq 4=x4 at *
     have hcc:=fun q=>(KX.out.only hJ.1 hneE).cell q
     go_simp
     exact hK' _ _ ⟨Only.refl _ _,fun h=>h⟩ hJ rfl
    ·cases (show some _=some oq from hoq)
     have d0:=hd 0 (by kernel_rfl) (by decide)
     have hK':=hK
     simp only [updV,Nat.reduceEqDiff,↓reduceIte] at hK'
     clear hK hd
     generalize sq 0=x0,sq 1=x1,sq 2=x2,sq 3=x3,sq 4=x4 at *
     obtain rfl:=d0
     obtain ⟨hJ1,l0,w0,g0,hJ2⟩:=hJ
     have cn:=fun q=>hJ2.cell q
     have fn:=fun q=>hJ2.frozen q
     have hnew:=setLv (l:=l2) (ws:=ws2) (gs:=gs2) hJ2
     have hol:=onlySets (g:=w.heap.size) (.inl rfl) (lvlC l2 ws2 gs2).toList 0 _ (Only.refl w.heap.size w')
     go_simp
     exact hK' undef _ ⟨hol,fun _=>hnew⟩ ⟨hJ1.trans hol,_,_,_,hnew⟩ hnew
    ·cases (show some _=some oq from hoq)
     have d1:=hd 1 (by kernel_rfl) (by decide)
     have d3:=hd 3 (by kernel_rfl) (by decide)
     have hK':=hK
     simp only [updV,Nat.reduceEqDiff,↓reduceIte] at hK'
     clear hK hd
     generalize sq 0=x0,sq 1=x1,sq 2=x2,sq 3=x3,sq 4=x4 at *
     obtain rfl:=d1
     go_simp
     exact hK' _ _ ⟨Only.refl _ _,fun h=>h⟩ hJ rfl
   ·intro sq w' hJ hφ
    simp only [List.drop_succ_cons,List.drop_zero]
    have d2:=hφ 2 (by decide)
    have d3:=hφ 3 (by decide)
    have d4:=hφ 4 (by decide)
    clear hφ
    generalize sq 0=x0,sq 1=x1,sq 2=x2,sq 3=x3,sq 4=x4 at *
    obtain rfl:=d2
    obtain rfl:=d4
    have KA2:=Lib.hid d3
    have HJ:=Lib.hid hJ.1
    have KB2:=Lib.hid (KB.out.only hJ.1 hneB)
    clear hJ d3
    have cb:=fun o=>KB2.out.cell o
    have fb:=fun o=>KB2.out.frozen o
    have zb:=KB2.out.lt
    have ca:=fun o=>KA2.out.cell o
    have fa:=fun o=>KA2.out.frozen o
    have za:=KA2.out.lt
    have HX6:=Lib.hid (only6' (q:=w.heap.size+1) (.inl rfl) (Only.refl (w.heap.size+1) w') (.int .i64 r9.lv) (.int .i64 r9.pl) (.int .i64 r9.sc) (.slice si9.a si9.n si9.c) (.slice sh9.a sh9.n sh9.c) (.int .i64 r9.tag))
    have KB3:=Lib.hid (KB2.out.all6 (.int .i64 r9.lv) (.int .i64 r9.pl) (.int .i64 r9.sc) (.slice si9.a si9.n si9.c) (.slice sh9.a sh9.n sh9.c) (.int .i64 r9.tag))
    have KA3:=Lib.hid (KA2.out.only HX6.out (by omega))
    go_wp2_with fail
    obtain ⟨V,hV⟩:∃ V,((((((w'.setCell ⟨w.heap.size+1,0,none⟩ (.int .i64 r9.lv)).setCell ⟨w.heap.size+1,1,none⟩ (.int .i64 r9.pl)).setCell ⟨w.heap.size+1,2,none⟩ (.int .i64 r9.sc)).setCell ⟨w.heap.size+1,3,none⟩ (.slice si9.a si9.n si9.c)).setCell ⟨w.heap.size+1,4,none⟩ (.slice sh9.a sh9.n sh9.c)).setCell ⟨w.heap.size+1,5,none⟩ (.int .i64 r9.tag))=V:=⟨_,rfl⟩
    rw [hV] at HX6 KB3 KA3 ⊢
    have ca3:=fun o=>KA3.out.cell o
    have cb3:=fun o=>KB3.out.cell o
    refine bodyPost_ret (v:=.tuple #[lvlV l2 ws2 gs2,.int .i64 kk,repV r9 si9 sh9]) (by simp [results,Tryz.results25,go_sem,ca3,cb3]) rfl ?_
    refine ⟨l2,ws2,gs2,kk,r9,si9,sh9,q5,rfl,?_,?_,HRP.out.2.1,HRP.out.2.2,by have h:=HQ5.out;omega,?_⟩
    ·exact (HOL.out.onlyT KA.out (by decide) HJ.out).onlyT KB2.out (by decide) HX6.out
    ·exact (HRP.out.1.onlyT KA.out (by decide) (by decide) HJ.out).onlyT KB2.out (by decide) (by decide) HX6.out
    ·exact (HD.out.grown hg HJ.out (fun b hb=>by injection hb with hb;omega)).grown hg HX6.out (fun b hb=>by injection hb with hb;omega)
end Go.Proofs.YtpcjdalgebgofaaGreatDoorY

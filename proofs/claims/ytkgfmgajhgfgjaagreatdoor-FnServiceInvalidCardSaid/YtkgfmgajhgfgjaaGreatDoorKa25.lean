/-
  Lemmas and contracts: Eu. No condition.
-/
import Derived.Deep.CutBlock
import Derived.Test.YtkgfmgajhgfgjaaGreatDoorKa14
import Derived.Test.YtkgfmgajhgfgjaaGreatDoorKa21
import Derived.Test.YtkgfmgajhgfgjaaGreatDoorKa22
import Derived.Test.YtkgfmgajhgfgjaaGreatDoorKa24
set_option linter.unusedSimpArgs false
set_option linter.unusedVariables false
set_option linter.unusedSectionVars false
namespace Go.Proofs.YtkgfmgajhgfgjaaGreatDoor
open Go.RowKit Go.Sort
abbrev svC (t k g:Sl):Array Value:=#[.slice t.a t.n t.c,.slice k.a k.n k.c,.slice g.a g.n g.c]
abbrev sl0:Sl:=⟨none,0,0⟩
def SvPost (g p K:Nat) (w:World) (e:Ending) (w':World):Prop :=
 ∃ (t k gg:Sl) (S:Svc) (s:ByteArray) (q:Nat),e=.returned (.tuple #[svV t k gg,.string s])∧OwS (g+1) w'.heap.size w' t k gg S∧idsOk S∧s.size≤2000∧q≤p+K∧Dr w g q w'
def TchR (g:Nat) (a b:World):Prop :=
 Below a.heap.size a b∨(∃ cs,Blk a g 156 cs∧Only g a b)∨(∃ x r si sh cs,Blk a x 35 cs∧Only x a b∧Blk b x 35 (repC r si sh)∧OwRep b r si sh)
section
variable {g:Nat} {a b:World}
theorem TchR.row {B T sz n c:Nat} {A:Option Addr} {vs:List Value} (h:TchR g a b) (k:Ow B a T sz A n c vs) (h1:T≠156) (h2:T≠35):Ow B b T sz A n c vs:=by
 rcases h with h|⟨cs,h,ho⟩|⟨x,r,si,sh,cs,h,ho,_⟩
 ·exact k.next h
 ·exact k.onlyT h h1 ho
 ·exact k.onlyT h h2 ho
theorem TchR.rep {r:Rep} {si sh:Sl} (h:TchR g a b) (k:OwRep a r si sh):OwRep b r si sh:=⟨h.row k.1 (by decide) (by decide),h.row k.2.1 (by decide) (by decide),k.2.2⟩
theorem TchR.blk {e:Nat} (h:TchR g a b) (k:∃ r si sh,Blk a e 35 (repC r si sh)∧OwRep a r si sh):∃ r si sh,Blk b e 35 (repC r si sh)∧OwRep b r si sh:=by
 obtain ⟨r,si,sh,h1,h2⟩:=k
 rcases h with h|⟨cs,h,ho⟩|⟨x,r',si',sh',cs,h,ho,h3,h4⟩
 ·exact ⟨r,si,sh,h1.next h,h2.next h⟩
 ·exact ⟨r,si,sh,h1.only ho (Blk.ne_ h1 h (by decide)),TchR.rep (.inr (.inl ⟨cs,h,ho⟩)) h2⟩
 ·by_cases e1:e=x
  ·subst e1
   exact ⟨r',si',sh',h3,h4⟩
  ·exact ⟨r,si,sh,h1.only ho e1,TchR.rep (g:=g) (.inr (.inr ⟨x,r',si',sh',cs,h,ho,h3,h4⟩)) h2⟩
theorem Dr.six {w0 w:World} {q e:Nat} (h:Dr w0 g q w) (hb:w0.heap.size≤e) (hg:g<w0.heap.size) (v0 v1 v2 v3 v4 v5:Value):Dr w0 g q ((((((w.setCell ⟨e,0,none⟩ v0).setCell ⟨e,1,none⟩ v1).setCell ⟨e,2,none⟩ v2).setCell ⟨e,3,none⟩ v3).setCell ⟨e,4,none⟩ v4).setCell ⟨e,5,none⟩ v5) :=
 Dr.sets hg hb [v0,v1,v2,v3,v4,v5] 0 w h
theorem only6 {q e:Nat} {w0 w:World} (hb:e=q∨w0.heap.size≤e) (h:Only q w0 w) (v0 v1 v2 v3 v4 v5:Value):Only q w0 ((((((w.setCell ⟨e,0,none⟩ v0).setCell ⟨e,1,none⟩ v1).setCell ⟨e,2,none⟩ v2).setCell ⟨e,3,none⟩ v3).setCell ⟨e,4,none⟩ v4).setCell ⟨e,5,none⟩ v5) :=
 onlySets hb [v0,v1,v2,v3,v4,v5] 0 w h
end
def SvInv (g q0 sb m c:Nat) (A:Option Addr) (w wr:World):Prop :=
 ∃ (q:Nat) (t k gg:Sl) (S:Svc) (lv:List LvR),q≤q0∧Dr w g q wr∧Blk wr w.heap.size 42 (svC sl0 sl0 sl0)∧Blk wr sb 42 (svC t k gg)∧OwS (g+1) wr.heap.size wr t k gg S∧idsOk S∧OwV w.heap.size wr A m c lv
set_option maxRecDepth 100000 in
set_option maxHeartbeats 8000000 in
theorem l92Service_any (g p:Nat) (w:World) (h:Rdr w g p) (hp:p≤900000) :
  Calls Tryz.prog 76 #[.pointer (some ⟨g,0,none⟩)] w (SvPost g p 30000 w):=by
 have hg:=h.lt
 have H:=Lib.hid h
 obtain ⟨i0,hi0,hz0,hz1,hz2⟩:=info_parts infoV
 have HI:=Lib.hid hi0
 have HZ:=Lib.hid hz0
 have HS:=Lib.hid hz1
 have HBY:=Lib.hid hz2
 have HG1:=Nat.lt_succ_self g
 clear h hi0 hz0 hz1 hz2
 have n0:w.heap.size≠g:=by omega
 go_enter Tryz.func76,Tryz.ntmps76
 go_wp2_with fail
 obtain ⟨W,hWE⟩:∃ W,((w.alloc (.cells (svC sl0 sl0 sl0) 42)).alloc (.cells #[.int .i64 11,.int .i64 22,.int .i64 33,.int .i64 44,.int .i64 55,.int .i64 66] 3))=W:=⟨_,rfl⟩
 have hWb:Below w.heap.size w W:=by rw [← hWE];exact ba (ba (Below.refl _ _))
 have HKZ:=Lib.hid (show RdI .i64 W (some ⟨w.heap.size+1,0,none⟩) 6 [11,22,33,44,55,66] by rw [← hWE];exact RdI.blk (zs:=[11,22,33,44,55,66]) (Blk.newAt _ _ _ _ (by simp)))
 have HD:=Lib.hid (Dr.next ⟨H.out,Only.refl _ _⟩ hWb)
 have KR:=Lib.hid (show Blk W w.heap.size 42 (svC sl0 sl0 sl0) by rw [← hWE];exact (Blk.new _ _ _).alloc _)
 have hWz:W.heap.size=w.heap.size+1+1:=by rw [← hWE];simp
 rw [hWE]
 have HWZ:=Lib.hid hWz
 have hwW:w.heap.size+1<W.heap.size:=by omega
 clear hWE hWb hWz
 refine (specServiceNew_any _ 6 6 [11,22,33,44,55,66] _ HKZ.out (by omega)).mono ?_
 obtain ⟨S0,ok0,hnew⟩:∃ a b,newS [11,22,33,44,55,66]=(a,b):=⟨_,_,rfl⟩
 have HID:=Lib.hid (show idsOk S0 by have:=idsOk_new [11,22,33,44,55,66];rwa [hnew] at this)
 rw [hnew]
 clear hnew
 rintro e w1 ⟨t,k,gg,rfl,ho,hb⟩
 have hs1:=hb.size
 have HO:=Lib.hid (ho.mono (lo':=g+1) (by omega) (Nat.le_refl _))
 replace HD:=Lib.hid (HD.out.next hb)
 replace KR:=Lib.hid (KR.out.next hb)
 clear hb ho HKZ
 go_upto_region 2 with (fail)
 refine into_world (fun Y=>Dr w g p Y∧Blk Y w.heap.size 42 (svC sl0 sl0 sl0)∧Blk Y w1.heap.size 42 (svC t k gg)∧OwS (g+1) Y.heap.size Y t k gg S0) ⟨HD.out.next (ba (Below.refl _ _)),KR.out.alloc _,Blk.new _ _ _,(HO.out.next (ba (Below.refl _ _))).mono (Nat.le_refl _) (by simp)⟩ ?_
 rintro W2 ⟨hD,hKR,hKS,ho⟩
 replace HD:=Lib.hid hD
 replace KR:=Lib.hid hKR
 have KS:=Lib.hid hKS
 replace HO:=Lib.hid ho
 clear hD hKR hKS ho
 have n1:w1.heap.size≠g:=by omega
 have nS:w.heap.size<w1.heap.size:=by omega
 have hW:Below W2.heap.size W2 (W2.alloc (.cells #[] 29)):=ba (Below.refl _ _)
 replace HO:=Lib.hid ((HO.out.next hW).mono (hi':=(W2.alloc (.cells #[] 29)).heap.size) (Nat.le_refl _) (by simp))
 replace HD:=Lib.hid (HD.out.next hW)
 replace KR:=Lib.hid (KR.out.next hW)
 replace KS:=Lib.hid (KS.out.next hW)
 clear hW
 go_wp2_with fail
 refine (pick_any g 3 _ _ HD.out.1 (by omega)).mono ?_
 rintro e w2 ⟨v1,rfl,a1,b1,hR,hO⟩
 have c1:=b1 (by omega)
 obtain ⟨n2,rfl⟩:∃ n:Nat,v1=n:=⟨v1.toNat,by omega⟩
 have hz2:=hO.size
 replace HD:=Lib.hid (HD.out.step hR hO)
 replace KR:=Lib.hid (KR.out.only hO n0)
 replace KS:=Lib.hid (KS.out.only hO n1)
 replace HO:=Lib.hid ((HO.out.only hO HG1).mono (Nat.le_refl _) hz2)
 clear b1 hR hO
 go_wp2_with fail
 obtain ⟨N,hN,hN3⟩:∃ N:Nat,1+(n2:Int)=N∧N≤3:=⟨1+n2,by push_cast;rfl,by omega⟩
 rw [hN]
 clear hN c1 a1
 go_loopg [6,8] N (fun gg lv i wr=>∃ (k m c:Nat) (A:Option Addr),k≤N∧N - k≤gg∧m≤k∧lv=.slice A m c∧i=.int .i64 k∧Hid (SvInv g (p+1+200 * k) w1.heap.size m c A w wr))
 case atStart=>exact ⟨0,0,0,_,Nat.zero_le _,by omega,Nat.le_refl _,rfl,rfl,p+1,t,k,gg,S0,[],by omega,HD.out,KR.out,KS.out,HO.out,HID.out,OwV.nil _ _ _⟩
 case round =>
  obtain ⟨j,m,c,A,hj,hgg,hmj,rfl,rfl,HH⟩:=hrel
  obtain ⟨q,t,k,gg,S,lv,hq,hD,hKR,hKS,ho,hid,hov⟩:=HH.out
  replace HD:=Lib.hid hD
  replace KR:=Lib.hid hKR
  replace KS:=Lib.hid hKS
  replace HO:=Lib.hid ho
  replace HID:=Lib.hid hid
  have HV:=Lib.hid hov
  clear HH hD hKR hKS ho hid hov
  by_cases hlt:j<N
  ·go_wp2_with fail
   refine (l91Level_any g _ _ HD.out.1 (by omega)).mono ?_
   rintro e w7 ⟨l,ws,gs,q2,rfl,hol,hq2,hD2⟩
   have hz7:=hD2.2.size
   have hz71:=KS.out.lt
   have hgr:=HD.out.2.size
   replace HD:=Lib.hid (HD.out.step hD2.1 hD2.2)
   replace KR:=Lib.hid (KR.out.only hD2.2 n0)
   replace KS:=Lib.hid (KS.out.only hD2.2 n1)
   replace HO:=Lib.hid ((HO.out.only hD2.2 HG1).mono (Nat.le_refl _) hz7)
   replace HV:=Lib.hid (HV.out.only hD2.2 hg)
   have HLV:=Lib.hid (hol.mono (B':=w.heap.size) (by omega))
   clear hol hD2
   go_upto_region 8 with (fail)
   refine into_world (fun Y=>Dr w g q2 Y∧Blk Y w.heap.size 42 (svC sl0 sl0 sl0)∧Blk Y w1.heap.size 42 (svC t k gg)∧OwS (g+1) Y.heap.size Y t k gg S∧OwV w.heap.size Y A m c lv∧OwLv w.heap.size Y l ws gs∧Blk Y w7.heap.size 29 (lvlC l ws gs)) ⟨HD.out.next (ba (Below.refl _ _)),KR.out.alloc _,KS.out.alloc _,(HO.out.next (ba (Below.refl _ _))).mono (Nat.le_refl _) (by simp),HV.out.next (ba (Below.refl _ _)),HLV.out.next (ba (Below.refl _ _)),Blk.new _ _ _⟩ ?_
   rintro Y ⟨hD,hKR,hKS,ho,hov,hol,hKL⟩
   replace HD:=Lib.hid hD
   replace KR:=Lib.hid hKR
   replace KS:=Lib.hid hKS
   replace HO:=Lib.hid ho
   replace HV:=Lib.hid hov
   replace HLV:=Lib.hid hol
   have KL:=Lib.hid hKL
   clear hD hKR hKS ho hov hol hKL
   have cs:=fun o=>KS.out.cell o
   have fs:=fun o=>KS.out.frozen o
   have zs:=KS.out.lt
   have cl:=fun o=>KL.out.cell o
   have fl:=fun o=>KL.out.frozen o
   have zl:=KL.out.lt
   go_wp2_with fail
   refine (specServiceLevel_any t k gg S l ws gs _ HO.out.rd HLV.out.rd).mono ?_
   obtain ⟨S2,ok,hlv⟩:∃ a b,levelS S l=(a,b):=⟨_,_,rfl⟩
   have HID2:=Lib.hid (show idsOk S2 by have:=idsOk_level HID.out l;rwa [hlv] at this)
   rw [hlv]
   clear hlv
   rintro e w8 ⟨t2,k2,g2,rfl,ho2,hb⟩
   have hz8:=hb.size
   have hgY:=HD.out.1.lt
   have HO2:=Lib.hid (ho2.mono (lo':=g+1) (by omega) (Nat.le_refl _))
   replace HO:=Lib.hid ((HO.out.next hb).mono (Nat.le_refl _) hz8)
   replace HD:=Lib.hid (HD.out.next hb)
   replace KR:=Lib.hid (KR.out.next hb)
   replace KS:=Lib.hid (KS.out.next hb)
   replace HV:=Lib.hid (HV.out.next hb)
   replace HLV:=Lib.hid (HLV.out.next hb)
   replace KL:=Lib.hid (KL.out.next hb)
   clear hb ho2 cs fs zs cl fl zl
   go_upto_region 9 with (fail)
   refine into_world (fun Y=>Dr w g q2 Y∧Blk Y w.heap.size 42 (svC sl0 sl0 sl0)∧Blk Y w1.heap.size 42 (svC t k gg)∧OwS (g+1) Y.heap.size Y t k gg S∧OwV w.heap.size Y A m c lv∧OwLv w.heap.size Y l ws gs∧Blk Y w7.heap.size 29 (lvlC l ws gs)∧OwS (g+1) Y.heap.size Y t2 k2 g2 S2∧Blk Y w8.heap.size 42 (svC t2 k2 g2)) ⟨HD.out.next (ba (Below.refl _ _)),KR.out.alloc _,KS.out.alloc _,(HO.out.next (ba (Below.refl _ _))).mono (Nat.le_refl _) (by simp),HV.out.next (ba (Below.refl _ _)),HLV.out.next (ba (Below.refl _ _)),KL.out.alloc _,(HO2.out.next (ba (Below.refl _ _))).mono (Nat.le_refl _) (by simp),Blk.new _ _ _⟩ ?_
   rintro Y2 ⟨hD,hKR,hKS,ho,hov,hol,hKL,ho2,hKT⟩
   replace HD:=Lib.hid hD
   replace KR:=Lib.hid hKR
   replace KS:=Lib.hid hKS
   replace HO:=Lib.hid ho
   replace HV:=Lib.hid hov
   replace HLV:=Lib.hid hol
   replace KL:=Lib.hid hKL
   replace HO2:=Lib.hid ho2
   have KT:=Lib.hid hKT
   clear hD hKR hKS ho hov hol hKL ho2 hKT
   cases ok
   ·go_wp2_with fail
    go_roundg (N - (j+1))
    case measure=>omega
    case rel=>exact ⟨j+1,m,c,A,by omega,by omega,by omega,rfl,by go_num,q2,t,k,gg,S,lv,by omega,HD.out,KR.out,KS.out,HO.out,HID.out,HV.out⟩
   ·have cs:=fun o=>KS.out.cell o
    have fs:=fun o=>KS.out.frozen o
    have zs:=KS.out.lt
    have ct:=fun o=>KT.out.cell o
    have ft:=fun o=>KT.out.frozen o
    have zt:=KT.out.lt
    go_upto_region 11 with (fail)
    refine into_world (fun Y=>Dr w g q2 Y∧Blk Y w.heap.size 42 (svC sl0 sl0 sl0)∧Blk Y w1.heap.size 42 (svC t2 k2 g2)∧OwS (g+1) Y.heap.size Y t2 k2 g2 S2∧OwV w.heap.size Y A m c lv∧OwLv w.heap.size Y l ws gs∧Blk Y w7.heap.size 29 (lvlC l ws gs)) ⟨(((HD.out.set (by show w.heap.size≤w1.heap.size;omega) hg _).set (by show w.heap.size≤w1.heap.size;omega) hg _).set (by show w.heap.size≤w1.heap.size;omega) hg _),(((KR.out.far (p:=⟨w1.heap.size,0,none⟩) (by show w.heap.size≠w1.heap.size;omega) _).far (p:=⟨w1.heap.size,1,none⟩) (by show w.heap.size≠w1.heap.size;omega) _).far (p:=⟨w1.heap.size,2,none⟩) (by show w.heap.size≠w1.heap.size;omega) _),((KS.out.set_ 0 _).set_ 1 _).set_ 2 _,(HO2.out.onlyT KS.out (by decide) (by decide) (by decide) (by decide) (Only.set_ (p:=⟨w1.heap.size,2,none⟩) (Only.set_ (p:=⟨w1.heap.size,1,none⟩) (Only.set_ (p:=⟨w1.heap.size,0,none⟩) (Only.refl _ _) (.inl rfl) _) (.inl rfl) _) (.inl rfl) _)).mono (Nat.le_refl _) (by simp),HV.out.onlyT KS.out (by decide) (by decide) (Only.set_ (p:=⟨w1.heap.size,2,none⟩) (Only.set_ (p:=⟨w1.heap.size,1,none⟩) (Only.set_ (p:=⟨w1.heap.size,0,none⟩) (Only.refl _ _) (.inl rfl) _) (.inl rfl) _) (.inl rfl) _),HLV.out.onlyT KS.out (by decide) (Only.set_ (p:=⟨w1.heap.size,2,none⟩) (Only.set_ (p:=⟨w1.heap.size,1,none⟩) (Only.set_ (p:=⟨w1.heap.size,0,none⟩) (Only.refl _ _) (.inl rfl) _) (.inl rfl) _) (.inl rfl) _),(((KL.out.far (p:=⟨w1.heap.size,0,none⟩) (by show w7.heap.size≠w1.heap.size;omega) _).far (p:=⟨w1.heap.size,1,none⟩) (by show w7.heap.size≠w1.heap.size;omega) _).far (p:=⟨w1.heap.size,2,none⟩) (by show w7.heap.size≠w1.heap.size;omega) _)⟩ ?_
    rintro Y3 ⟨hD,hKR,hKS,ho,hov,hol,hKL⟩
    replace HD:=Lib.hid hD
    replace KR:=Lib.hid hKR
    replace KS:=Lib.hid hKS
    replace HO:=Lib.hid ho
    replace HV:=Lib.hid hov
    replace HLV:=Lib.hid hol
    replace KL:=Lib.hid hKL
    clear hD hKR hKS ho hov hol hKL cs fs zs ct ft zt HO2 KT
    have hzY:=HD.out.2.size
    have cl:=fun o=>KL.out.cell o
    have fl:=fun o=>KL.out.frozen o
    have zl:=KL.out.lt
    go_wp2_with (at_builtin;refine wpList_append_ow _ rfl (.tmp 44) (.tmp 46) _ rfl w.heap.size 29 i0 _ 11 120 Tryz.underlying204 HI.out HZ.out HS.out HBY.out rfl (by omega) _ m c (cellsV lv) rfl (HV.out.1.alloc _) _ 1 1 (cellsV [(l,ws,gs)]) rfl (Src.blk (Blk.new _ _ _) rfl) (cellsX_oneCell encV_one _) (by unfold maxLen;omega) (by omega) (by simp;omega) ?_;intro A5 c5 w5 hown hg5 hn5)
    have hW:Below Y3.heap.size Y3 (Y3.alloc (.cells (lvlC l ws gs) 29)):=ba (Below.refl _ _)
    have hz9:=hg5.size
    simp only [World.size_alloc] at hz9
    go_roundg (N - (j+1))
    case measure=>omega
    case rel=>exact ⟨j+1,m+1,c5,A5,by omega,by omega,by omega,rfl,by go_num,q2,t2,k2,g2,S2,lv ++ [(l,ws,gs)],by omega,(HD.out.next hW).grown hg hg5 (fun b hb=>row_base HV.out.1 b hb),blk_apart (KR.out.next hW) (HV.out.1.next hW) (by decide) hg5,blk_apart (KS.out.next hW) (HV.out.1.next hW) (by decide) hg5,(OwS.apart (HO.out.next hW) (HV.out.1.next hW) (by decide) (by decide) (by decide) (by decide) hg5).mono (Nat.le_refl _) (by omega),HID2.out,OwV.push (HV.out.next hW) (HLV.out.next hW) hown hg5⟩
  ·go_wp2_with fail
   refine (pick_any g 8 _ _ HD.out.1 (by omega)).mono ?_
   rintro e w3 ⟨v8,rfl,a8,b8,hR,hO⟩
   have c8:=b8 (by omega)
   obtain ⟨n8,rfl⟩:∃ n:Nat,v8=n:=⟨v8.toNat,by omega⟩
   have hz3:=hO.size
   replace HD:=Lib.hid (HD.out.step hR hO)
   replace KR:=Lib.hid (KR.out.only hO n0)
   replace KS:=Lib.hid (KS.out.only hO n1)
   replace HO:=Lib.hid ((HO.out.only hO HG1).mono (Nat.le_refl _) hz3)
   replace HV:=Lib.hid (HV.out.only hO hg)
   clear b8 hR hO
   go_upto_if 52 with (fail)
   go_cut [7] (fun s wx=>∃ N2:Nat,N2≤8∧s=.int .i64 N2∧Hid (SvInv g (q+1) w1.heap.size m c A w wx))
   case first =>
    rcases Nat.eq_zero_or_pos m with hm|hm
    ·have hm':decide (m=0)=true:=by simpa using hm
     go_wp2_with fail
     go_meet
     exact ⟨0,by omega,rfl,q+1,t,k,gg,S,lv,Nat.le_refl _,HD.out,KR.out,KS.out,HO.out,HID.out,HV.out⟩
    ·have hm':decide (m=0)=false:=by simp;omega
     go_wp2_with fail
     go_meet
     exact ⟨n8,by omega,rfl,q+1,t,k,gg,S,lv,Nat.le_refl _,HD.out,KR.out,KS.out,HO.out,HID.out,HV.out⟩
   case rest =>
    obtain ⟨N2,hN2,rfl,HH⟩:=hcut
    clear HD KR KS HO HID HV
    go_wp2_with fail
    go_loopg [12,13] (N2+1) (fun gg tx i wr=>∃ (j:Nat) (s:ByteArray),j≤N2+1∧N2+1 - j≤gg∧tx=.string s∧s.size≤2000∧i=.int .i64 j∧Hid (SvInv g (q+1+2900 * j) w1.heap.size m c A w wr))
    case atStart=>exact ⟨0,⟨#[]⟩,Nat.zero_le _,by omega,rfl,Nat.zero_le _,rfl,HH.out⟩
    case round =>
     obtain ⟨i,tx,hi,hg2,rfl,htx,rfl,HJ⟩:=hrel
     obtain ⟨q3,t,k,gg,S,lv,hq3,hD,hKR,hKS,ho,hid,hov⟩:=HJ.out
     have HD:=Lib.hid hD
     have KR:=Lib.hid hKR
     have KS:=Lib.hid hKS
     have HO:=Lib.hid ho
     have HID:=Lib.hid hid
     have HV:=Lib.hid hov
     clear HJ hD hKR hKS ho hid hov
     by_cases hle:i≤N2
     rotate_left
     ·have cs:=fun o=>KS.out.cell o
      have fs:=fun o=>KS.out.frozen o
      have zs:=KS.out.lt
      have cr:=fun o=>KR.out.cell o
      have fr:=fun o=>KR.out.frozen o
      have zr:=KR.out.lt
      go_wp2_with fail
      refine bodyPost_ret (v:=.tuple #[svV t k gg,.string tx]) (by simp [results,Tryz.results76,go_sem,cr]) rfl ?_
      exact ⟨t,k,gg,S,tx,q3,rfl,(HO.out.onlyT KR.out (by decide) (by decide) (by decide) (by decide) (Only.set_ (p:=⟨w.heap.size,2,none⟩) (Only.set_ (p:=⟨w.heap.size,1,none⟩) (Only.set_ (p:=⟨w.heap.size,0,none⟩) (Only.refl _ _) (.inl rfl) _) (.inl rfl) _) (.inl rfl) _)).mono (Nat.le_refl _) (by simp),HID.out,htx,by omega,(((HD.out.set (Nat.le_refl _) hg _).set (Nat.le_refl _) hg _).set (Nat.le_refl _) hg _)⟩
     rcases Nat.eq_zero_or_pos m with hm|hm
     ·have cs:=fun o=>KS.out.cell o
      have fs:=fun o=>KS.out.frozen o
      have zs:=KS.out.lt
      have cr:=fun o=>KR.out.cell o
      have fr:=fun o=>KR.out.frozen o
      have zr:=KR.out.lt
      go_wp2_with fail
      refine bodyPost_ret (v:=.tuple #[svV t k gg,.string tx]) (by simp [results,Tryz.results76,go_sem,cr]) rfl ?_
      exact ⟨t,k,gg,S,tx,q3,rfl,(HO.out.onlyT KR.out (by decide) (by decide) (by decide) (by decide) (Only.set_ (p:=⟨w.heap.size,2,none⟩) (Only.set_ (p:=⟨w.heap.size,1,none⟩) (Only.set_ (p:=⟨w.heap.size,0,none⟩) (Only.refl _ _) (.inl rfl) _) (.inl rfl) _) (.inl rfl) _)).mono (Nat.le_refl _) (by simp),HID.out,htx,by omega,(((HD.out.set (Nat.le_refl _) hg _).set (Nat.le_refl _) hg _).set (Nat.le_refl _) hg _)⟩
     go_wp2_with fail
     refine (pick_any g m _ _ HD.out.1 (by omega)).mono ?_
     rintro e w4 ⟨v9,rfl,a9,b9,hR,hO⟩
     have c9:=b9 (by omega)
     obtain ⟨vn,rfl⟩:∃ n:Nat,v9=n:=⟨v9.toNat,by omega⟩
     have hvm:vn<m:=by omega
     have hz4:=hO.size
     replace HD:=Lib.hid (HD.out.step hR hO)
     replace KR:=Lib.hid (KR.out.only hO n0)
     replace KS:=Lib.hid (KS.out.only hO n1)
     replace HO:=Lib.hid ((HO.out.only hO HG1).mono (Nat.le_refl _) hz4)
     replace HV:=Lib.hid (HV.out.only hO hg)
     clear b9 hR hO
     obtain ⟨b,⟨l,ws,gs⟩,hA,hbb,hol,hra⟩:=HV.out.at_ hvm
     subst hA
     have HLV:=Lib.hid hol
     have HRA:=Lib.hid hra
     clear hol hra HH
     go_upto_region 20 with (refine wpList_load_mid rfl 29 (.tmp 68) rfl b (vn * 11) rfl (lvlC l ws gs).toList _ HRA.out Tryz.underlying29 rfl (by kernel_rfl) ?_)
     refine into_world (fun Y=>Dr w g (q3+1) Y∧Blk Y w.heap.size 42 (svC sl0 sl0 sl0)∧Blk Y w1.heap.size 42 (svC t k gg)∧OwS (g+1) Y.heap.size Y t k gg S∧OwV w.heap.size Y (some ⟨b,0,none⟩) m c lv∧OwLv w.heap.size Y l ws gs∧Blk Y w4.heap.size 29 (lvlC l ws gs)) ⟨HD.out.next (ba (Below.refl _ _)),KR.out.alloc _,KS.out.alloc _,(HO.out.next (ba (Below.refl _ _))).mono (Nat.le_refl _) (by simp),HV.out.next (ba (Below.refl _ _)),HLV.out.next (ba (Below.refl _ _)),Blk.new _ _ _⟩ ?_
     have h4g:w4.heap.size≠g:=by have:=HD.out.1.lt;omega
     have h4w:w1.heap.size<w4.heap.size:=KS.out.lt
     clear HRA hbb
     rintro Y ⟨hD,hKR,hKS,ho,hov,hol,hKL⟩
     replace HD:=Lib.hid hD
     replace KR:=Lib.hid hKR
     replace KS:=Lib.hid hKS
     replace HO:=Lib.hid ho
     replace HV:=Lib.hid hov
     replace HLV:=Lib.hid hol
     have KL:=Lib.hid hKL
     clear hD hKR hKS ho hov hol hKL
     go_wp2_with fail
     refine (pick_any g 6 _ _ HD.out.1 (by omega)).mono ?_
     rintro e w5 ⟨vp,rfl,ap,bp,hR,hO⟩
     have cp:=bp (by omega)
     have hz5:=hO.size
     replace HD:=Lib.hid (HD.out.step hR hO)
     replace KR:=Lib.hid (KR.out.only hO n0)
     replace KS:=Lib.hid (KS.out.only hO n1)
     replace HO:=Lib.hid ((HO.out.only hO HG1).mono (Nat.le_refl _) hz5)
     replace HV:=Lib.hid (HV.out.only hO hg)
     replace HLV:=Lib.hid (HLV.out.only hO hg)
     replace KL:=Lib.hid (KL.out.only hO h4g)
     clear bp hR hO
     go_upto_region 21 with (fail)
     have h5w:w.heap.size≤w5.heap.size:=HD.out.2.size
     refine wp_region_grow 14 (by kernel_rfl) (by kernel_rfl) (by kernel_rfl) (fun a b=>TchR g a b) (fun mq w'=>∃ q,q≤q3+1+1+201 * mq∧Dr w g q w'∧Only g w5 w') (fun iq v w'=>match iq with|0=>(v=lvlV l ws gs)|1=>(v=.int .i64 vp)|2=>(v=.int .i64 vp)|3=>(∃ z:Int,v=.int .i64 z)|4=>(∃ z:Int,v=.int .i64 z)|5=>(v=.pointer (some ⟨g,0,none⟩))|6=>(v=lvlV l ws gs)|7=>(∃ (A1:Option Addr) (n1 c1:Nat) (xs1:List Inp),v=.slice A1 n1 c1∧Ow 0 w' 158 3 A1 n1 c1 (cellsN xs1)∧n1≤60)|8=>(∃ (r:Rep) (si sh:Sl) (ok:Bool),v=.tuple #[repV r si sh,.bool ok]∧OwRep w' r si sh)|9=>(∃ (r:Rep) (si sh:Sl) (ok:Bool),v=.tuple #[repV r si sh,.bool ok]∧OwRep w' r si sh)|10=>(∃ (r:Rep) (si sh:Sl),v=repV r si sh∧OwRep w' r si sh)|11=>(∃ ok:Bool,v=.bool ok)|12=>(∃ e:Nat,v=.pointer (some ⟨e,0,none⟩)∧w5.heap.size≤e∧∃ r si sh,Blk w' e 35 (repC r si sh)∧OwRep w' r si sh)|13=>(True)|_=>True) (fun sq=>{ tmps:=#[Value.pointer (some (⟨g,0,none⟩:Addr)),undef,Value.pointer (some (⟨w.heap.size,0,none⟩:Addr)),Value.string { data:=#[] },Value.pointer (some (⟨w1.heap.size,0,none⟩:Addr)),Value.bool ok0,Value.slice (some (⟨b,0,none⟩:Addr)) m c,Value.int .i64 (N2:Int),Value.int .i64 (j:Int),u9,u10,u11,Value.string tx,Value.int .i64 (i:Int),Value.pointer (some (⟨w4.heap.size,0,none⟩:Addr)),Value.int .i64 vp,sq 12,u17,u18,u19,u20,u21,u22,u23,u24,u25,u26,u27,u28,u29,u30,u31,u32,u33,u34,u35,u36,u37,u38,u39,u40,u41,u42,u43,u44,u45,u46,u47,u48,u49,u50,u51,u52,Value.int .i64 (i:Int),Value.int .i64 (N2:Int),Value.bool true,Value.bool true,Value.slice (some (⟨b,0,none⟩:Addr)) m c,Value.int .i64 (m:Int),Value.bool true,Value.bool true,u61,u62,Value.slice (some (⟨b,0,none⟩:Addr)) m c,Value.pointer (some (⟨g,0,none⟩:Addr)),Value.slice (some (⟨b,0,none⟩:Addr)) m c,Value.int .i64 (m:Int),Value.int .i64 (vn:Int),Value.pointer (some (⟨b,vn * 11,none⟩:Addr)),lvlV l ws gs,Value.pointer (some (⟨g,0,none⟩:Addr)),Value.int .i64 vp,sq 9,sq 0,sq 1,sq 2,sq 3,sq 4,sq 5,sq 6,sq 7,sq 8,sq 10,sq 11,u84,u85,u86,u87,u88,u89,u90,u91,u92,u93,u94,u95,u96,u97,u98,u99],defers:=[] }) (fun j=>match j with|0=>u73|1=>u74|2=>u75|3=>u76|4=>u77|5=>u78|6=>u79|7=>u80|8=>u81|9=>u72|10=>u82|11=>u83|12=>u16|_=>undef) ?_ ?_ ?_ ?_
     ·rintro iq v a b hg h
      match iq,h with
      | 0,h=>exact h
      | 1,h=>exact h
      | 2,h=>exact h
      | 3,h=>exact h
      | 4,h=>exact h
      | 5,h=>exact h
      | 6,h=>exact h
      | 7,h=>exact (by obtain ⟨A1,n1,c1,xs1,rfl,h1,h2⟩:=h;exact ⟨A1,n1,c1,xs1,rfl,hg.row h1 (by decide) (by decide),h2⟩)
      | 8,h=>exact (by obtain ⟨r,si,sh,ok,rfl,h1⟩:=h;exact ⟨r,si,sh,ok,rfl,hg.rep h1⟩)
      | 9,h=>exact (by obtain ⟨r,si,sh,ok,rfl,h1⟩:=h;exact ⟨r,si,sh,ok,rfl,hg.rep h1⟩)
      | 10,h=>exact (by obtain ⟨r,si,sh,rfl,h1⟩:=h;exact ⟨r,si,sh,rfl,hg.rep h1⟩)
      | 11,h=>exact h
      | 12,h=>exact (by obtain ⟨e,rfl,h1,h2⟩:=h;exact ⟨e,rfl,h1,hg.blk h2⟩)
      | 13,h=>exact h
      | (kq+14),_=>exact trivial
     ·exact ⟨_,by omega,HD.out.next ⟨rfl,rfl,rfl,Nat.le_refl _,fun _ _=>rfl⟩,(show Only g w5 w5.drew from ⟨rfl,rfl,rfl,Nat.le_refl _,fun _ _ _=>rfl⟩)⟩
     ·intro mq sq w' iq oq hmq hiq hoq hJ hd Kq hK
      have hiq':iq=0∨iq=1∨iq=2∨iq=3∨iq=4∨iq=5∨iq=6∨iq=7∨iq=8∨iq=9∨iq=10∨iq=11∨iq=12∨iq=13:=by omega
      rcases hiq' with rfl|rfl|rfl|rfl|rfl|rfl|rfl|rfl|rfl|rfl|rfl|rfl|rfl|rfl
      ·cases (show some _=some oq from hoq)
       have hK':=hK
       simp only [updV,Nat.reduceEqDiff,↓reduceIte] at hK'
       clear hK hd
       generalize sq 0=x0,sq 1=x1,sq 2=x2,sq 3=x3,sq 4=x4,sq 5=x5,sq 6=x6,sq 7=x7,sq 8=x8,sq 9=x9,sq 10=x10,sq 11=x11,sq 12=x12,sq 13=x13 at *
       have hcc:=fun o=>(KL.out.only (by obtain ⟨q,hq,hD,hO⟩:=hJ;exact hO) h4g).cell o
       go_simp
       exact hK' _ _ (.inl (Below.refl _ _)) (by obtain ⟨q,hq,hD,hO⟩:=hJ;exact ⟨q,by omega,hD,hO⟩) rfl
      ·cases (show some _=some oq from hoq)
       have hK':=hK
       simp only [updV,Nat.reduceEqDiff,↓reduceIte] at hK'
       clear hK hd
       generalize sq 0=x0,sq 1=x1,sq 2=x2,sq 3=x3,sq 4=x4,sq 5=x5,sq 6=x6,sq 7=x7,sq 8=x8,sq 9=x9,sq 10=x10,sq 11=x11,sq 12=x12,sq 13=x13 at *
       go_simp
       exact hK' _ _ (.inl (Below.refl _ _)) (by obtain ⟨q,hq,hD,hO⟩:=hJ;exact ⟨q,by omega,hD,hO⟩) rfl
      ·cases (show some _=some oq from hoq)
       have hK':=hK
       simp only [updV,Nat.reduceEqDiff,↓reduceIte] at hK'
       clear hK hd
       generalize sq 0=x0,sq 1=x1,sq 2=x2,sq 3=x3,sq 4=x4,sq 5=x5,sq 6=x6,sq 7=x7,sq 8=x8,sq 9=x9,sq 10=x10,sq 11=x11,sq 12=x12,sq 13=x13 at *
       go_simp
       exact hK' _ _ (.inl (Below.refl _ _)) (by obtain ⟨q,hq,hD,hO⟩:=hJ;exact ⟨q,by omega,hD,hO⟩) rfl
      ·cases (show some _=some oq from hoq)
       have d2:=hd 2 (by kernel_rfl) (by decide)
       have hK':=hK
       simp only [updV,Nat.reduceEqDiff,↓reduceIte] at hK'
       clear hK hd
       generalize sq 0=x0,sq 1=x1,sq 2=x2,sq 3=x3,sq 4=x4,sq 5=x5,sq 6=x6,sq 7=x7,sq 8=x8,sq 9=x9,sq 10=x10,sq 11=x11,sq 12=x12,sq 13=x13 at *
       obtain rfl:=d2
       go_simp
       exact hK' _ _ (.inl (Below.refl _ _)) (by obtain ⟨q,hq,hD,hO⟩:=hJ;exact ⟨q,by omega,hD,hO⟩) ⟨_,rfl⟩
      ·cases (show some _=some oq from hoq)
       have d3:=hd 3 (by kernel_rfl) (by decide)
       have hK':=hK
       simp only [updV,Nat.reduceEqDiff,↓reduceIte] at hK'
       clear hK hd
       generalize sq 0=x0,sq 1=x1,sq 2=x2,sq 3=x3,sq 4=x4,sq 5=x5,sq 6=x6,sq 7=x7,sq 8=x8,sq 9=x9,sq 10=x10,sq 11=x11,sq 12=x12,sq 13=x13 at *
       obtain ⟨z3,rfl⟩:=d3
       go_simp
       exact hK' _ _ (.inl (Below.refl _ _)) (by obtain ⟨q,hq,hD,hO⟩:=hJ;exact ⟨q,by omega,hD,hO⟩) ⟨_,rfl⟩
      ·cases (show some _=some oq from hoq)
       have hK':=hK
       simp only [updV,Nat.reduceEqDiff,↓reduceIte] at hK'
       clear hK hd
       generalize sq 0=x0,sq 1=x1,sq 2=x2,sq 3=x3,sq 4=x4,sq 5=x5,sq 6=x6,sq 7=x7,sq 8=x8,sq 9=x9,sq 10=x10,sq 11=x11,sq 12=x12,sq 13=x13 at *
       go_simp
       exact hK' _ _ (.inl (Below.refl _ _)) (by obtain ⟨q,hq,hD,hO⟩:=hJ;exact ⟨q,by omega,hD,hO⟩) rfl
      ·cases (show some _=some oq from hoq)
       have hK':=hK
       simp only [updV,Nat.reduceEqDiff,↓reduceIte] at hK'
       clear hK hd
       generalize sq 0=x0,sq 1=x1,sq 2=x2,sq 3=x3,sq 4=x4,sq 5=x5,sq 6=x6,sq 7=x7,sq 8=x8,sq 9=x9,sq 10=x10,sq 11=x11,sq 12=x12,sq 13=x13 at *
       have hcc:=fun o=>(KL.out.only (by obtain ⟨q,hq,hD,hO⟩:=hJ;exact hO) h4g).cell o
       go_simp
       exact hK' _ _ (.inl (Below.refl _ _)) (by obtain ⟨q,hq,hD,hO⟩:=hJ;exact ⟨q,by omega,hD,hO⟩) rfl
      ·cases (show some _=some oq from hoq)
       have d5:=hd 5 (by kernel_rfl) (by decide)
       have d6:=hd 6 (by kernel_rfl) (by decide)
       have hK':=hK
       simp only [updV,Nat.reduceEqDiff,↓reduceIte] at hK'
       clear hK hd
       generalize sq 0=x0,sq 1=x1,sq 2=x2,sq 3=x3,sq 4=x4,sq 5=x5,sq 6=x6,sq 7=x7,sq 8=x8,sq 9=x9,sq 10=x10,sq 11=x11,sq 12=x12,sq 13=x13 at *
       obtain rfl:=d5
       obtain rfl:=d6
       obtain ⟨q,hq,hD,hO⟩:=hJ
       go_simp
       refine (l92Run_any g q w.heap.size l ws gs _ hD.1 (by omega) (HLV.out.only hO hg) hg).mono ?_
       rintro e9 w9 ⟨A1,n1,c1,xs1,q9,rfl,how,_,hn60,hq9,hD9⟩
       obtain ⟨_,_,_,_,hrb,_⟩:=hD.1
       exact hK' _ _ (.inr (.inl ⟨_,hrb,hD9.2⟩)) ⟨q9,by omega,hD.step hD9.1 hD9.2,hO.trans hD9.2⟩ ⟨A1,n1,c1,xs1,rfl,how.mono (Nat.zero_le _),hn60⟩
      ·cases (show some _=some oq from hoq)
       have d0:=hd 0 (by kernel_rfl) (by decide)
       have d1:=hd 1 (by kernel_rfl) (by decide)
       have d4:=hd 4 (by kernel_rfl) (by decide)
       have d7:=hd 7 (by kernel_rfl) (by decide)
       have hK':=hK
       simp only [updV,Nat.reduceEqDiff,↓reduceIte] at hK'
       clear hK hd
       generalize sq 0=x0,sq 1=x1,sq 2=x2,sq 3=x3,sq 4=x4,sq 5=x5,sq 6=x6,sq 7=x7,sq 8=x8,sq 9=x9,sq 10=x10,sq 11=x11,sq 12=x12,sq 13=x13 at *
       obtain rfl:=d0
       obtain rfl:=d1
       obtain ⟨z4,rfl⟩:=d4
       obtain ⟨A1,n1,c1,xs1,rfl,ho7,hn60⟩:=d7
       obtain ⟨q,hq,hD,hO⟩:=hJ
       go_simp
       refine (specReplayMake_any l ws gs vp z4 A1 n1 c1 xs1 _ (HLV.out.only hO hg).rd (Ow.rd encIn_len (by decide) ho7) (by omega) ho7.le).mono ?_
       rintro e9 w9 ⟨si,sh,rfl,hor,hb9⟩
       exact hK' _ _ (.inl hb9) ⟨q,by omega,hD.next hb9,hO.next hb9⟩ ⟨_,si,sh,_,rfl,hor⟩
      ·cases (show some _=some oq from hoq)
       have d8:=hd 8 (by kernel_rfl) (by decide)
       have hK':=hK
       simp only [updV,Nat.reduceEqDiff,↓reduceIte] at hK'
       clear hK hd
       generalize sq 0=x0,sq 1=x1,sq 2=x2,sq 3=x3,sq 4=x4,sq 5=x5,sq 6=x6,sq 7=x7,sq 8=x8,sq 9=x9,sq 10=x10,sq 11=x11,sq 12=x12,sq 13=x13 at *
       obtain ⟨r,si,sh,ok,rfl,ho8⟩:=d8
       go_simp
       exact hK' _ _ (.inl (Below.refl _ _)) (by obtain ⟨q,hq,hD,hO⟩:=hJ;exact ⟨q,by omega,hD,hO⟩) ⟨r,si,sh,ok,rfl,ho8⟩
      ·cases (show some _=some oq from hoq)
       have d9:=hd 9 (by kernel_rfl) (by decide)
       have hK':=hK
       simp only [updV,Nat.reduceEqDiff,↓reduceIte] at hK'
       clear hK hd
       generalize sq 0=x0,sq 1=x1,sq 2=x2,sq 3=x3,sq 4=x4,sq 5=x5,sq 6=x6,sq 7=x7,sq 8=x8,sq 9=x9,sq 10=x10,sq 11=x11,sq 12=x12,sq 13=x13 at *
       obtain ⟨r,si,sh,ok,rfl,ho8⟩:=d9
       go_simp
       exact hK' _ _ (.inl (Below.refl _ _)) (by obtain ⟨q,hq,hD,hO⟩:=hJ;exact ⟨q,by omega,hD,hO⟩) ⟨r,si,sh,rfl,ho8⟩
      ·cases (show some _=some oq from hoq)
       have d9:=hd 9 (by kernel_rfl) (by decide)
       have hK':=hK
       simp only [updV,Nat.reduceEqDiff,↓reduceIte] at hK'
       clear hK hd
       generalize sq 0=x0,sq 1=x1,sq 2=x2,sq 3=x3,sq 4=x4,sq 5=x5,sq 6=x6,sq 7=x7,sq 8=x8,sq 9=x9,sq 10=x10,sq 11=x11,sq 12=x12,sq 13=x13 at *
       obtain ⟨r,si,sh,ok,rfl,ho8⟩:=d9
       go_simp
       exact hK' _ _ (.inl (Below.refl _ _)) (by obtain ⟨q,hq,hD,hO⟩:=hJ;exact ⟨q,by omega,hD,hO⟩) ⟨_,rfl⟩
      ·cases (show some _=some oq from hoq)
       have hK':=hK
       simp only [updV,Nat.reduceEqDiff,↓reduceIte] at hK'
       clear hK hd
       generalize sq 0=x0,sq 1=x1,sq 2=x2,sq 3=x3,sq 4=x4,sq 5=x5,sq 6=x6,sq 7=x7,sq 8=x8,sq 9=x9,sq 10=x10,sq 11=x11,sq 12=x12,sq 13=x13 at *
       obtain ⟨q,hq,hD,hO⟩:=hJ
       go_simp
       exact hK' _ _ (.inl (ba (Below.refl _ _))) ⟨q,by omega,hD.next (ba (Below.refl _ _)),hO.next (ba (Below.refl _ _))⟩ ⟨_,rfl,hO.size,rep0,sl0,sl0,Blk.new _ _ _,rdR_zero _⟩
      ·cases (show some _=some oq from hoq)
       have d10:=hd 10 (by kernel_rfl) (by decide)
       have d12:=hd 12 (by kernel_rfl) (by decide)
       have hK':=hK
       simp only [updV,Nat.reduceEqDiff,↓reduceIte] at hK'
       clear hK hd
       generalize sq 0=x0,sq 1=x1,sq 2=x2,sq 3=x3,sq 4=x4,sq 5=x5,sq 6=x6,sq 7=x7,sq 8=x8,sq 9=x9,sq 10=x10,sq 11=x11,sq 12=x12,sq 13=x13 at *
       obtain ⟨r,si,sh,rfl,ho10⟩:=d10
       obtain ⟨e,rfl,he,r',si',sh',hbk,ho12⟩:=d12
       obtain ⟨q,hq,hD,hO⟩:=hJ
       have cx:=fun o=>hbk.cell o
       have fx:=fun o=>hbk.frozen o
       have zx:=hbk.lt
       go_simp
       have ho6:=only6 (q:=e) (.inl rfl) (Only.refl e w') (.int .i64 r.lv) (.int .i64 r.pl) (.int .i64 r.sc) (.slice si.a si.n si.c) (.slice sh.a sh.n sh.c) (.int .i64 r.tag)
       exact hK' undef _ (.inr (.inr ⟨e,r,si,sh,_,hbk,ho6,hbk.all6 _ _ _ _ _ _,ho10.onlyT hbk (by decide) (by decide) ho6⟩)) ⟨q,by omega,hD.six (by omega) hg _ _ _ _ _ _,only6 (.inr he) hO _ _ _ _ _ _⟩ trivial
     ·intro sq w' hJ hφ
      simp only [List.drop_succ_cons,List.drop_zero]
      have d11:=hφ 11 (by decide)
      have d12:=hφ 12 (by decide)
      clear hφ
      generalize sq 0=x0,sq 1=x1,sq 2=x2,sq 3=x3,sq 4=x4,sq 5=x5,sq 6=x6,sq 7=x7,sq 8=x8,sq 9=x9,sq 10=x10,sq 11=x11,sq 12=x12,sq 13=x13 at *
      obtain ⟨ok9,rfl⟩:=d11
      obtain ⟨e9,rfl,he9,r9,si9,sh9,hbk,ho9⟩:=d12
      obtain ⟨q5,hq5,hD,hO⟩:=hJ
      have KX:=Lib.hid hbk
      have HRP:=Lib.hid ho9
      replace HD:=Lib.hid hD
      replace KR:=Lib.hid (KR.out.only hO n0)
      replace KS:=Lib.hid (KS.out.only hO n1)
      replace HO:=Lib.hid ((HO.out.only hO HG1).mono (Nat.le_refl _) hO.size)
      replace HV:=Lib.hid (HV.out.only hO hg)
      clear hbk ho9 hD hO HLV KL
      have cx:=fun o=>KX.out.cell o
      have fx:=fun o=>KX.out.frozen o
      have zx:=KX.out.lt
      go_wp2_with fail
      refine (specReplayEncode_any r9 si9 sh9 _ HRP.out.rd).mono ?_
      obtain ⟨tx2,htx2⟩:∃ s,textW r9=s:=⟨_,rfl⟩
      have hz2:tx2.size≤2000:=by rw [← htx2];exact textW_small r9
      rw [htx2]
      clear htx2
      rintro e w6 ⟨rfl,hb⟩
      replace HO:=Lib.hid ((HO.out.next hb).mono (Nat.le_refl _) hb.size)
      replace HD:=Lib.hid (HD.out.next hb)
      replace KR:=Lib.hid (KR.out.next hb)
      replace KS:=Lib.hid (KS.out.next hb)
      replace HV:=Lib.hid (HV.out.next hb)
      clear hb cx fx zx KX HRP
      by_cases hlt2:i<N2
      rotate_left
      ·go_wp2_with fail
       go_roundg (N2+1 - (i+1))
       case measure=>omega
       case rel=>exact ⟨i+1,tx2,by omega,by omega,rfl,hz2,by go_num,q5,t,k,gg,S,lv,by omega,HD.out,KR.out,KS.out,HO.out,HID.out,HV.out⟩
      have cs:=fun o=>KS.out.cell o
      have fs:=fun o=>KS.out.frozen o
      have zs:=KS.out.lt
      go_wp2_with fail
      refine (specServiceSubmit_any t k gg S tx2 _ HO.out.rd (by omega)).mono ?_
      obtain ⟨S2,v2,hsb⟩:∃ a b,subS S tx2=(a,b):=⟨_,_,rfl⟩
      have HID2:=Lib.hid (show idsOk S2 by have:=idsOk_sub HID.out tx2;rwa [hsb] at this)
      rw [hsb]
      clear hsb
      rintro e w8 ⟨t2,k2,g2,rfl,ho2,hb⟩
      have hz8:=hb.size
      have hgY:=HD.out.1.lt
      have h8w:w1.heap.size<w8.heap.size:=by have:=KS.out.lt;omega
      have HO2:=Lib.hid (ho2.mono (lo':=g+1) (by omega) (Nat.le_refl _))
      replace HO:=Lib.hid ((HO.out.next hb).mono (Nat.le_refl _) hz8)
      replace HD:=Lib.hid (HD.out.next hb)
      replace KR:=Lib.hid (KR.out.next hb)
      replace KS:=Lib.hid (KS.out.next hb)
      replace HV:=Lib.hid (HV.out.next hb)
      clear hb ho2 cs fs zs
      go_upto_region 25 with (fail)
      refine into_world (fun Y=>Dr w g q5 Y∧Blk Y w.heap.size 42 (svC sl0 sl0 sl0)∧Blk Y w1.heap.size 42 (svC t k gg)∧OwS (g+1) Y.heap.size Y t k gg S∧OwV w.heap.size Y (some ⟨b,0,none⟩) m c lv∧OwS (g+1) Y.heap.size Y t2 k2 g2 S2∧Blk Y w8.heap.size 42 (svC t2 k2 g2)) ⟨HD.out.next (ba (Below.refl _ _)),KR.out.alloc _,KS.out.alloc _,(HO.out.next (ba (Below.refl _ _))).mono (Nat.le_refl _) (by simp),HV.out.next (ba (Below.refl _ _)),(HO2.out.next (ba (Below.refl _ _))).mono (Nat.le_refl _) (by simp),Blk.new _ _ _⟩ ?_
      rintro Y2 ⟨hD,hKR,hKS,ho,hov,ho2,hKT⟩
      replace HD:=Lib.hid hD
      replace KR:=Lib.hid hKR
      replace KS:=Lib.hid hKS
      replace HO:=Lib.hid ho
      replace HV:=Lib.hid hov
      replace HO2:=Lib.hid ho2
      have KT:=Lib.hid hKT
      clear hD hKR hKS ho hov ho2 hKT
      by_cases hv2:0≤v2
      rotate_left
      ·have hv2':decide (0≤v2)=false:=by simpa using hv2
       go_wp2_with fail
       go_roundg (N2+1 - (i+1))
       case measure=>omega
       case rel=>exact ⟨i+1,tx2,by omega,by omega,rfl,hz2,by go_num,q5,t,k,gg,S,lv,by omega,HD.out,KR.out,KS.out,HO.out,HID.out,HV.out⟩
      have hv2':decide (0≤v2)=true:=by simpa using hv2
      have cs:=fun o=>KS.out.cell o
      have fs:=fun o=>KS.out.frozen o
      have zs:=KS.out.lt
      have ct:=fun o=>KT.out.cell o
      have ft:=fun o=>KT.out.frozen o
      have zt:=KT.out.lt
      go_wp2_with fail
      go_roundg (N2+1 - (i+1))
      case measure=>omega
      case rel=>exact ⟨i+1,tx2,by omega,by omega,rfl,hz2,by go_num,q5,t2,k2,g2,S2,lv,by omega,(((HD.out.set (by show w.heap.size≤w1.heap.size;omega) hg _).set (by show w.heap.size≤w1.heap.size;omega) hg _).set (by show w.heap.size≤w1.heap.size;omega) hg _),(((KR.out.far (p:=⟨w1.heap.size,0,none⟩) (by show w.heap.size≠w1.heap.size;omega) _).far (p:=⟨w1.heap.size,1,none⟩) (by show w.heap.size≠w1.heap.size;omega) _).far (p:=⟨w1.heap.size,2,none⟩) (by show w.heap.size≠w1.heap.size;omega) _),((KS.out.set_ 0 _).set_ 1 _).set_ 2 _,(HO2.out.onlyT KS.out (by decide) (by decide) (by decide) (by decide) (Only.set_ (p:=⟨w1.heap.size,2,none⟩) (Only.set_ (p:=⟨w1.heap.size,1,none⟩) (Only.set_ (p:=⟨w1.heap.size,0,none⟩) (Only.refl _ _) (.inl rfl) _) (.inl rfl) _) (.inl rfl) _)).mono (Nat.le_refl _) (by simp),HID2.out,HV.out.onlyT KS.out (by decide) (by decide) (Only.set_ (p:=⟨w1.heap.size,2,none⟩) (Only.set_ (p:=⟨w1.heap.size,1,none⟩) (Only.set_ (p:=⟨w1.heap.size,0,none⟩) (Only.refl _ _) (.inl rfl) _) (.inl rfl) _) (.inl rfl) _)⟩
end Go.Proofs.YtkgfmgajhgfgjaaGreatDoor

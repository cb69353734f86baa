/-
  Lemmas and contracts: Eg. No condition.
-/
import Derived.Test.YtkgfmgajhgfgjaaGreatDoorKa12
set_option linter.unusedSimpArgs false
set_option linter.unusedVariables false
set_option linter.unusedSectionVars false
namespace Go.Proofs.YtkgfmgajhgfgjaaGreatDoor
open Go.RowKit Go.Sort
theorem numGo_le {s:ByteArray}:∀ f i a,0≤a→a<((10 ^ i:Nat):Int)→i+f≤7→numGo s f i a≤9999999:=by
 intro f
 induction f with
 | zero =>
  intro i a h0 h1 h2
  have hp:(10 ^ i:Nat)≤10 ^ 7:=Nat.pow_le_pow_right (by decide) (by omega)
  simp only [numGo]
  omega
 | succ f ih =>
  intro i a h0 h1 h2
  rw [numGo]
  split
  ·omega
  ·rename_i hc
   have hps:(10 ^ (i+1):Nat)=10 ^ i * 10:=Nat.pow_succ ..
   exact ih _ _ (by omega) (by omega) (by omega)
theorem numW_le (s:ByteArray):numW s≤9999999:=by
 unfold numW
 split
 ·rename_i h
  exact numGo_le _ _ _ (by omega) (by decide) (by omega)
 ·omega
theorem lineGo_bd:∀ (ws:List ByteArray) (acc:List Int),(∀ z ∈ acc,0≤z∧z≤9999999)→∀ z ∈ (lineGo ws acc).1,0≤z∧z≤9999999:=by
 intro ws
 induction ws with
 | nil=>intro acc h;exact h
 | cons b r ih =>
  intro acc h
  rw [lineGo]
  split
  ·exact h
  ·rename_i hn
   refine ih _ fun z hz=>?_
   rcases List.mem_append.1 hz with hz|hz
   ·exact h z hz
   ·rw [List.mem_singleton.1 hz]
    exact ⟨by omega,numW_le b⟩
theorem lineW_bd (s word:ByteArray):∀ z ∈ (lineW s word).1,0≤z∧z≤9999999:=lineGo_bd _ _ (by simp)
theorem lineGo_len:∀ (ws:List ByteArray) (acc:List Int),(lineGo ws acc).1.length≤ws.length+acc.length:=by
 intro ws
 induction ws with
 | nil=>intro acc;simp [lineGo]
 | cons b r ih =>
  intro acc
  rw [lineGo]
  split
  ·simp
  ·have:=ih (acc ++ [numW b]);simp at this ⊢;omega
theorem lineW_len (s word:ByteArray) (h:s.size≤1048576):(lineW s word).1.length≤1048576:=by
 have h1:=lineGo_len ((cutW s 32).drop 1) []
 have h2:=cutW_len s 32
 simp only [lineW,List.length_drop,List.length_nil] at h1 ⊢
 omega
def pairsK (zs:List Int) (k:Nat):List Ent:=(List.range k).map fun j=>((zs[2 * j]?).getD 0,(zs[2 * j+1]?).getD 0)
theorem pairsK_succ (zs:List Int) (k:Nat):pairsK zs (k+1)=pairsK zs k ++ [((zs[2 * k]?).getD 0,(zs[2 * k+1]?).getD 0)]:=by simp [pairsK,List.range_succ]
theorem pairsK_bd {zs:List Int} (h:∀ z ∈ zs,0≤z∧z≤9999999) (k:Nat):∀ e ∈ pairsK zs k,0≤e.2∧e.2≤9999999:=by
 intro e he
 simp only [pairsK,List.mem_map] at he
 obtain ⟨j,_,rfl⟩:=he
 simp only
 cases hz:zs[2 * j+1]? with
 | none=>simp
 | some z=>exact h z (List.mem_of_getElem? hz)
theorem insGo_len:∀ (ps:List Ent) (prev:Option Int) (acc:List Inp),acc.length≤60→(insGo ps prev acc).1.length≤60:=by
 intro ps
 induction ps with
 | nil=>intro prev acc h;exact h
 | cons e r ih =>
  intro prev acc h
  rw [insGo]
  split
  ·simp
  ·rename_i hc
   have h2:1≤e.2∧e.2≤60 - (acc.length:Int):=by
    apply Classical.byContradiction
    intro hn
    exact hc (Or.inr (Or.inl hn))
   exact ih _ _ (by simp;omega)
theorem insW_len (ps:List Ent):(insW ps).1.length≤60:=insGo_len ps none [] (by simp)
def atI (zs:List Int) (k:Nat):Int:=(zs[k]?).getD 0
def sW1:ByteArray:=⟨#[114,101,112,108,97,121]⟩
def sW2:ByteArray:=⟨#[105,110,112,117,116,115]⟩
def sW3:ByteArray:=⟨#[104,97,115,104,101,115]⟩
def sW4:ByteArray:=⟨#[116,97,103]⟩
def readR (h i s t:List Int):Rep × Bool :=
 let p:=insW (pairsK i (i.length / 2))
 let r:Rep:=⟨atI h 0,atI h 1,atI h 2,p.1,s,atI t 0⟩
 (r,p.2 && repOk r)
def readGo (h i s t:List Int × Bool):Rep × Bool :=
 if (h.2 && i.2 && s.2 && t.2 && decide (h.1.length=3) && decide (i.1.length % 2=0) && decide (t.1.length=1))=true then readR h.1 i.1 s.1 t.1 else (rep0,false)
set_option maxRecDepth 100000 in
set_option maxHeartbeats 4000000 in
theorem l23Read_any (A:Option Addr) (n c:Nat) (L0 L1 L2 L3:ByteArray) (rest:List ByteArray) (w:World) (hr:RdW w A n (L0 :: L1 :: L2 :: L3 :: rest)) (hz:∀ b ∈ [L0,L1,L2,L3],b.size≤1048576) :
  Calls Tryz.prog 166 #[.slice A n c] w (RepPost w.heap.size (readGo (lineW L0 sW1) (lineW L1 sW2) (lineW L2 sW3) (lineW L3 sW4)) w):=by
 have hnn:4≤n:=by have:=hr.len;simp at this;omega
 obtain ⟨b,off,x0,hA,hbb,hx0,k0⟩:=RdW.cells hr (k:=0) (by omega)
 obtain ⟨b',off',x1,hA1,_,hx1,k1⟩:=RdW.cells hr (k:=1) (by omega)
 obtain ⟨rfl,rfl⟩:b=b'∧off=off':=by rw [hA] at hA1;simpa using hA1
 obtain ⟨b',off',x2,hA2,_,hx2,k2⟩:=RdW.cells hr (k:=2) (by omega)
 obtain ⟨rfl,rfl⟩:b=b'∧off=off':=by rw [hA] at hA2;simpa using hA2
 obtain ⟨b',off',x3,hA3,_,hx3,k3⟩:=RdW.cells hr (k:=3) (by omega)
 obtain ⟨rfl,rfl⟩:b=b'∧off=off':=by rw [hA] at hA3;simpa using hA3
 obtain rfl:L0=x0:=by simpa using hx0
 obtain rfl:L1=x1:=by simpa using hx1
 obtain rfl:L2=x2:=by simpa using hx2
 obtain rfl:L3=x3:=by simpa using hx3
 subst hA
 rw [Nat.add_zero] at k0
 have C1:=fun W:World=>l23Line_any L0 sW1 W (hz L0 (by simp))
 have N1:=lineW_len L0 sW1 (hz L0 (by simp))
 have B1:=lineW_bd L0 sW1
 generalize lineW L0 sW1=R1 at C1 N1 B1 ⊢
 obtain ⟨z1,t1⟩:=R1
 obtain ⟨n1,hl1⟩:∃ n,z1.length=n:=⟨_,rfl⟩
 have HLN1:=Lib.hid hl1
 have HBD1:=Lib.hid B1
 have CC1:=Lib.hid C1
 have hnb1:n1≤1048576:=by rw [← hl1];exact N1
 clear C1 N1 B1 hl1
 have C2:=fun W:World=>l23Line_any L1 sW2 W (hz L1 (by simp))
 have N2:=lineW_len L1 sW2 (hz L1 (by simp))
 have B2:=lineW_bd L1 sW2
 generalize lineW L1 sW2=R2 at C2 N2 B2 ⊢
 obtain ⟨z2,t2⟩:=R2
 obtain ⟨n2,hl2⟩:∃ n,z2.length=n:=⟨_,rfl⟩
 have HLN2:=Lib.hid hl2
 have HBD2:=Lib.hid B2
 have CC2:=Lib.hid C2
 have hnb2:n2≤1048576:=by rw [← hl2];exact N2
 clear C2 N2 B2 hl2
 have C3:=fun W:World=>l23Line_any L2 sW3 W (hz L2 (by simp))
 have N3:=lineW_len L2 sW3 (hz L2 (by simp))
 have B3:=lineW_bd L2 sW3
 generalize lineW L2 sW3=R3 at C3 N3 B3 ⊢
 obtain ⟨z3,t3⟩:=R3
 obtain ⟨n3,hl3⟩:∃ n,z3.length=n:=⟨_,rfl⟩
 have HLN3:=Lib.hid hl3
 have HBD3:=Lib.hid B3
 have CC3:=Lib.hid C3
 have hnb3:n3≤1048576:=by rw [← hl3];exact N3
 clear C3 N3 B3 hl3
 have C4:=fun W:World=>l23Line_any L3 sW4 W (hz L3 (by simp))
 have N4:=lineW_len L3 sW4 (hz L3 (by simp))
 have B4:=lineW_bd L3 sW4
 generalize lineW L3 sW4=R4 at C4 N4 B4 ⊢
 obtain ⟨z4,t4⟩:=R4
 obtain ⟨n4,hl4⟩:∃ n,z4.length=n:=⟨_,rfl⟩
 have HLN4:=Lib.hid hl4
 have HBD4:=Lib.hid B4
 have CC4:=Lib.hid C4
 have hnb4:n4≤1048576:=by rw [← hl4];exact N4
 clear C4 N4 B4 hl4
 have K0:=Lib.hid k0
 have K1:=Lib.hid k1
 have K2:=Lib.hid k2
 have K3:=Lib.hid k3
 clear hr hx0 hx1 hx2 hx3 hA1 hA2 hA3 hz k0 k1 k2 k3
 have q0:=K0.out
 go_enter Tryz.func166,Tryz.ntmps166
 have KR:=Lib.hid (Blk.new w 35 (repC rep0 ⟨none,0,0⟩ ⟨none,0,0⟩))
 have HB:=Lib.hid (show Below w.heap.size w (w.alloc (.cells (repC rep0 ⟨none,0,0⟩ ⟨none,0,0⟩) 35)) from (Below.refl _ _).alloc (Nat.le_refl _) _)
 go_wp2_with fail
 refine (CC1.out _).mono ?_
 rintro e w1 ⟨A1,c1,rfl,hO,hb⟩
 simp only [HLN1.out] at hO ⊢
 have HO1:=Lib.hid hO
 replace KR:=Lib.hid (KR.out.next hb)
 replace HB:=Lib.hid (below_next HB.out hb)
 have q1:=((bcell HB.out).1 b (off+1) hbb).trans K1.out
 clear hO hb q0
 go_wp2_with fail
 refine (CC2.out _).mono ?_
 rintro e w2 ⟨A2,c2,rfl,hO,hb⟩
 simp only [HLN2.out] at hO ⊢
 have HO2:=Lib.hid hO
 replace KR:=Lib.hid (KR.out.next hb)
 replace HB:=Lib.hid (below_next HB.out hb)
 have q2:=((bcell HB.out).1 b (off+2) hbb).trans K2.out
 replace HO1:=Lib.hid (Ow.next HO1.out hb)
 clear hO hb q1
 go_wp2_with fail
 refine (CC3.out _).mono ?_
 rintro e w3 ⟨A3,c3,rfl,hO,hb⟩
 simp only [HLN3.out] at hO ⊢
 have HO3:=Lib.hid hO
 replace KR:=Lib.hid (KR.out.next hb)
 replace HB:=Lib.hid (below_next HB.out hb)
 have q3:=((bcell HB.out).1 b (off+3) hbb).trans K3.out
 replace HO1:=Lib.hid (Ow.next HO1.out hb)
 replace HO2:=Lib.hid (Ow.next HO2.out hb)
 clear hO hb q2
 go_wp2_with fail
 refine (CC4.out _).mono ?_
 rintro e w4 ⟨A4,c4,rfl,hO,hb⟩
 simp only [HLN4.out] at hO ⊢
 have HO4:=Lib.hid hO
 replace KR:=Lib.hid (KR.out.next hb)
 replace HB:=Lib.hid (below_next HB.out hb)
 replace HO1:=Lib.hid (Ow.next HO1.out hb)
 replace HO2:=Lib.hid (Ow.next HO2.out hb)
 replace HO3:=Lib.hid (Ow.next HO3.out hb)
 clear hO hb q3
 cases t1
 ·have HF:=Lib.hid (show readGo (z1,false) (z2,t2) (z3,t3) (z4,t4)=(rep0,false) by simp [readGo,Bool.false_and])
  have cr:=fun o=>KR.out.cell o
  have fr:=fun o=>KR.out.frozen o
  have zr:=KR.out.lt
  go_wp2_with fail
  refine bodyPost_ret (v:=.tuple #[repV rep0 ⟨none,0,0⟩ ⟨none,0,0⟩,.bool false]) (by simp [results,Tryz.results166,go_sem,cr,rep0]) rfl ?_
  unfold RepPost
  rw [HF.out]
  exact ⟨_,_,rfl,rdR_zero _,by have hb:=HB.out;go_grown⟩
 cases t2
 ·have HF:=Lib.hid (show readGo (z1,true) (z2,false) (z3,t3) (z4,t4)=(rep0,false) by simp [readGo,Bool.false_and])
  have cr:=fun o=>KR.out.cell o
  have fr:=fun o=>KR.out.frozen o
  have zr:=KR.out.lt
  go_wp2_with fail
  refine bodyPost_ret (v:=.tuple #[repV rep0 ⟨none,0,0⟩ ⟨none,0,0⟩,.bool false]) (by simp [results,Tryz.results166,go_sem,cr,rep0]) rfl ?_
  unfold RepPost
  rw [HF.out]
  exact ⟨_,_,rfl,rdR_zero _,by have hb:=HB.out;go_grown⟩
 cases t3
 ·have HF:=Lib.hid (show readGo (z1,true) (z2,true) (z3,false) (z4,t4)=(rep0,false) by simp [readGo,Bool.false_and])
  have cr:=fun o=>KR.out.cell o
  have fr:=fun o=>KR.out.frozen o
  have zr:=KR.out.lt
  go_wp2_with fail
  refine bodyPost_ret (v:=.tuple #[repV rep0 ⟨none,0,0⟩ ⟨none,0,0⟩,.bool false]) (by simp [results,Tryz.results166,go_sem,cr,rep0]) rfl ?_
  unfold RepPost
  rw [HF.out]
  exact ⟨_,_,rfl,rdR_zero _,by have hb:=HB.out;go_grown⟩
 cases t4
 ·have HF:=Lib.hid (show readGo (z1,true) (z2,true) (z3,true) (z4,false)=(rep0,false) by simp [readGo,Bool.false_and])
  have cr:=fun o=>KR.out.cell o
  have fr:=fun o=>KR.out.frozen o
  have zr:=KR.out.lt
  go_wp2_with fail
  refine bodyPost_ret (v:=.tuple #[repV rep0 ⟨none,0,0⟩ ⟨none,0,0⟩,.bool false]) (by simp [results,Tryz.results166,go_sem,cr,rep0]) rfl ?_
  unfold RepPost
  rw [HF.out]
  exact ⟨_,_,rfl,rdR_zero _,by have hb:=HB.out;go_grown⟩
 by_cases h3:n1=3
 rotate_left
 ·have h3':((n1:Int) == 3)=false:=by simp;omega
  have h3n:¬ (n1:Int)=3:=by omega
  have HF:=Lib.hid (show readGo (z1,true) (z2,true) (z3,true) (z4,true)=(rep0,false) by simp [readGo,HLN1.out,h3])
  have cr:=fun o=>KR.out.cell o
  have fr:=fun o=>KR.out.frozen o
  have zr:=KR.out.lt
  go_wp2_with fail
  refine bodyPost_ret (v:=.tuple #[repV rep0 ⟨none,0,0⟩ ⟨none,0,0⟩,.bool false]) (by simp [results,Tryz.results166,go_sem,cr,rep0]) rfl ?_
  unfold RepPost
  rw [HF.out]
  exact ⟨_,_,rfl,rdR_zero _,by have hb:=HB.out;go_grown⟩
 have h3':((n1:Int) == 3)=true:=by simp;omega
 have h3n:(n1:Int)=3:=by omega
 by_cases h2:n2 % 2=0
 rotate_left
 ·have h2':(n2:Int) % 2=1:=by omega
  have h2n:(n2:Int).tmod 2=1:=by rw [Int.tmod_eq_emod_of_nonneg (by omega)];exact h2'
  have HF:=Lib.hid (show readGo (z1,true) (z2,true) (z3,true) (z4,true)=(rep0,false) by simp [readGo,HLN2.out,h2])
  have cr:=fun o=>KR.out.cell o
  have fr:=fun o=>KR.out.frozen o
  have zr:=KR.out.lt
  go_wp2_with fail
  refine bodyPost_ret (v:=.tuple #[repV rep0 ⟨none,0,0⟩ ⟨none,0,0⟩,.bool false]) (by simp [results,Tryz.results166,go_sem,cr,rep0]) rfl ?_
  unfold RepPost
  rw [HF.out]
  exact ⟨_,_,rfl,rdR_zero _,by have hb:=HB.out;go_grown⟩
 have h2':(n2:Int) % 2=0:=by omega
 have h2n:(n2:Int).tmod 2=0:=by rw [Int.tmod_eq_emod_of_nonneg (by omega)];exact h2'
 by_cases h4:n4=1
 rotate_left
 ·have h4':((n4:Int) == 1)=false:=by simp;omega
  have h4n:¬ (n4:Int)=1:=by omega
  have HF:=Lib.hid (show readGo (z1,true) (z2,true) (z3,true) (z4,true)=(rep0,false) by simp [readGo,HLN4.out,h4])
  have cr:=fun o=>KR.out.cell o
  have fr:=fun o=>KR.out.frozen o
  have zr:=KR.out.lt
  go_wp2_with fail
  refine bodyPost_ret (v:=.tuple #[repV rep0 ⟨none,0,0⟩ ⟨none,0,0⟩,.bool false]) (by simp [results,Tryz.results166,go_sem,cr,rep0]) rfl ?_
  unfold RepPost
  rw [HF.out]
  exact ⟨_,_,rfl,rdR_zero _,by have hb:=HB.out;go_grown⟩
 have h4':((n4:Int) == 1)=true:=by simp;omega
 have h4n:(n4:Int)=1:=by omega
 have HF:=Lib.hid (show readGo (z1,true) (z2,true) (z3,true) (z4,true)=readR z1 z2 z3 z4 by simp [readGo,HLN1.out,HLN2.out,HLN4.out,h3,h2,h4])
 obtain ⟨m,hm⟩:∃ m,n2=2 * m:=⟨n2 / 2,by omega⟩
 have HM:=Lib.hid hm
 have H3:=Lib.hid h3
 have H4:=Lib.hid h4
 clear h3 h4 h2 hm CC1 CC2 CC3 CC4
 obtain ⟨i0,hi0,hy0,hy1,hy2⟩:=info_parts infoP
 have HI:=Lib.hid hi0
 have HZ:=Lib.hid hy0
 have HS:=Lib.hid hy1
 have HBY:=Lib.hid hy2
 clear hi0 hy0 hy1 hy2
 have hw4:=HB.out.size
 have HI2:=Lib.hid HO2.out.rdI
 go_wp2_with fail
 go_loopw [12,13] (fun out i wr=>∃ (k K2:Nat) (A':Option Addr) (c':Nat),K2≤n2∧k≤1048576∧i=.int .i64 K2∧out=.slice A' k c'∧Hid (K2=2 * k∧Below w4.heap.size w4 wr∧Ow w4.heap.size wr 123 2 A' k c' (cellsE (pairsK z2 k)))) (fun _ i _=>n2 - (intOf i).toNat)
 case atStart=>exact ⟨0,0,_,0,Nat.zero_le _,Nat.zero_le _,rfl,rfl,rfl,ba (Below.refl _ _),Ow.bare _ _ _ _ _⟩
 case round =>
  obtain ⟨k,K2,A',c',hk,hk20,rfl,rfl,HQ⟩:=hrel
  obtain ⟨HK2,HB2,HOW⟩:=HQ.out
  replace HK2:=Lib.hid HK2
  replace HB2:=Lib.hid HB2
  replace HOW:=Lib.hid HOW
  clear HQ
  have hw5:=HB2.out.size
  by_cases hlt:K2<n2
  ·have hlt1:K2+1<n2:=by have h1:=HM.out;have h2:=HK2.out;omega
   have hlti:(K2:Int)+1<n2:=by omega
   obtain ⟨g,og,za,hAg,hgl,hza,hca⟩:=(HI2.out.below HB2.out).at_ hlt
   obtain ⟨g',og',zb,hAg',hgl',hzb,hcb⟩:=(HI2.out.below HB2.out).at_ hlt1
   obtain ⟨rfl,rfl⟩:g=g'∧og=og':=by rw [hAg] at hAg';simpa using hAg'
   subst hAg
   have HPS:=Lib.hid (show pairsK z2 (k+1)=pairsK z2 k ++ [(za,zb)] by rw [pairsK_succ,← HK2.out,hza,hzb];rfl)
   have hca':wr.cell? ⟨g,og+K2,none⟩=some (.int .i64 za):=hca
   have hcb':wr.cell? ⟨g,og+(K2+1),none⟩=some (.int .i64 zb):=hcb
   clear hza hzb hAg' hca hcb
   have hw1:IntKind.i64.wrap ((K2:Int)+1)=(K2:Int)+1:=IntWalk.i64_in _ (by omega)
   have hw2:((K2:Int)+1).toNat=K2+1:=by omega
   have hw3:(0:Int)≤(K2:Int)+1:=by omega
   have hw6:¬ (K2:Int)+1<0:=by omega
   go_upto_region 11 with (fail)
   refine wp_region_grow 12 (by kernel_rfl) (by kernel_rfl) (by kernel_rfl) (fun a b=>Below a.heap.size a b) (fun mq w'=>Below wr.heap.size wr w') (fun iq v w'=>match iq with|0=>(v=.slice A' k c')|1=>(v=.slice (some ⟨g,og,none⟩) n2 c2)|2=>(v=.int .i64 (K2:Int))|3=>(v=.pointer (some ⟨g,og+K2,none⟩))|4=>(v=.int .i64 za)|5=>(v=.slice (some ⟨g,og,none⟩) n2 c2)|6=>(v=.int .i64 (K2:Int))|7=>(v=.int .i64 ((K2:Int)+1))|8=>(v=.pointer (some ⟨g,og+(K2+1),none⟩))|9=>(v=.int .i64 zb)|10=>(v=.agg #[.int .i64 za,.int .i64 zb])|11=>(∃ g2,v=.slice (some ⟨g2,0,none⟩) 1 1∧Blk w' g2 123 #[.int .i64 za,.int .i64 zb])|_=>True) (fun sq=>{ tmps:=#[Value.slice (some (⟨b,off,none⟩:Addr)) n c,undef,Value.pointer (some (⟨w.heap.size,0,none⟩:Addr)),Value.bool false,Value.slice A1 n1 c1,Value.bool true,Value.slice (some (⟨g,og,none⟩:Addr)) n2 c2,Value.bool true,Value.slice A3 n3 c3,Value.bool true,Value.slice A4 n4 c4,Value.bool true,Value.slice A' k c',Value.int .i64 (K2:Int),undef,undef,undef,Value.tuple #[Value.slice A1 n1 c1,Value.bool true],Value.slice (some (⟨b,off,none⟩:Addr)) n c,Value.pointer (some (⟨b,off,none⟩:Addr)),Value.string L0,Value.tuple #[Value.slice A1 n1 c1,Value.bool true],Value.slice A1 n1 c1,Value.bool true,Value.tuple #[Value.slice (some (⟨g,og,none⟩:Addr)) n2 c2,Value.bool true],Value.slice (some (⟨b,off,none⟩:Addr)) n c,Value.pointer (some (⟨b,off+1,none⟩:Addr)),Value.string L1,Value.tuple #[Value.slice (some (⟨g,og,none⟩:Addr)) n2 c2,Value.bool true],Value.slice (some (⟨g,og,none⟩:Addr)) n2 c2,Value.bool true,Value.tuple #[Value.slice A3 n3 c3,Value.bool true],Value.slice (some (⟨b,off,none⟩:Addr)) n c,Value.pointer (some (⟨b,off+2,none⟩:Addr)),Value.string L2,Value.tuple #[Value.slice A3 n3 c3,Value.bool true],Value.slice A3 n3 c3,Value.bool true,Value.tuple #[Value.slice A4 n4 c4,Value.bool true],Value.slice (some (⟨b,off,none⟩:Addr)) n c,Value.pointer (some (⟨b,off+3,none⟩:Addr)),Value.string L3,Value.tuple #[Value.slice A4 n4 c4,Value.bool true],Value.slice A4 n4 c4,Value.bool true,Value.bool true,Value.bool false,Value.bool false,Value.bool true,Value.bool false,Value.bool false,Value.bool false,Value.bool true,Value.bool false,Value.bool false,Value.bool false,Value.bool true,Value.bool false,Value.bool false,Value.bool false,Value.slice A1 n1 c1,Value.int .i64 3,Value.bool false,Value.bool false,Value.bool false,Value.slice (some (⟨g,og,none⟩:Addr)) n2 c2,Value.int .i64 (n2:Int),Value.int .i64 0,Value.bool false,Value.bool false,Value.bool false,Value.slice A4 n4 c4,Value.int .i64 1,Value.bool false,Value.bool false,undef,Value.slice (some (⟨w4.heap.size,0,none⟩:Addr)) 0 0,Value.int .i64 (K2:Int),Value.slice (some (⟨g,og,none⟩:Addr)) n2 c2,Value.int .i64 (n2:Int),Value.bool true,u81,u82,sq 0,sq 1,sq 2,sq 3,sq 4,sq 5,sq 6,sq 7,sq 8,sq 9,sq 10,sq 11,u95,undef,undef,undef,undef,undef,undef,undef,undef,undef,undef,undef,undef,undef,undef,undef,undef,undef,undef,undef,undef,undef,undef,undef,undef,undef,undef],defers:=[] }) (fun j=>match j with|0=>u83|1=>u84|2=>u85|3=>u86|4=>u87|5=>u88|6=>u89|7=>u90|8=>u91|9=>u92|10=>u93|11=>u94|_=>undef) ?_ ?_ ?_ ?_
   ·rintro iq v a b hg h
    match iq,h with
    | 0,h=>exact h
    | 1,h=>exact h
    | 2,h=>exact h
    | 3,h=>exact h
    | 4,h=>exact h
    | 5,h=>exact h
    | 6,h=>exact h
    | 7,h=>exact h
    | 8,h=>exact h
    | 9,h=>exact h
    | 10,h=>exact h
    | 11,h=>exact (by obtain ⟨g2,rfl,h2⟩:=h;exact ⟨g2,rfl,h2.next hg⟩)
    | (kq+12),_=>exact trivial
   ·exact ⟨rfl,rfl,rfl,Nat.le_refl _,fun _ _=>rfl⟩
   ·intro mq sq w' iq oq hmq hiq hoq hJ hd Kq hK
    have hiq':iq=0∨iq=1∨iq=2∨iq=3∨iq=4∨iq=5∨iq=6∨iq=7∨iq=8∨iq=9∨iq=10∨iq=11:=by omega
    rcases hiq' with rfl|rfl|rfl|rfl|rfl|rfl|rfl|rfl|rfl|rfl|rfl|rfl
    ·cases (show some _=some oq from hoq)
     have hK':=hK
     simp only [updV,Nat.reduceEqDiff,↓reduceIte] at hK'
     clear hK hd
     generalize sq 0=x0,sq 1=x1,sq 2=x2,sq 3=x3,sq 4=x4,sq 5=x5,sq 6=x6,sq 7=x7,sq 8=x8,sq 9=x9,sq 10=x10,sq 11=x11 at *
     go_simp
     exact hK' _ _ (Below.refl _ _) hJ rfl
    ·cases (show some _=some oq from hoq)
     have hK':=hK
     simp only [updV,Nat.reduceEqDiff,↓reduceIte] at hK'
     clear hK hd
     generalize sq 0=x0,sq 1=x1,sq 2=x2,sq 3=x3,sq 4=x4,sq 5=x5,sq 6=x6,sq 7=x7,sq 8=x8,sq 9=x9,sq 10=x10,sq 11=x11 at *
     go_simp
     exact hK' _ _ (Below.refl _ _) hJ rfl
    ·cases (show some _=some oq from hoq)
     have hK':=hK
     simp only [updV,Nat.reduceEqDiff,↓reduceIte] at hK'
     clear hK hd
     generalize sq 0=x0,sq 1=x1,sq 2=x2,sq 3=x3,sq 4=x4,sq 5=x5,sq 6=x6,sq 7=x7,sq 8=x8,sq 9=x9,sq 10=x10,sq 11=x11 at *
     go_simp
     exact hK' _ _ (Below.refl _ _) hJ rfl
    ·cases (show some _=some oq from hoq)
     have d1:=hd 1 (by kernel_rfl) (by decide)
     have d2:=hd 2 (by kernel_rfl) (by decide)
     have hK':=hK
     simp only [updV,Nat.reduceEqDiff,↓reduceIte] at hK'
     clear hK hd
     generalize sq 0=x0,sq 1=x1,sq 2=x2,sq 3=x3,sq 4=x4,sq 5=x5,sq 6=x6,sq 7=x7,sq 8=x8,sq 9=x9,sq 10=x10,sq 11=x11 at *
     obtain rfl:=d1
     obtain rfl:=d2
     go_simp
     exact hK' _ _ (Below.refl _ _) hJ rfl
    ·cases (show some _=some oq from hoq)
     have d3:=hd 3 (by kernel_rfl) (by decide)
     have hK':=hK
     simp only [updV,Nat.reduceEqDiff,↓reduceIte] at hK'
     clear hK hd
     generalize sq 0=x0,sq 1=x1,sq 2=x2,sq 3=x3,sq 4=x4,sq 5=x5,sq 6=x6,sq 7=x7,sq 8=x8,sq 9=x9,sq 10=x10,sq 11=x11 at *
     obtain rfl:=d3
     have hcc:=((bcell hJ).1 g _ hgl).trans hca'
     go_simp
     exact hK' _ _ (Below.refl _ _) hJ rfl
    ·cases (show some _=some oq from hoq)
     have hK':=hK
     simp only [updV,Nat.reduceEqDiff,↓reduceIte] at hK'
     clear hK hd
     generalize sq 0=x0,sq 1=x1,sq 2=x2,sq 3=x3,sq 4=x4,sq 5=x5,sq 6=x6,sq 7=x7,sq 8=x8,sq 9=x9,sq 10=x10,sq 11=x11 at *
     go_simp
     exact hK' _ _ (Below.refl _ _) hJ rfl
    ·cases (show some _=some oq from hoq)
     have hK':=hK
     simp only [updV,Nat.reduceEqDiff,↓reduceIte] at hK'
     clear hK hd
     generalize sq 0=x0,sq 1=x1,sq 2=x2,sq 3=x3,sq 4=x4,sq 5=x5,sq 6=x6,sq 7=x7,sq 8=x8,sq 9=x9,sq 10=x10,sq 11=x11 at *
     go_simp
     exact hK' _ _ (Below.refl _ _) hJ rfl
    ·cases (show some _=some oq from hoq)
     have d6:=hd 6 (by kernel_rfl) (by decide)
     have hK':=hK
     simp only [updV,Nat.reduceEqDiff,↓reduceIte] at hK'
     clear hK hd
     generalize sq 0=x0,sq 1=x1,sq 2=x2,sq 3=x3,sq 4=x4,sq 5=x5,sq 6=x6,sq 7=x7,sq 8=x8,sq 9=x9,sq 10=x10,sq 11=x11 at *
     obtain rfl:=d6
     go_simp
     exact hK' _ _ (Below.refl _ _) hJ rfl
    ·cases (show some _=some oq from hoq)
     have d5:=hd 5 (by kernel_rfl) (by decide)
     have d7:=hd 7 (by kernel_rfl) (by decide)
     have hK':=hK
     simp only [updV,Nat.reduceEqDiff,↓reduceIte] at hK'
     clear hK hd
     generalize sq 0=x0,sq 1=x1,sq 2=x2,sq 3=x3,sq 4=x4,sq 5=x5,sq 6=x6,sq 7=x7,sq 8=x8,sq 9=x9,sq 10=x10,sq 11=x11 at *
     obtain rfl:=d5
     obtain rfl:=d7
     go_simp
     exact hK' _ _ (Below.refl _ _) hJ rfl
    ·cases (show some _=some oq from hoq)
     have d8:=hd 8 (by kernel_rfl) (by decide)
     have hK':=hK
     simp only [updV,Nat.reduceEqDiff,↓reduceIte] at hK'
     clear hK hd
     generalize sq 0=x0,sq 1=x1,sq 2=x2,sq 3=x3,sq 4=x4,sq 5=x5,sq 6=x6,sq 7=x7,sq 8=x8,sq 9=x9,sq 10=x10,sq 11=x11 at *
     obtain rfl:=d8
     have hcc:=((bcell hJ).1 g _ hgl).trans hcb'
     go_simp
     exact hK' _ _ (Below.refl _ _) hJ rfl
    ·cases (show some _=some oq from hoq)
     have d4:=hd 4 (by kernel_rfl) (by decide)
     have d9:=hd 9 (by kernel_rfl) (by decide)
     have hK':=hK
     simp only [updV,Nat.reduceEqDiff,↓reduceIte] at hK'
     clear hK hd
     generalize sq 0=x0,sq 1=x1,sq 2=x2,sq 3=x3,sq 4=x4,sq 5=x5,sq 6=x6,sq 7=x7,sq 8=x8,sq 9=x9,sq 10=x10,sq 11=x11 at *
     obtain rfl:=d4
     obtain rfl:=d9
     go_simp
     exact hK' _ _ (Below.refl _ _) hJ rfl
    ·cases (show some _=some oq from hoq)
     have d10:=hd 10 (by kernel_rfl) (by decide)
     have hK':=hK
     simp only [updV,Nat.reduceEqDiff,↓reduceIte] at hK'
     clear hK hd
     generalize sq 0=x0,sq 1=x1,sq 2=x2,sq 3=x3,sq 4=x4,sq 5=x5,sq 6=x6,sq 7=x7,sq 8=x8,sq 9=x9,sq 10=x10,sq 11=x11 at *
     obtain rfl:=d10
     go_simp
     exact hK' _ _ (ba (Below.refl _ _)) (hJ.alloc hJ.size _) ⟨_,rfl,Blk.new _ _ _⟩
   ·intro sq w' hJ hφ
    simp only [List.drop_succ_cons,List.drop_zero]
    have d0:=hφ 0 (by decide)
    have d11:=hφ 11 (by decide)
    clear hφ
    generalize sq 0=x0,sq 1=x1,sq 2=x2,sq 3=x3,sq 4=x4,sq 5=x5,sq 6=x6,sq 7=x7,sq 8=x8,sq 9=x9,sq 10=x10,sq 11=x11 at *
    obtain rfl:=d0
    obtain ⟨g2,rfl,hb2⟩:=d11
    have hrow:=Ow.next HOW.out hJ
    replace HB2:=Lib.hid (below_next HB2.out hJ)
    have hsj:=HB2.out.size
    refine wpList_append_ow _ rfl (.tmp 83) (.tmp 94) _ rfl w4.heap.size 123 i0 _ 2 16 Tryz.underlying120 HI.out HZ.out HS.out HBY.out rfl (by omega) _ k c' _ rfl hrow _ 1 1 (cellsE [(za,zb)]) rfl (Src.blk hb2 rfl) (cellsE_one _) (by unfold maxLen;omega) (by omega) (by omega) ?_
    intro A5 c5 w5 hown5 hg5 _
    have HO5:=Lib.hid hown5
    have HG5:=Lib.hid hg5
    have HROW:=Lib.hid hrow
    clear hown5 hg5 hrow hJ hb2 hca' hcb'
    go_wp2_with fail
    refine ⟨⟨k+1,K2+2,A5,c5,by omega,by have h1:=HM.out;have h2:=HK2.out;omega,by go_num,rfl,by have h2:=HK2.out;omega,HROW.out.grown HG5.out HB2.out (Nat.le_refl _) hsj,?_⟩,by simp [intOf];omega⟩
    rw [HPS.out,cellsE_append]
    exact HO5.out
  ·have hkm:k=m:=by have h1:=HM.out;have h2:=HK2.out;omega
   subst hkm
   go_wp2_with fail
   refine (specReplayInputs_any A' k c' (pairsK z2 k) _ HOW.out.rdE (by omega) (pairsK_bd HBD2.out k)).mono ?_
   rintro e w6 ⟨Ai,ci,rfl,hO,hb⟩
   have HMB:=Lib.hid (show z2.length / 2=k by rw [HLN2.out];have:=HM.out;omega)
   have hbe:=below_next (below_next HB.out HB2.out) hb
   have hb4:=below_next HB2.out hb
   have I1:=Lib.hid (HO1.out.rdI.below hb4)
   replace HO3:=Lib.hid (Ow.next HO3.out hb4)
   have I4:=Lib.hid (HO4.out.rdI.below hb4)
   have hle3:=HO3.out.le
   replace KR:=Lib.hid (KR.out.next hb4)
   have HBE:=Lib.hid hbe
   have HKW:=Lib.hid KR.out.lt
   have HP:=Lib.hid (insW_len (pairsK z2 k))
   clear hbe hb4 hb
   obtain ⟨pr,hpr⟩:∃ p,insW (pairsK z2 k)=p:=⟨_,rfl⟩
   rw [hpr] at hO HP ⊢
   obtain ⟨pi,po⟩:=pr
   obtain ⟨np,hnp⟩:∃ np,pi.length=np:=⟨_,rfl⟩
   simp only [hnp] at hO HP ⊢
   have hle4:=hO.le
   have HOI:=Lib.hid hO
   have HPR:=Lib.hid hpr
   have hnp60:np≤60:=HP.out
   have hkr:=HBE.out.size
   clear hpr hO hnp
   obtain ⟨b1,o1,v1,hA1,hl1,hv1,q1⟩:=I1.out.at_ (j:=0) (by have:=H3.out;omega)
   obtain ⟨b2,o2,v2,hA2,hl2,hv2,q2⟩:=I1.out.at_ (j:=1) (by have:=H3.out;omega)
   obtain ⟨b3,o3,v3,hA3,hl3,hv3,q3⟩:=I1.out.at_ (j:=2) (by have:=H3.out;omega)
   obtain ⟨b4,o4,v4,hA4,hl4,hv4,q4⟩:=I4.out.at_ (j:=0) (by have:=H4.out;omega)
   obtain ⟨rfl,rfl⟩:b1=b2∧o1=o2:=by rw [hA1] at hA2;simpa using hA2
   obtain ⟨rfl,rfl⟩:b1=b3∧o1=o3:=by rw [hA1] at hA3;simpa using hA3
   subst hA1 hA4
   rw [Nat.add_zero] at q1 q4
   have HA1:=Lib.hid (show atI z1 0=v1 by simp [atI,hv1])
   have HA2:=Lib.hid (show atI z1 1=v2 by simp [atI,hv2])
   have HA3:=Lib.hid (show atI z1 2=v3 by simp [atI,hv3])
   have HA4:=Lib.hid (show atI z4 0=v4 by simp [atI,hv4])
   have Q1:=Lib.hid q1
   have Q2:=Lib.hid q2
   have Q3:=Lib.hid q3
   have Q4:=Lib.hid q4
   clear hv1 hv2 hv3 hv4 hA2 hA3 q1 q2 q3 q4
   go_upto_region 13 with (fail)
   refine wp_region_grow 16 (by kernel_rfl) (by kernel_rfl) (by kernel_rfl) (fun a b=>Below a.heap.size a b) (fun mq w'=>Below w6.heap.size w6 w') (fun iq v w'=>match iq with|0=>(v=.slice (some ⟨b1,o1,none⟩) n1 c1)|1=>(v=.pointer (some ⟨b1,o1,none⟩))|2=>(v=.int .i64 v1)|3=>(v=.slice (some ⟨b1,o1,none⟩) n1 c1)|4=>(v=.pointer (some ⟨b1,o1+1,none⟩))|5=>(v=.int .i64 v2)|6=>(v=.slice (some ⟨b1,o1,none⟩) n1 c1)|7=>(v=.pointer (some ⟨b1,o1+2,none⟩))|8=>(v=.int .i64 v3)|9=>(v=.slice Ai np ci)|10=>(v=.slice A3 n3 c3)|11=>(v=.slice (some ⟨b4,o4,none⟩) n4 c4)|12=>(v=.pointer (some ⟨b4,o4,none⟩))|13=>(v=.int .i64 v4)|14=>(v=.agg #[.int .i64 v1,.int .i64 v2,.int .i64 v3,.slice Ai np ci,.slice A3 n3 c3,.int .i64 v4])|15=>(∃ o,v=.pointer (some ⟨o,0,none⟩)∧w6.heap.size≤o∧Blk w' o 35 (repC rep0 ⟨none,0,0⟩ ⟨none,0,0⟩))|_=>True) (fun sq=>{ tmps:=#[Value.slice (some (⟨b,off,none⟩:Addr)) n c,undef,Value.pointer (some (⟨w.heap.size,0,none⟩:Addr)),Value.bool false,Value.slice (some (⟨b1,o1,none⟩:Addr)) n1 c1,Value.bool true,Value.slice A2 n2 c2,Value.bool true,Value.slice A3 n3 c3,Value.bool true,Value.slice (some (⟨b4,o4,none⟩:Addr)) n4 c4,Value.bool true,Value.slice A' k c',Value.int .i64 (K2:Int),Value.slice Ai np ci,Value.bool po,sq 15,Value.tuple #[Value.slice (some (⟨b1,o1,none⟩:Addr)) n1 c1,Value.bool true],Value.slice (some (⟨b,off,none⟩:Addr)) n c,Value.pointer (some (⟨b,off,none⟩:Addr)),Value.string L0,Value.tuple #[Value.slice (some (⟨b1,o1,none⟩:Addr)) n1 c1,Value.bool true],Value.slice (some (⟨b1,o1,none⟩:Addr)) n1 c1,Value.bool true,Value.tuple #[Value.slice A2 n2 c2,Value.bool true],Value.slice (some (⟨b,off,none⟩:Addr)) n c,Value.pointer (some (⟨b,off+1,none⟩:Addr)),Value.string L1,Value.tuple #[Value.slice A2 n2 c2,Value.bool true],Value.slice A2 n2 c2,Value.bool true,Value.tuple #[Value.slice A3 n3 c3,Value.bool true],Value.slice (some (⟨b,off,none⟩:Addr)) n c,Value.pointer (some (⟨b,off+2,none⟩:Addr)),Value.string L2,Value.tuple #[Value.slice A3 n3 c3,Value.bool true],Value.slice A3 n3 c3,Value.bool true,Value.tuple #[Value.slice (some (⟨b4,o4,none⟩:Addr)) n4 c4,Value.bool true],Value.slice (some (⟨b,off,none⟩:Addr)) n c,Value.pointer (some (⟨b,off+3,none⟩:Addr)),Value.string L3,Value.tuple #[Value.slice (some (⟨b4,o4,none⟩:Addr)) n4 c4,Value.bool true],Value.slice (some (⟨b4,o4,none⟩:Addr)) n4 c4,Value.bool true,Value.bool true,Value.bool false,Value.bool false,Value.bool true,Value.bool false,Value.bool false,Value.bool false,Value.bool true,Value.bool false,Value.bool false,Value.bool false,Value.bool true,Value.bool false,Value.bool false,Value.bool false,Value.slice (some (⟨b1,o1,none⟩:Addr)) n1 c1,Value.int .i64 3,Value.bool false,Value.bool false,Value.bool false,Value.slice A2 n2 c2,Value.int .i64 (n2:Int),Value.int .i64 0,Value.bool false,Value.bool false,Value.bool false,Value.slice (some (⟨b4,o4,none⟩:Addr)) n4 c4,Value.int .i64 1,Value.bool false,Value.bool false,undef,Value.slice (some (⟨w4.heap.size,0,none⟩:Addr)) 0 0,Value.int .i64 (K2:Int),Value.slice A2 n2 c2,Value.int .i64 (n2:Int),Value.bool false,u81,u82,u83,u84,u85,u86,u87,u88,u89,u90,u91,u92,u93,u94,u95,Value.tuple #[Value.slice Ai np ci,Value.bool po],Value.slice A' k c',Value.tuple #[Value.slice Ai np ci,Value.bool po],Value.slice Ai np ci,Value.bool po,sq 0,sq 1,sq 2,sq 3,sq 4,sq 5,sq 6,sq 7,sq 8,sq 9,sq 10,sq 11,sq 12,sq 13,sq 14,undef,undef,undef,undef,undef,undef],defers:=[] }) (fun _=>undef) ?_ ?_ ?_ ?_
   ·rintro iq v a b hg h
    match iq,h with
    | 0,h=>exact h
    | 1,h=>exact h
    | 2,h=>exact h
    | 3,h=>exact h
    | 4,h=>exact h
    | 5,h=>exact h
    | 6,h=>exact h
    | 7,h=>exact h
    | 8,h=>exact h
    | 9,h=>exact h
    | 10,h=>exact h
    | 11,h=>exact h
    | 12,h=>exact h
    | 13,h=>exact h
    | 14,h=>exact h
    | 15,h=>exact (by obtain ⟨o,rfl,h1,h2⟩:=h;exact ⟨o,rfl,h1,h2.next hg⟩)
    | (kq+16),_=>exact trivial
   ·exact ⟨rfl,rfl,rfl,Nat.le_refl _,fun _ _=>rfl⟩
   ·intro mq sq w' iq oq hmq hiq hoq hJ hd Kq hK
    have hiq':iq=0∨iq=1∨iq=2∨iq=3∨iq=4∨iq=5∨iq=6∨iq=7∨iq=8∨iq=9∨iq=10∨iq=11∨iq=12∨iq=13∨iq=14∨iq=15:=by omega
    rcases hiq' with rfl|rfl|rfl|rfl|rfl|rfl|rfl|rfl|rfl|rfl|rfl|rfl|rfl|rfl|rfl|rfl
    ·cases (show some _=some oq from hoq)
     have hK':=hK
     simp only [updV,Nat.reduceEqDiff,↓reduceIte] at hK'
     clear hK hd
     generalize sq 0=x0,sq 1=x1,sq 2=x2,sq 3=x3,sq 4=x4,sq 5=x5,sq 6=x6,sq 7=x7,sq 8=x8,sq 9=x9,sq 10=x10,sq 11=x11,sq 12=x12,sq 13=x13,sq 14=x14,sq 15=x15 at *
     go_simp
     exact hK' _ _ (Below.refl _ _) hJ rfl
    ·cases (show some _=some oq from hoq)
     have d0:=hd 0 (by kernel_rfl) (by decide)
     have hK':=hK
     simp only [updV,Nat.reduceEqDiff,↓reduceIte] at hK'
     clear hK hd
     generalize sq 0=x0,sq 1=x1,sq 2=x2,sq 3=x3,sq 4=x4,sq 5=x5,sq 6=x6,sq 7=x7,sq 8=x8,sq 9=x9,sq 10=x10,sq 11=x11,sq 12=x12,sq 13=x13,sq 14=x14,sq 15=x15 at *
     obtain rfl:=d0
     go_simp
     exact hK' _ _ (Below.refl _ _) hJ rfl
    ·cases (show some _=some oq from hoq)
     have d1:=hd 1 (by kernel_rfl) (by decide)
     have hK':=hK
     simp only [updV,Nat.reduceEqDiff,↓reduceIte] at hK'
     clear hK hd
     generalize sq 0=x0,sq 1=x1,sq 2=x2,sq 3=x3,sq 4=x4,sq 5=x5,sq 6=x6,sq 7=x7,sq 8=x8,sq 9=x9,sq 10=x10,sq 11=x11,sq 12=x12,sq 13=x13,sq 14=x14,sq 15=x15 at *
     obtain rfl:=d1
     have hcc:=((bcell hJ).1 _ _ hl1).trans Q1.out
     go_simp
     exact hK' _ _ (Below.refl _ _) hJ rfl
    ·cases (show some _=some oq from hoq)
     have hK':=hK
     simp only [updV,Nat.reduceEqDiff,↓reduceIte] at hK'
     clear hK hd
     generalize sq 0=x0,sq 1=x1,sq 2=x2,sq 3=x3,sq 4=x4,sq 5=x5,sq 6=x6,sq 7=x7,sq 8=x8,sq 9=x9,sq 10=x10,sq 11=x11,sq 12=x12,sq 13=x13,sq 14=x14,sq 15=x15 at *
     go_simp
     exact hK' _ _ (Below.refl _ _) hJ rfl
    ·cases (show some _=some oq from hoq)
     have d3:=hd 3 (by kernel_rfl) (by decide)
     have hK':=hK
     simp only [updV,Nat.reduceEqDiff,↓reduceIte] at hK'
     clear hK hd
     generalize sq 0=x0,sq 1=x1,sq 2=x2,sq 3=x3,sq 4=x4,sq 5=x5,sq 6=x6,sq 7=x7,sq 8=x8,sq 9=x9,sq 10=x10,sq 11=x11,sq 12=x12,sq 13=x13,sq 14=x14,sq 15=x15 at *
     obtain rfl:=d3
     go_simp
     exact hK' _ _ (Below.refl _ _) hJ rfl
    ·cases (show some _=some oq from hoq)
     have d4:=hd 4 (by kernel_rfl) (by decide)
     have hK':=hK
     simp only [updV,Nat.reduceEqDiff,↓reduceIte] at hK'
     clear hK hd
     generalize sq 0=x0,sq 1=x1,sq 2=x2,sq 3=x3,sq 4=x4,sq 5=x5,sq 6=x6,sq 7=x7,sq 8=x8,sq 9=x9,sq 10=x10,sq 11=x11,sq 12=x12,sq 13=x13,sq 14=x14,sq 15=x15 at *
     obtain rfl:=d4
     have hcc:=((bcell hJ).1 _ _ hl1).trans Q2.out
     go_simp
     exact hK' _ _ (Below.refl _ _) hJ rfl
    ·cases (show some _=some oq from hoq)
     have hK':=hK
     simp only [updV,Nat.reduceEqDiff,↓reduceIte] at hK'
     clear hK hd
     generalize sq 0=x0,sq 1=x1,sq 2=x2,sq 3=x3,sq 4=x4,sq 5=x5,sq 6=x6,sq 7=x7,sq 8=x8,sq 9=x9,sq 10=x10,sq 11=x11,sq 12=x12,sq 13=x13,sq 14=x14,sq 15=x15 at *
     go_simp
     exact hK' _ _ (Below.refl _ _) hJ rfl
    ·cases (show some _=some oq from hoq)
     have d6:=hd 6 (by kernel_rfl) (by decide)
     have hK':=hK
     simp only [updV,Nat.reduceEqDiff,↓reduceIte] at hK'
     clear hK hd
     generalize sq 0=x0,sq 1=x1,sq 2=x2,sq 3=x3,sq 4=x4,sq 5=x5,sq 6=x6,sq 7=x7,sq 8=x8,sq 9=x9,sq 10=x10,sq 11=x11,sq 12=x12,sq 13=x13,sq 14=x14,sq 15=x15 at *
     obtain rfl:=d6
     go_simp
     exact hK' _ _ (Below.refl _ _) hJ rfl
    ·cases (show some _=some oq from hoq)
     have d7:=hd 7 (by kernel_rfl) (by decide)
     have hK':=hK
     simp only [updV,Nat.reduceEqDiff,↓reduceIte] at hK'
     clear hK hd
     generalize sq 0=x0,sq 1=x1,sq 2=x2,sq 3=x3,sq 4=x4,sq 5=x5,sq 6=x6,sq 7=x7,sq 8=x8,sq 9=x9,sq 10=x10,sq 11=x11,sq 12=x12,sq 13=x13,sq 14=x14,sq 15=x15 at *
     obtain rfl:=d7
     have hcc:=((bcell hJ).1 _ _ hl1).trans Q3.out
     go_simp
     exact hK' _ _ (Below.refl _ _) hJ rfl
    ·cases (show some _=some oq from hoq)
     have hK':=hK
     simp only [updV,Nat.reduceEqDiff,↓reduceIte] at hK'
     clear hK hd
     generalize sq 0=x0,sq 1=x1,sq 2=x2,sq 3=x3,sq 4=x4,sq 5=x5,sq 6=x6,sq 7=x7,sq 8=x8,sq 9=x9,sq 10=x10,sq 11=x11,sq 12=x12,sq 13=x13,sq 14=x14,sq 15=x15 at *
     go_simp
     exact hK' _ _ (Below.refl _ _) hJ rfl
    ·cases (show some _=some oq from hoq)
     have hK':=hK
     simp only [updV,Nat.reduceEqDiff,↓reduceIte] at hK'
     clear hK hd
     generalize sq 0=x0,sq 1=x1,sq 2=x2,sq 3=x3,sq 4=x4,sq 5=x5,sq 6=x6,sq 7=x7,sq 8=x8,sq 9=x9,sq 10=x10,sq 11=x11,sq 12=x12,sq 13=x13,sq 14=x14,sq 15=x15 at *
     go_simp
     exact hK' _ _ (Below.refl _ _) hJ rfl
    ·cases (show some _=some oq from hoq)
     have hK':=hK
     simp only [updV,Nat.reduceEqDiff,↓reduceIte] at hK'
     clear hK hd
     generalize sq 0=x0,sq 1=x1,sq 2=x2,sq 3=x3,sq 4=x4,sq 5=x5,sq 6=x6,sq 7=x7,sq 8=x8,sq 9=x9,sq 10=x10,sq 11=x11,sq 12=x12,sq 13=x13,sq 14=x14,sq 15=x15 at *
     go_simp
     exact hK' _ _ (Below.refl _ _) hJ rfl
    ·cases (show some _=some oq from hoq)
     have d11:=hd 11 (by kernel_rfl) (by decide)
     have hK':=hK
     simp only [updV,Nat.reduceEqDiff,↓reduceIte] at hK'
     clear hK hd
     generalize sq 0=x0,sq 1=x1,sq 2=x2,sq 3=x3,sq 4=x4,sq 5=x5,sq 6=x6,sq 7=x7,sq 8=x8,sq 9=x9,sq 10=x10,sq 11=x11,sq 12=x12,sq 13=x13,sq 14=x14,sq 15=x15 at *
     obtain rfl:=d11
     go_simp
     exact hK' _ _ (Below.refl _ _) hJ rfl
    ·cases (show some _=some oq from hoq)
     have d12:=hd 12 (by kernel_rfl) (by decide)
     have hK':=hK
     simp only [updV,Nat.reduceEqDiff,↓reduceIte] at hK'
     clear hK hd
     generalize sq 0=x0,sq 1=x1,sq 2=x2,sq 3=x3,sq 4=x4,sq 5=x5,sq 6=x6,sq 7=x7,sq 8=x8,sq 9=x9,sq 10=x10,sq 11=x11,sq 12=x12,sq 13=x13,sq 14=x14,sq 15=x15 at *
     obtain rfl:=d12
     have hcc:=((bcell hJ).1 _ _ hl4).trans Q4.out
     go_simp
     exact hK' _ _ (Below.refl _ _) hJ rfl
    ·cases (show some _=some oq from hoq)
     have d2:=hd 2 (by kernel_rfl) (by decide)
     have d5:=hd 5 (by kernel_rfl) (by decide)
     have d8:=hd 8 (by kernel_rfl) (by decide)
     have d9:=hd 9 (by kernel_rfl) (by decide)
     have d10:=hd 10 (by kernel_rfl) (by decide)
     have d13:=hd 13 (by kernel_rfl) (by decide)
     have hK':=hK
     simp only [updV,Nat.reduceEqDiff,↓reduceIte] at hK'
     clear hK hd
     generalize sq 0=x0,sq 1=x1,sq 2=x2,sq 3=x3,sq 4=x4,sq 5=x5,sq 6=x6,sq 7=x7,sq 8=x8,sq 9=x9,sq 10=x10,sq 11=x11,sq 12=x12,sq 13=x13,sq 14=x14,sq 15=x15 at *
     obtain rfl:=d2
     obtain rfl:=d5
     obtain rfl:=d8
     obtain rfl:=d9
     obtain rfl:=d10
     obtain rfl:=d13
     go_simp
     exact hK' _ _ (Below.refl _ _) hJ rfl
    ·cases (show some _=some oq from hoq)
     have hK':=hK
     simp only [updV,Nat.reduceEqDiff,↓reduceIte] at hK'
     clear hK hd
     generalize sq 0=x0,sq 1=x1,sq 2=x2,sq 3=x3,sq 4=x4,sq 5=x5,sq 6=x6,sq 7=x7,sq 8=x8,sq 9=x9,sq 10=x10,sq 11=x11,sq 12=x12,sq 13=x13,sq 14=x14,sq 15=x15 at *
     go_simp
     exact hK' _ _ (ba (Below.refl _ _)) (hJ.alloc hJ.size _) ⟨_,rfl,hJ.size,Blk.new _ _ _⟩
   ·intro sq w' hJ hφ
    simp only [List.drop_succ_cons,List.drop_zero]
    have d14:=hφ 14 (by decide)
    have d15:=hφ 15 (by decide)
    clear hφ
    generalize sq 0=x0,sq 1=x1,sq 2=x2,sq 3=x3,sq 4=x4,sq 5=x5,sq 6=x6,sq 7=x7,sq 8=x8,sq 9=x9,sq 10=x10,sq 11=x11,sq 12=x12,sq 13=x13,sq 14=x14,sq 15=x15 at *
    obtain rfl:=d14
    obtain ⟨o,rfl,ho1,hbo⟩:=d15
    have KO:=Lib.hid hbo
    replace KR:=Lib.hid (KR.out.next hJ)
    replace HOI:=Lib.hid (Ow.next HOI.out hJ)
    replace HO3:=Lib.hid (Ow.next HO3.out hJ)
    have hko:w.heap.size<o:=Nat.lt_of_lt_of_le HKW.out ho1
    replace HBE:=Lib.hid (below_next HBE.out hJ)
    clear hbo hJ Q1 Q2 Q3 Q4
    have co:=fun o=>KO.out.cell o
    have fo:=fun o=>KO.out.frozen o
    have zo:=KO.out.lt
    go_upto_region 14 with (fail)
    refine into_world (fun W=>Only o w' W∧Blk W o 35 (repC ⟨v1,v2,v3,pi,z3,v4⟩ ⟨Ai,np,ci⟩ ⟨A3,n3,c3⟩)) ⟨?_,?_⟩ ?_
    ·exact (((((((Only.refl o w').set_ (p:=⟨o,0,none⟩) (.inl rfl) _).set_ (p:=⟨o,1,none⟩) (.inl rfl) _).set_ (p:=⟨o,2,none⟩) (.inl rfl) _).set_ (p:=⟨o,3,none⟩) (.inl rfl) _).set_ (p:=⟨o,4,none⟩) (.inl rfl) _).set_ (p:=⟨o,5,none⟩) (.inl rfl) _)
    ·exact Blk.all6 KO.out (.int .i64 v1) (.int .i64 v2) (.int .i64 v3) (.slice Ai np ci) (.slice A3 n3 c3) (.int .i64 v4)
    rintro W ⟨ho,hko2⟩
    replace HOI:=Lib.hid (HOI.out.onlyT KO.out (by decide) ho)
    replace HO3:=Lib.hid (HO3.out.onlyT KO.out (by decide) ho)
    replace KR:=Lib.hid (KR.out.only ho (by omega))
    replace HBE:=Lib.hid (HBE.out.trans (ho.below (by omega) HBE.out.size))
    replace KO:=Lib.hid hko2
    clear co fo zo ho hko2
    have HFR:=Lib.hid (show readGo (z1,true) (z2,true) (z3,true) (z4,true)=(⟨v1,v2,v3,pi,z3,v4⟩,po && repOk ⟨v1,v2,v3,pi,z3,v4⟩) by rw [HF.out];simp only [readR,HMB.out,HPR.out,HA1.out,HA2.out,HA3.out,HA4.out])
    have HRD0:=Lib.hid (show RdR W ⟨v1,v2,v3,pi,z3,v4⟩ ⟨Ai,np,ci⟩ ⟨A3,n3,c3⟩ from ⟨Ow.rd encIn_len (by decide) HOI.out,HO3.out.rdI,⟨hle4,by simp only;omega⟩,hle3,hnb3⟩)
    cases po
    ·refine wp_region_grow 7 (by kernel_rfl) (by kernel_rfl) (by kernel_rfl) (fun a b=>Only w.heap.size a b∧(Blk a w.heap.size 35 (repC ⟨v1,v2,v3,pi,z3,v4⟩ ⟨Ai,np,ci⟩ ⟨A3,n3,c3⟩)→Blk b w.heap.size 35 (repC ⟨v1,v2,v3,pi,z3,v4⟩ ⟨Ai,np,ci⟩ ⟨A3,n3,c3⟩))) (fun mq w'=>Only w.heap.size W w'∧(∃ a0 a1 a2 a3 a4 a5,Blk w' w.heap.size 35 #[a0,a1,a2,a3,a4,a5])) (fun iq v w'=>match iq with|0=>(v=repV ⟨v1,v2,v3,pi,z3,v4⟩ ⟨Ai,np,ci⟩ ⟨A3,n3,c3⟩)|1=>(v=.bool false)|2=>(v=.bool false)|3=>(v=undef)|4=>(v=undef)|5=>(v=.bool false)|6=>(Blk w' w.heap.size 35 (repC ⟨v1,v2,v3,pi,z3,v4⟩ ⟨Ai,np,ci⟩ ⟨A3,n3,c3⟩))|_=>True) (fun sq=>{ tmps:=#[Value.slice (some (⟨b,off,none⟩:Addr)) n c,undef,Value.pointer (some (⟨w.heap.size,0,none⟩:Addr)),Value.bool false,Value.slice (some (⟨b1,o1,none⟩:Addr)) n1 c1,Value.bool true,Value.slice A2 n2 c2,Value.bool true,Value.slice A3 n3 c3,Value.bool true,Value.slice (some (⟨b4,o4,none⟩:Addr)) n4 c4,Value.bool true,Value.slice A' k c',Value.int .i64 (K2:Int),Value.slice Ai np ci,Value.bool false,Value.pointer (some (⟨o,0,none⟩:Addr)),Value.tuple #[Value.slice (some (⟨b1,o1,none⟩:Addr)) n1 c1,Value.bool true],Value.slice (some (⟨b,off,none⟩:Addr)) n c,Value.pointer (some (⟨b,off,none⟩:Addr)),Value.string L0,Value.tuple #[Value.slice (some (⟨b1,o1,none⟩:Addr)) n1 c1,Value.bool true],Value.slice (some (⟨b1,o1,none⟩:Addr)) n1 c1,Value.bool true,Value.tuple #[Value.slice A2 n2 c2,Value.bool true],Value.slice (some (⟨b,off,none⟩:Addr)) n c,Value.pointer (some (⟨b,off+1,none⟩:Addr)),Value.string L1,Value.tuple #[Value.slice A2 n2 c2,Value.bool true],Value.slice A2 n2 c2,Value.bool true,Value.tuple #[Value.slice A3 n3 c3,Value.bool true],Value.slice (some (⟨b,off,none⟩:Addr)) n c,Value.pointer (some (⟨b,off+2,none⟩:Addr)),Value.string L2,Value.tuple #[Value.slice A3 n3 c3,Value.bool true],Value.slice A3 n3 c3,Value.bool true,Value.tuple #[Value.slice (some (⟨b4,o4,none⟩:Addr)) n4 c4,Value.bool true],Value.slice (some (⟨b,off,none⟩:Addr)) n c,Value.pointer (some (⟨b,off+3,none⟩:Addr)),Value.string L3,Value.tuple #[Value.slice (some (⟨b4,o4,none⟩:Addr)) n4 c4,Value.bool true],Value.slice (some (⟨b4,o4,none⟩:Addr)) n4 c4,Value.bool true,Value.bool true,Value.bool false,Value.bool false,Value.bool true,Value.bool false,Value.bool false,Value.bool false,Value.bool true,Value.bool false,Value.bool false,Value.bool false,Value.bool true,Value.bool false,Value.bool false,Value.bool false,Value.slice (some (⟨b1,o1,none⟩:Addr)) n1 c1,Value.int .i64 3,Value.bool false,Value.bool false,Value.bool false,Value.slice A2 n2 c2,Value.int .i64 (n2:Int),Value.int .i64 0,Value.bool false,Value.bool false,Value.bool false,Value.slice (some (⟨b4,o4,none⟩:Addr)) n4 c4,Value.int .i64 1,Value.bool false,Value.bool false,undef,Value.slice (some (⟨w4.heap.size,0,none⟩:Addr)) 0 0,Value.int .i64 (K2:Int),Value.slice A2 n2 c2,Value.int .i64 (n2:Int),Value.bool false,u81,u82,u83,u84,u85,u86,u87,u88,u89,u90,u91,u92,u93,u94,u95,Value.tuple #[Value.slice Ai np ci,Value.bool false],Value.slice A' k c',Value.tuple #[Value.slice Ai np ci,Value.bool false],Value.slice Ai np ci,Value.bool false,x0,x1,x2,x3,x4,x5,x6,x7,x8,x9,x10,x11,x12,x13,Value.agg #[Value.int .i64 v1,Value.int .i64 v2,Value.int .i64 v3,Value.slice Ai np ci,Value.slice A3 n3 c3,Value.int .i64 v4],sq 0,sq 1,sq 2,sq 3,sq 4,sq 5],defers:=[] }) (fun _=>undef) ?_ ?_ ?_ ?_
     ·rintro iq v a b hg h
      match iq,h with
      | 0,h=>exact h
      | 1,h=>exact h
      | 2,h=>exact h
      | 3,h=>exact h
      | 4,h=>exact h
      | 5,h=>exact h
      | 6,h=>exact hg.2 h
      | (kq+7),_=>exact trivial
     ·exact ⟨⟨rfl,rfl,rfl,Nat.le_refl _,fun _ _ _=>rfl⟩,_,_,_,_,_,_,KR.out⟩
     ·intro mq sq w' iq oq hmq hiq hoq hJ hd Kq hK
      have hiq':iq=0∨iq=1∨iq=2∨iq=3∨iq=4∨iq=5∨iq=6:=by omega
      rcases hiq' with rfl|rfl|rfl|rfl|rfl|rfl|rfl
      ·cases (show some _=some oq from hoq)
       have hK':=hK
       simp only [updV,Nat.reduceEqDiff,↓reduceIte] at hK'
       clear hK hd
       generalize sq 0=x0,sq 1=x1,sq 2=x2,sq 3=x3,sq 4=x4,sq 5=x5,sq 6=x6 at *
       have hcc:=fun q=>(KO.out.only hJ.1 (by omega)).cell q
       go_simp
       exact hK' _ _ ⟨Only.refl _ _,fun h=>h⟩ hJ rfl
      ·cases (show some _=some oq from hoq)
       have hK':=hK
       simp only [updV,Nat.reduceEqDiff,↓reduceIte] at hK'
       clear hK hd
       generalize sq 0=x0,sq 1=x1,sq 2=x2,sq 3=x3,sq 4=x4,sq 5=x5,sq 6=x6 at *
       go_simp
       exact hK' _ _ ⟨Only.refl _ _,fun h=>h⟩ hJ rfl
      ·cases (show some _=some oq from hoq)
       have d1:=hd 1 (by kernel_rfl) (by decide)
       have hK':=hK
       simp only [updV,Nat.reduceEqDiff,↓reduceIte] at hK'
       clear hK hd
       generalize sq 0=x0,sq 1=x1,sq 2=x2,sq 3=x3,sq 4=x4,sq 5=x5,sq 6=x6 at *
       obtain rfl:=d1
       go_simp
       exact hK' _ _ ⟨Only.refl _ _,fun h=>h⟩ hJ rfl
      ·cases (show some _=some oq from hoq)
       have d2:=hd 2 (by kernel_rfl) (by decide)
       have hK':=hK
       simp only [updV,Nat.reduceEqDiff,↓reduceIte] at hK'
       clear hK hd
       generalize sq 0=x0,sq 1=x1,sq 2=x2,sq 3=x3,sq 4=x4,sq 5=x5,sq 6=x6 at *
       obtain rfl:=d2
       have hcc:=fun q=>(KO.out.only hJ.1 (by omega)).cell q
       go_simp
       exact hK' _ _ ⟨Only.refl _ _,fun h=>h⟩ hJ rfl
      ·cases (show some _=some oq from hoq)
       have d2:=hd 2 (by kernel_rfl) (by decide)
       have d3:=hd 3 (by kernel_rfl) (by decide)
       have hK':=hK
       simp only [updV,Nat.reduceEqDiff,↓reduceIte] at hK'
       clear hK hd
       generalize sq 0=x0,sq 1=x1,sq 2=x2,sq 3=x3,sq 4=x4,sq 5=x5,sq 6=x6 at *
       obtain rfl:=d2
       obtain rfl:=d3
       go_simp
       exact hK' _ _ ⟨Only.refl _ _,fun h=>h⟩ hJ rfl
      ·cases (show some _=some oq from hoq)
       have d2:=hd 2 (by kernel_rfl) (by decide)
       have d4:=hd 4 (by kernel_rfl) (by decide)
       have hK':=hK
       simp only [updV,Nat.reduceEqDiff,↓reduceIte] at hK'
       clear hK hd
       generalize sq 0=x0,sq 1=x1,sq 2=x2,sq 3=x3,sq 4=x4,sq 5=x5,sq 6=x6 at *
       obtain rfl:=d2
       obtain rfl:=d4
       go_simp
       exact hK' _ _ ⟨Only.refl _ _,fun h=>h⟩ hJ rfl
      ·cases (show some _=some oq from hoq)
       have d0:=hd 0 (by kernel_rfl) (by decide)
       have hK':=hK
       simp only [updV,Nat.reduceEqDiff,↓reduceIte] at hK'
       clear hK hd
       generalize sq 0=x0,sq 1=x1,sq 2=x2,sq 3=x3,sq 4=x4,sq 5=x5,sq 6=x6 at *
       obtain rfl:=d0
       obtain ⟨hJ1,a0,a1,a2,a3,a4,a5,hJ2⟩:=hJ
       have cn:=fun q=>hJ2.cell q
       have fn:=fun q=>hJ2.frozen q
       have hnew:=Blk.all6 hJ2 (.int .i64 v1) (.int .i64 v2) (.int .i64 v3) (.slice Ai np ci) (.slice A3 n3 c3) (.int .i64 v4)
       have hol:=(((((((Only.refl w.heap.size w').set_ (p:=⟨w.heap.size,0,none⟩) (.inl rfl) (.int .i64 v1)).set_ (p:=⟨w.heap.size,1,none⟩) (.inl rfl) (.int .i64 v2)).set_ (p:=⟨w.heap.size,2,none⟩) (.inl rfl) (.int .i64 v3)).set_ (p:=⟨w.heap.size,3,none⟩) (.inl rfl) (.slice Ai np ci)).set_ (p:=⟨w.heap.size,4,none⟩) (.inl rfl) (.slice A3 n3 c3)).set_ (p:=⟨w.heap.size,5,none⟩) (.inl rfl) (.int .i64 v4))
       go_simp
       exact hK' undef _ ⟨hol,fun _=>hnew⟩ ⟨hJ1.trans hol,_,_,_,_,_,_,hnew⟩ hnew
     ·intro sq w' hJ hφ
      simp only [List.drop_succ_cons,List.drop_zero]
      have d5:=hφ 5 (by decide)
      have d6:=hφ 6 (by decide)
      clear hφ
      generalize sq 0=x0,sq 1=x1,sq 2=x2,sq 3=x3,sq 4=x4,sq 5=x5,sq 6=x6 at *
      obtain rfl:=d5
      have KF:=Lib.hid d6
      have HJ1:=Lib.hid hJ.1
      clear hJ d6
      have cr:=fun o=>KF.out.cell o
      have fr:=fun o=>KF.out.frozen o
      have zr:=KF.out.lt
      go_wp2_with fail
      refine bodyPost_ret (v:=.tuple #[repV ⟨v1,v2,v3,pi,z3,v4⟩ ⟨Ai,np,ci⟩ ⟨A3,n3,c3⟩,.bool false]) (by simp [results,Tryz.results166,go_sem,cr]) rfl ?_
      unfold RepPost
      rw [HFR.out]
      exact ⟨⟨Ai,np,ci⟩,⟨A3,n3,c3⟩,rfl,⟨(HOI.out.onlyT KR.out (by decide) HJ1.out).mono (Nat.zero_le _),(HO3.out.onlyT KR.out (by decide) HJ1.out).mono (Nat.zero_le _),by simp only;omega,hnb3⟩,HBE.out.trans (HJ1.out.below (Nat.le_refl _) HBE.out.size)⟩
    ·have HC:=Lib.hid (fun (X:World) (hX:Only w.heap.size W X)=>specReplayValid_any ⟨v1,v2,v3,pi,z3,v4⟩ ⟨Ai,np,ci⟩ ⟨A3,n3,c3⟩ X ⟨Ow.rd encIn_len (by decide) (HOI.out.onlyT KR.out (by decide) hX),(HO3.out.onlyT KR.out (by decide) hX).rdI,⟨hle4,by simp only;omega⟩,hle3,hnb3⟩)
     refine wp_region_grow 7 (by kernel_rfl) (by kernel_rfl) (by kernel_rfl) (fun a b=>Only w.heap.size a b∧(Blk a w.heap.size 35 (repC ⟨v1,v2,v3,pi,z3,v4⟩ ⟨Ai,np,ci⟩ ⟨A3,n3,c3⟩)→Blk b w.heap.size 35 (repC ⟨v1,v2,v3,pi,z3,v4⟩ ⟨Ai,np,ci⟩ ⟨A3,n3,c3⟩))) (fun mq w'=>Only w.heap.size W w'∧(∃ a0 a1 a2 a3 a4 a5,Blk w' w.heap.size 35 #[a0,a1,a2,a3,a4,a5])) (fun iq v w'=>match iq with|0=>(v=repV ⟨v1,v2,v3,pi,z3,v4⟩ ⟨Ai,np,ci⟩ ⟨A3,n3,c3⟩)|1=>(v=.bool true)|2=>(v=.bool true)|3=>(v=repV ⟨v1,v2,v3,pi,z3,v4⟩ ⟨Ai,np,ci⟩ ⟨A3,n3,c3⟩)|4=>(v=.bool (repOk ⟨v1,v2,v3,pi,z3,v4⟩))|5=>(v=.bool (repOk ⟨v1,v2,v3,pi,z3,v4⟩))|6=>(Blk w' w.heap.size 35 (repC ⟨v1,v2,v3,pi,z3,v4⟩ ⟨Ai,np,ci⟩ ⟨A3,n3,c3⟩))|_=>True) (fun sq=>{ tmps:=#[Value.slice (some (⟨b,off,none⟩:Addr)) n c,undef,Value.pointer (some (⟨w.heap.size,0,none⟩:Addr)),Value.bool false,Value.slice (some (⟨b1,o1,none⟩:Addr)) n1 c1,Value.bool true,Value.slice A2 n2 c2,Value.bool true,Value.slice A3 n3 c3,Value.bool true,Value.slice (some (⟨b4,o4,none⟩:Addr)) n4 c4,Value.bool true,Value.slice A' k c',Value.int .i64 (K2:Int),Value.slice Ai np ci,Value.bool true,Value.pointer (some (⟨o,0,none⟩:Addr)),Value.tuple #[Value.slice (some (⟨b1,o1,none⟩:Addr)) n1 c1,Value.bool true],Value.slice (some (⟨b,off,none⟩:Addr)) n c,Value.pointer (some (⟨b,off,none⟩:Addr)),Value.string L0,Value.tuple #[Value.slice (some (⟨b1,o1,none⟩:Addr)) n1 c1,Value.bool true],Value.slice (some (⟨b1,o1,none⟩:Addr)) n1 c1,Value.bool true,Value.tuple #[Value.slice A2 n2 c2,Value.bool true],Value.slice (some (⟨b,off,none⟩:Addr)) n c,Value.pointer (some (⟨b,off+1,none⟩:Addr)),Value.string L1,Value.tuple #[Value.slice A2 n2 c2,Value.bool true],Value.slice A2 n2 c2,Value.bool true,Value.tuple #[Value.slice A3 n3 c3,Value.bool true],Value.slice (some (⟨b,off,none⟩:Addr)) n c,Value.pointer (some (⟨b,off+2,none⟩:Addr)),Value.string L2,Value.tuple #[Value.slice A3 n3 c3,Value.bool true],Value.slice A3 n3 c3,Value.bool true,Value.tuple #[Value.slice (some (⟨b4,o4,none⟩:Addr)) n4 c4,Value.bool true],Value.slice (some (⟨b,off,none⟩:Addr)) n c,Value.pointer (some (⟨b,off+3,none⟩:Addr)),Value.string L3,Value.tuple #[Value.slice (some (⟨b4,o4,none⟩:Addr)) n4 c4,Value.bool true],Value.slice (some (⟨b4,o4,none⟩:Addr)) n4 c4,Value.bool true,Value.bool true,Value.bool false,Value.bool false,Value.bool true,Value.bool false,Value.bool false,Value.bool false,Value.bool true,Value.bool false,Value.bool false,Value.bool false,Value.bool true,Value.bool false,Value.bool false,Value.bool false,Value.slice (some (⟨b1,o1,none⟩:Addr)) n1 c1,Value.int .i64 3,Value.bool false,Value.bool false,Value.bool false,Value.slice A2 n2 c2,Value.int .i64 (n2:Int),Value.int .i64 0,Value.bool false,Value.bool false,Value.bool false,Value.slice (some (⟨b4,o4,none⟩:Addr)) n4 c4,Value.int .i64 1,Value.bool false,Value.bool false,undef,Value.slice (some (⟨w4.heap.size,0,none⟩:Addr)) 0 0,Value.int .i64 (K2:Int),Value.slice A2 n2 c2,Value.int .i64 (n2:Int),Value.bool false,u81,u82,u83,u84,u85,u86,u87,u88,u89,u90,u91,u92,u93,u94,u95,Value.tuple #[Value.slice Ai np ci,Value.bool true],Value.slice A' k c',Value.tuple #[Value.slice Ai np ci,Value.bool true],Value.slice Ai np ci,Value.bool true,x0,x1,x2,x3,x4,x5,x6,x7,x8,x9,x10,x11,x12,x13,Value.agg #[Value.int .i64 v1,Value.int .i64 v2,Value.int .i64 v3,Value.slice Ai np ci,Value.slice A3 n3 c3,Value.int .i64 v4],sq 0,sq 1,sq 2,sq 3,sq 4,sq 5],defers:=[] }) (fun _=>undef) ?_ ?_ ?_ ?_
     ·rintro iq v a b hg h
      match iq,h with
      | 0,h=>exact h
      | 1,h=>exact h
      | 2,h=>exact h
      | 3,h=>exact h
      | 4,h=>exact h
      | 5,h=>exact h
      | 6,h=>exact hg.2 h
      | (kq+7),_=>exact trivial
     ·exact ⟨⟨rfl,rfl,rfl,Nat.le_refl _,fun _ _ _=>rfl⟩,_,_,_,_,_,_,KR.out⟩
     ·intro mq sq w' iq oq hmq hiq hoq hJ hd Kq hK
      have hiq':iq=0∨iq=1∨iq=2∨iq=3∨iq=4∨iq=5∨iq=6:=by omega
      rcases hiq' with rfl|rfl|rfl|rfl|rfl|rfl|rfl
      ·cases (show some _=some oq from hoq)
       have hK':=hK
       simp only [updV,Nat.reduceEqDiff,↓reduceIte] at hK'
       clear hK hd
       generalize sq 0=x0,sq 1=x1,sq 2=x2,sq 3=x3,sq 4=x4,sq 5=x5,sq 6=x6 at *
       have hcc:=fun q=>(KO.out.only hJ.1 (by omega)).cell q
       go_simp
       exact hK' _ _ ⟨Only.refl _ _,fun h=>h⟩ hJ rfl
      ·cases (show some _=some oq from hoq)
       have hK':=hK
       simp only [updV,Nat.reduceEqDiff,↓reduceIte] at hK'
       clear hK hd
       generalize sq 0=x0,sq 1=x1,sq 2=x2,sq 3=x3,sq 4=x4,sq 5=x5,sq 6=x6 at *
       go_simp
       exact hK' _ _ ⟨Only.refl _ _,fun h=>h⟩ hJ rfl
      ·cases (show some _=some oq from hoq)
       have d1:=hd 1 (by kernel_rfl) (by decide)
       have hK':=hK
       simp only [updV,Nat.reduceEqDiff,↓reduceIte] at hK'
       clear hK hd
       generalize sq 0=x0,sq 1=x1,sq 2=x2,sq 3=x3,sq 4=x4,sq 5=x5,sq 6=x6 at *
       obtain rfl:=d1
       go_simp
       exact hK' _ _ ⟨Only.refl _ _,fun h=>h⟩ hJ rfl
      ·cases (show some _=some oq from hoq)
       have d2:=hd 2 (by kernel_rfl) (by decide)
       have hK':=hK
       simp only [updV,Nat.reduceEqDiff,↓reduceIte] at hK'
       clear hK hd
       generalize sq 0=x0,sq 1=x1,sq 2=x2,sq 3=x3,sq 4=x4,sq 5=x5,sq 6=x6 at *
       obtain rfl:=d2
       have hcc:=fun q=>(KO.out.only hJ.1 (by omega)).cell q
       go_simp
       exact hK' _ _ ⟨Only.refl _ _,fun h=>h⟩ hJ rfl
      ·cases (show some _=some oq from hoq)
       have d2:=hd 2 (by kernel_rfl) (by decide)
       have d3:=hd 3 (by kernel_rfl) (by decide)
       have hK':=hK
       simp only [updV,Nat.reduceEqDiff,↓reduceIte] at hK'
       clear hK hd
       generalize sq 0=x0,sq 1=x1,sq 2=x2,sq 3=x3,sq 4=x4,sq 5=x5,sq 6=x6 at *
       obtain rfl:=d2
       obtain rfl:=d3
       go_simp
       exact (HC.out _ hJ.1).mono (fun e w2 he=>by obtain ⟨rfl,hb⟩:=he;obtain ⟨hJ1,a0,a1,a2,a3,a4,a5,hJ2⟩:=hJ;exact hK' _ _ ⟨Only.of_below hb _,fun h=>h.next hb⟩ ⟨hJ1.next hb,_,_,_,_,_,_,hJ2.next hb⟩ rfl)
      ·cases (show some _=some oq from hoq)
       have d2:=hd 2 (by kernel_rfl) (by decide)
       have d4:=hd 4 (by kernel_rfl) (by decide)
       have hK':=hK
       simp only [updV,Nat.reduceEqDiff,↓reduceIte] at hK'
       clear hK hd
       generalize sq 0=x0,sq 1=x1,sq 2=x2,sq 3=x3,sq 4=x4,sq 5=x5,sq 6=x6 at *
       obtain rfl:=d2
       obtain rfl:=d4
       go_simp
       exact hK' _ _ ⟨Only.refl _ _,fun h=>h⟩ hJ rfl
      ·cases (show some _=some oq from hoq)
       have d0:=hd 0 (by kernel_rfl) (by decide)
       have hK':=hK
       simp only [updV,Nat.reduceEqDiff,↓reduceIte] at hK'
       clear hK hd
       generalize sq 0=x0,sq 1=x1,sq 2=x2,sq 3=x3,sq 4=x4,sq 5=x5,sq 6=x6 at *
       obtain rfl:=d0
       obtain ⟨hJ1,a0,a1,a2,a3,a4,a5,hJ2⟩:=hJ
       have cn:=fun q=>hJ2.cell q
       have fn:=fun q=>hJ2.frozen q
       have hnew:=Blk.all6 hJ2 (.int .i64 v1) (.int .i64 v2) (.int .i64 v3) (.slice Ai np ci) (.slice A3 n3 c3) (.int .i64 v4)
       have hol:=(((((((Only.refl w.heap.size w').set_ (p:=⟨w.heap.size,0,none⟩) (.inl rfl) (.int .i64 v1)).set_ (p:=⟨w.heap.size,1,none⟩) (.inl rfl) (.int .i64 v2)).set_ (p:=⟨w.heap.size,2,none⟩) (.inl rfl) (.int .i64 v3)).set_ (p:=⟨w.heap.size,3,none⟩) (.inl rfl) (.slice Ai np ci)).set_ (p:=⟨w.heap.size,4,none⟩) (.inl rfl) (.slice A3 n3 c3)).set_ (p:=⟨w.heap.size,5,none⟩) (.inl rfl) (.int .i64 v4))
       go_simp
       exact hK' undef _ ⟨hol,fun _=>hnew⟩ ⟨hJ1.trans hol,_,_,_,_,_,_,hnew⟩ hnew
     ·intro sq w' hJ hφ
      simp only [List.drop_succ_cons,List.drop_zero]
      have d5:=hφ 5 (by decide)
      have d6:=hφ 6 (by decide)
      clear hφ
      generalize sq 0=x0,sq 1=x1,sq 2=x2,sq 3=x3,sq 4=x4,sq 5=x5,sq 6=x6 at *
      obtain rfl:=d5
      have KF:=Lib.hid d6
      have HJ1:=Lib.hid hJ.1
      clear hJ d6
      have cr:=fun o=>KF.out.cell o
      have fr:=fun o=>KF.out.frozen o
      have zr:=KF.out.lt
      go_wp2_with fail
      refine bodyPost_ret (v:=.tuple #[repV ⟨v1,v2,v3,pi,z3,v4⟩ ⟨Ai,np,ci⟩ ⟨A3,n3,c3⟩,.bool (repOk ⟨v1,v2,v3,pi,z3,v4⟩)]) (by simp [results,Tryz.results166,go_sem,cr]) rfl ?_
      unfold RepPost
      rw [HFR.out]
      exact ⟨⟨Ai,np,ci⟩,⟨A3,n3,c3⟩,rfl,⟨(HOI.out.onlyT KR.out (by decide) HJ1.out).mono (Nat.zero_le _),(HO3.out.onlyT KR.out (by decide) HJ1.out).mono (Nat.zero_le _),by simp only;omega,hnb3⟩,HBE.out.trans (HJ1.out.below (Nat.le_refl _) HBE.out.size)⟩
end Go.Proofs.YtkgfmgajhgfgjaaGreatDoor

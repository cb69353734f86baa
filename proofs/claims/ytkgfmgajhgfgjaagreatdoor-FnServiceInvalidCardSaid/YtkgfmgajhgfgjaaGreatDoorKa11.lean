/-
  Lemmas and contracts: Ed. No condition.
-/
import Derived.Test.YtkgfmgajhgfgjaaGreatDoorKa10
set_option linter.unusedSimpArgs false
set_option linter.unusedVariables false
set_option linter.unusedSectionVars false
namespace Go.Proofs.YtkgfmgajhgfgjaaGreatDoor
open Go.RowKit Go.Sort
theorem code_bd {x:Inp} (h:inOk x=true):0≤codeW x∧codeW x≤9:=by
 have hb:=inOk_bd h
 unfold codeW
 split
 ·omega
 ·have e1:wrap64 (3 * x.p)=3 * x.p:=by unfold wrap64;omega
  have e2:wrap64 (3 * x.p+x.s)=3 * x.p+x.s:=by unfold wrap64;omega
  have e3:wrap64 (3 * x.p+x.s+1)=3 * x.p+x.s+1:=by unfold wrap64;omega
  rw [e1,e2,e3]
  omega
theorem parts_bd:∀ (xs:List Inp),(∀ x ∈ xs,inOk x=true)→xs.length≤1048576→∀ e ∈ partsW xs,0≤e.1∧e.1≤9∧1≤e.2∧e.2≤xs.length:=by
 intro xs hx hl
 have key:∀ k,k≤xs.length→∀ e ∈ partsW (xs.take k),0≤e.1∧e.1≤9∧1≤e.2∧e.2≤(k:Int):=by
  intro k
  induction k with
  | zero=>intro _ e he;simp [partsW] at he
  | succ k ih =>
   intro hk e he
   have hget:xs[k]?=some xs[k]:=List.getElem?_eq_getElem (by omega)
   have hc:=code_bd (hx _ (List.getElem_mem (show k<xs.length by omega)))
   rw [partsW_succ hget] at he
   have ih':=ih (by omega)
   generalize partsW (xs.take k)=ps at *
   unfold partStep at he
   have happ:e ∈ ps ++ [(codeW xs[k],1)]→0≤e.1∧e.1≤9∧1≤e.2∧e.2≤((k+1:Nat):Int):=by
    intro he
    rcases List.mem_append.1 he with h|h
    ·have:=ih' e h;omega
    ·rw [List.mem_singleton.1 h];simp only;omega
   split at he
   ·rename_i e0 he0
    split at he
    ·have h0:=ih' e0 (List.mem_of_getElem? he0)
     rcases List.mem_or_eq_of_mem_set he with h|h
     ·have:=ih' e h;omega
     ·rw [h]
      simp only [wrap64]
      omega
    ·exact happ he
   ·exact happ he
 have:=key xs.length (Nat.le_refl _)
 rw [List.take_length] at this
 exact this
def flatP (ps:List Ent):List Int:=ps.flatMap fun e=>[e.1,e.2]
theorem flatP_len (ps:List Ent):(flatP ps).length=2 * ps.length:=by
 induction ps with
 | nil=>rfl
 | cons e r ih=>simp [flatP] at ih ⊢;omega
theorem flatP_succ {ps:List Ent} {k:Nat} {e:Ent} (h:ps[k]?=some e):flatP (ps.take (k+1))=flatP (ps.take k) ++ [e.1,e.2]:=by
 rw [List.take_add_one,h]
 simp [flatP]
def sReplay:ByteArray:=⟨#[114,101,112,108,97,121]⟩
def sInputs:ByteArray:=⟨#[10,105,110,112,117,116,115]⟩
def sHashes:ByteArray:=⟨#[10,104,97,115,104,101,115]⟩
def sTag:ByteArray:=⟨#[10,116,97,103]⟩
def sEnd:ByteArray:=⟨#[10]⟩
def encW (r:Rep):ByteArray:=sReplay ++ numsW [r.lv,r.pl,r.sc] ++ sInputs ++ numsW (flatP (partsW r.ins)) ++ sHashes ++ numsW r.hs ++ sTag ++ numsW [r.tag] ++ sEnd
def Small (z:Int):Prop:=0≤z∧z≤9999999
set_option maxRecDepth 100000 in
set_option maxHeartbeats 4000000 in
theorem l23Encode_any (r:Rep) (si sh:Sl) (w:World) (hr:RdR w r si sh) (h1:Small r.lv) (h2:Small r.pl) (h3:Small r.sc) (h4:Small r.tag) (h5:∀ z ∈ r.hs,Small z) (h6:∀ x ∈ r.ins,inOk x=true) (h7:r.ins.length≤524288) :
  Calls Tryz.prog 168 #[repV r si sh] w fun e w'=>e=.returned (.string (encW r))∧Below w.heap.size w w':=by
 obtain ⟨i0,hi0,hy0,hy1,hy2⟩:=info_parts infoZ
 have HI:=Lib.hid hi0
 have HZ:=Lib.hid hy0
 have HS:=Lib.hid hy1
 have HBY:=Lib.hid hy2
 clear hi0 hy0 hy1 hy2
 obtain ⟨hi,hh,⟨_,hn1⟩,_,hn2⟩:=hr
 have HIN:=Lib.hid hi
 have HH:=Lib.hid hh
 have hm60:=Lib.hid (show r.ins.length≤524288 from h7)
 clear h7
 replace h1:=Lib.hid h1
 replace h2:=Lib.hid h2
 replace h3:=Lib.hid h3
 replace h4:=Lib.hid h4
 replace h5:=Lib.hid h5
 replace h6:=Lib.hid h6
 clear hi hh
 go_enter Tryz.func168,Tryz.ntmps168
 go_wp2_with fail
 refine (l23Parts_any si.a si.n si.c r.ins _ (HIN.out.below (ba (Below.refl _ _))) hn1).mono ?_
 rintro e w1 ⟨Ap,m,cp,rfl,hO,hm,hb⟩
 have KR:=Lib.hid ((Blk.new w 35 (repC r si sh)).next hb)
 have HB:=Lib.hid (ba hb)
 have HP:=Lib.hid hO.rdE
 have HPL:=Lib.hid (show (partsW r.ins).length=m from hO.rdE.len)
 have hz1:=hb.size
 simp only [World.size_alloc] at hz1
 clear hO hb
 go_wp2_with fail
 go_loopw [4,5] (fun out i wr=>∃ (k m2:Nat) (A':Option Addr) (c':Nat),k≤m∧m2=2 * k∧i=.int .i64 k∧out=.slice A' m2 c'∧Hid (Below w.heap.size w wr∧w1.heap.size≤wr.heap.size∧Blk wr w.heap.size 35 (repC r si sh)∧RdE wr Ap m (partsW r.ins)∧Ow w1.heap.size wr 3 1 A' m2 c' (cellsI (flatP ((partsW r.ins).take k))))) (fun _ i _=>m - (intOf i).toNat)
 case atStart=>exact ⟨0,0,_,0,Nat.zero_le _,rfl,rfl,rfl,HB.out.alloc HB.out.size _,by simp,KR.out.alloc _,HP.out.below (ba (Below.refl _ _)),Ow.bare _ _ _ _ _⟩
 case round =>
  obtain ⟨k,m2,A',c',hk,hm2,rfl,rfl,HQ⟩:=hrel
  obtain ⟨HB2,HWZ,KR2,HP2,HOW⟩:=HQ.out
  replace HB2:=Lib.hid HB2
  replace HWZ:=Lib.hid HWZ
  replace KR2:=Lib.hid KR2
  replace HP2:=Lib.hid HP2
  replace HOW:=Lib.hid HOW
  have HM2:=Lib.hid hm2
  have hmb:m2≤2097152:=by omega
  clear HQ hm2
  by_cases hlt:k<m
  ·obtain ⟨g,off,e,hA2,hg,he,hc1,hc2⟩:=HP2.out.at_ hlt
   subst hA2
   have hg1:g<w1.heap.size:=by
    obtain ⟨b',off',_,h1,h2,_⟩:=HP.out.at_ hlt
    injection h1 with h1
    injection h1 with h1
    rw [h1]
    exact h2
   have HFS:=Lib.hid (flatP_succ he)
   clear he
   go_upto_region 6 with (fail)
   have KRw:=KR2.out
   have hzr:=KRw.lt
   have hw1z:w1.heap.size≤wr.heap.size:=HWZ.out
   refine wp_region_grow 12 (by kernel_rfl) (by kernel_rfl) (by kernel_rfl) (fun a b=>Below a.heap.size a b) (fun mq w'=>Below wr.heap.size wr w') (fun iq v w'=>match iq with|0=>(v=.slice A' m2 c')|1=>(v=.slice (some ⟨g,off,none⟩) m cp)|2=>(v=.int .i64 (k:Int))|3=>(v=.pointer (some ⟨g,off+k * 2,none⟩))|4=>(v=.pointer (some ⟨g,off+k * 2,none⟩))|5=>(v=.int .i64 e.1)|6=>(v=.slice (some ⟨g,off,none⟩) m cp)|7=>(v=.int .i64 (k:Int))|8=>(v=.pointer (some ⟨g,off+k * 2,none⟩))|9=>(v=.pointer (some ⟨g,off+k * 2+1,none⟩))|10=>(v=.int .i64 e.2)|11=>(∃ g2,v=.slice (some ⟨g2,0,none⟩) 2 2∧wr.heap.size≤g2∧Blk w' g2 3 #[.int .i64 e.1,.int .i64 e.2])|_=>True) (fun sq=>{ tmps:=#[repV r si sh,.pointer (some ⟨w.heap.size,0,none⟩),.string { data:=#[] },.slice (some ⟨g,off,none⟩) m cp,.slice A' m2 c',.int .i64 (k:Int),.pointer (some ⟨w.heap.size,3,none⟩),.slice si.a si.n si.c,.slice (some ⟨g,off,none⟩) m cp,.slice (some ⟨w1.heap.size,0,none⟩) 0 0,.int .i64 (k:Int),.slice (some ⟨g,off,none⟩) m cp,.int .i64 (m:Int),.bool true,u14,u15,sq 0,sq 1,sq 2,sq 3,sq 4,sq 5,sq 6,sq 7,sq 8,sq 9,sq 10,sq 11,u28,undef,undef,undef,undef,undef,undef,undef,undef,undef,undef,undef,undef,undef,undef,undef,undef,undef,undef,undef,undef,undef,undef,undef,undef,undef],defers:=[] }) (fun j=>match j with|0=>u16|1=>u17|2=>u18|3=>u19|4=>u20|5=>u21|6=>u22|7=>u23|8=>u24|9=>u25|10=>u26|11=>u27|_=>undef) ?_ ?_ ?_ ?_
   ·rintro iq v a b hg h
    match iq,h with
    | 0,h=>exact h
    | 1,h=>exact h
    | 2,h=>exact h
    | 3,h=>exact h
    | 4,h=>exact h
    | 5,h=>exact h
    | 6,h=>exact h
    | 7,h=>exact h
    | 8,h=>exact h
    | 9,h=>exact h
    | 10,h=>exact h
    | 11,h=>exact (by obtain ⟨g2,rfl,h1,h2⟩:=h;exact ⟨g2,rfl,h1,h2.next hg⟩)
    | (kq+12),_=>exact trivial
   ·exact ⟨rfl,rfl,rfl,Nat.le_refl _,fun _ _=>rfl⟩
   ·intro mq sq w' iq oq hmq hiq hoq hJ hd Kq hK
    have hiq':iq=0∨iq=1∨iq=2∨iq=3∨iq=4∨iq=5∨iq=6∨iq=7∨iq=8∨iq=9∨iq=10∨iq=11:=by omega
    rcases hiq' with rfl|rfl|rfl|rfl|rfl|rfl|rfl|rfl|rfl|rfl|rfl|rfl
    ·cases (show some _=some oq from hoq)
     have hK':=hK
     simp only [updV,Nat.reduceEqDiff,↓reduceIte] at hK'
     clear hK hd
     generalize sq 0=x0,sq 1=x1,sq 2=x2,sq 3=x3,sq 4=x4,sq 5=x5,sq 6=x6,sq 7=x7,sq 8=x8,sq 9=x9,sq 10=x10,sq 11=x11 at *
     go_simp
     exact hK' _ _ (Below.refl _ _) hJ rfl
    ·cases (show some _=some oq from hoq)
     have hK':=hK
     simp only [updV,Nat.reduceEqDiff,↓reduceIte] at hK'
     clear hK hd
     generalize sq 0=x0,sq 1=x1,sq 2=x2,sq 3=x3,sq 4=x4,sq 5=x5,sq 6=x6,sq 7=x7,sq 8=x8,sq 9=x9,sq 10=x10,sq 11=x11 at *
     go_simp
     exact hK' _ _ (Below.refl _ _) hJ rfl
    ·cases (show some _=some oq from hoq)
     have hK':=hK
     simp only [updV,Nat.reduceEqDiff,↓reduceIte] at hK'
     clear hK hd
     generalize sq 0=x0,sq 1=x1,sq 2=x2,sq 3=x3,sq 4=x4,sq 5=x5,sq 6=x6,sq 7=x7,sq 8=x8,sq 9=x9,sq 10=x10,sq 11=x11 at *
     go_simp
     exact hK' _ _ (Below.refl _ _) hJ rfl
    ·cases (show some _=some oq from hoq)
     have d1:=hd 1 (by kernel_rfl) (by decide)
     have d2:=hd 2 (by kernel_rfl) (by decide)
     have hK':=hK
     simp only [updV,Nat.reduceEqDiff,↓reduceIte] at hK'
     clear hK hd
     generalize sq 0=x0,sq 1=x1,sq 2=x2,sq 3=x3,sq 4=x4,sq 5=x5,sq 6=x6,sq 7=x7,sq 8=x8,sq 9=x9,sq 10=x10,sq 11=x11 at *
     obtain rfl:=d1
     obtain rfl:=d2
     go_simp
     exact hK' _ _ (Below.refl _ _) hJ rfl
    ·cases (show some _=some oq from hoq)
     have d3:=hd 3 (by kernel_rfl) (by decide)
     have hK':=hK
     simp only [updV,Nat.reduceEqDiff,↓reduceIte] at hK'
     clear hK hd
     generalize sq 0=x0,sq 1=x1,sq 2=x2,sq 3=x3,sq 4=x4,sq 5=x5,sq 6=x6,sq 7=x7,sq 8=x8,sq 9=x9,sq 10=x10,sq 11=x11 at *
     obtain rfl:=d3
     go_simp
     exact hK' _ _ (Below.refl _ _) hJ rfl
    ·cases (show some _=some oq from hoq)
     have d4:=hd 4 (by kernel_rfl) (by decide)
     have hK':=hK
     simp only [updV,Nat.reduceEqDiff,↓reduceIte] at hK'
     clear hK hd
     generalize sq 0=x0,sq 1=x1,sq 2=x2,sq 3=x3,sq 4=x4,sq 5=x5,sq 6=x6,sq 7=x7,sq 8=x8,sq 9=x9,sq 10=x10,sq 11=x11 at *
     obtain rfl:=d4
     have hcc:=((bcell hJ).1 g _ hg).trans hc1
     go_simp
     exact hK' _ _ (Below.refl _ _) hJ rfl
    ·cases (show some _=some oq from hoq)
     have hK':=hK
     simp only [updV,Nat.reduceEqDiff,↓reduceIte] at hK'
     clear hK hd
     generalize sq 0=x0,sq 1=x1,sq 2=x2,sq 3=x3,sq 4=x4,sq 5=x5,sq 6=x6,sq 7=x7,sq 8=x8,sq 9=x9,sq 10=x10,sq 11=x11 at *
     go_simp
     exact hK' _ _ (Below.refl _ _) hJ rfl
    ·cases (show some _=some oq from hoq)
     have hK':=hK
     simp only [updV,Nat.reduceEqDiff,↓reduceIte] at hK'
     clear hK hd
     generalize sq 0=x0,sq 1=x1,sq 2=x2,sq 3=x3,sq 4=x4,sq 5=x5,sq 6=x6,sq 7=x7,sq 8=x8,sq 9=x9,sq 10=x10,sq 11=x11 at *
     go_simp
     exact hK' _ _ (Below.refl _ _) hJ rfl
    ·cases (show some _=some oq from hoq)
     have d6:=hd 6 (by kernel_rfl) (by decide)
     have d7:=hd 7 (by kernel_rfl) (by decide)
     have hK':=hK
     simp only [updV,Nat.reduceEqDiff,↓reduceIte] at hK'
     clear hK hd
     generalize sq 0=x0,sq 1=x1,sq 2=x2,sq 3=x3,sq 4=x4,sq 5=x5,sq 6=x6,sq 7=x7,sq 8=x8,sq 9=x9,sq 10=x10,sq 11=x11 at *
     obtain rfl:=d6
     obtain rfl:=d7
     go_simp
     exact hK' _ _ (Below.refl _ _) hJ rfl
    ·cases (show some _=some oq from hoq)
     have d8:=hd 8 (by kernel_rfl) (by decide)
     have hK':=hK
     simp only [updV,Nat.reduceEqDiff,↓reduceIte] at hK'
     clear hK hd
     generalize sq 0=x0,sq 1=x1,sq 2=x2,sq 3=x3,sq 4=x4,sq 5=x5,sq 6=x6,sq 7=x7,sq 8=x8,sq 9=x9,sq 10=x10,sq 11=x11 at *
     obtain rfl:=d8
     go_simp
     exact hK' _ _ (Below.refl _ _) hJ rfl
    ·cases (show some _=some oq from hoq)
     have d9:=hd 9 (by kernel_rfl) (by decide)
     have hK':=hK
     simp only [updV,Nat.reduceEqDiff,↓reduceIte] at hK'
     clear hK hd
     generalize sq 0=x0,sq 1=x1,sq 2=x2,sq 3=x3,sq 4=x4,sq 5=x5,sq 6=x6,sq 7=x7,sq 8=x8,sq 9=x9,sq 10=x10,sq 11=x11 at *
     obtain rfl:=d9
     have hcc:=((bcell hJ).1 g _ hg).trans hc2
     go_simp
     exact hK' _ _ (Below.refl _ _) hJ rfl
    ·cases (show some _=some oq from hoq)
     have d5:=hd 5 (by kernel_rfl) (by decide)
     have d10:=hd 10 (by kernel_rfl) (by decide)
     have hK':=hK
     simp only [updV,Nat.reduceEqDiff,↓reduceIte] at hK'
     clear hK hd
     generalize sq 0=x0,sq 1=x1,sq 2=x2,sq 3=x3,sq 4=x4,sq 5=x5,sq 6=x6,sq 7=x7,sq 8=x8,sq 9=x9,sq 10=x10,sq 11=x11 at *
     obtain rfl:=d5
     obtain rfl:=d10
     go_simp
     exact hK' _ _ (ba (Below.refl _ _)) (hJ.alloc hJ.size _) ⟨_,rfl,hJ.size,Blk.new _ _ _⟩
   ·intro sq w' hJ hφ
    simp only [List.drop_succ_cons,List.drop_zero]
    have d0:=hφ 0 (by decide)
    have d11:=hφ 11 (by decide)
    clear hφ
    generalize sq 0=x0,sq 1=x1,sq 2=x2,sq 3=x3,sq 4=x4,sq 5=x5,sq 6=x6,sq 7=x7,sq 8=x8,sq 9=x9,sq 10=x10,sq 11=x11 at *
    obtain rfl:=d0
    obtain ⟨g2,rfl,hg2,hb2⟩:=d11
    have hrow:=Ow.next HOW.out hJ
    have hsj:=hJ.size
    replace HB2:=Lib.hid (below_next HB2.out hJ)
    replace KR2:=Lib.hid (KR2.out.next hJ)
    replace HP2:=Lib.hid (HP2.out.below hJ)
    have hzk:=KR2.out.lt
    refine wpList_append_ow _ rfl (.tmp 16) (.tmp 27) _ rfl w1.heap.size 3 i0 _ 1 8 Tryz.underlying33 HI.out HZ.out HS.out HBY.out rfl (by omega) _ m2 c' _ rfl hrow _ 2 2 (cellsI [e.1,e.2]) rfl (Src.blk hb2 rfl) (cellsI_one _) (by unfold maxLen;omega) (by omega) (by omega) ?_
    intro A2 c2 w5 hown5 hg5 _
    have HO5:=Lib.hid hown5
    have HG5:=Lib.hid hg5
    have HROW:=Lib.hid hrow
    clear hown5 hg5 hrow hJ hb2 hc1 hc2
    have hbel:Below w1.heap.size w1 w1:=Below.refl _ _
    go_wp2_with fail
    have hfr:Frm w1.heap.size w'.heap.size w' w5:=Frm.of_own (OwI.of HROW.out) HG5.out
    refine ⟨⟨k+1,m2+2,A2,c2,by omega,by have:=HM2.out;omega,by go_num,rfl,?_,?_,?_,?_,?_⟩,by simp [intOf];omega⟩
    ·exact HROW.out.grown HG5.out HB2.out (by omega) (by omega)
    ·have:=HG5.out.size;omega
    ·exact KR2.out.frm hfr (.inl (by omega))
    ·refine HP2.out.keep hfr.size ?_
     intro ad had o
     injection had with had
     subst had
     exact hfr.cell (show g<w'.heap.size by omega) (.inl hg1) o
    ·rw [HFS.out]
     have:=HO5.out
     show Ow _ _ _ 1 _ _ _ (List.map (Value.int .i64) (_ ++ [e.1,e.2]))
     rw [List.map_append]
     exact this
  ·have hkm:k=m:=by omega
   subst hkm
   have HLI:=Lib.hid (show RdI .i64 wr A' m2 (flatP (partsW r.ins)) by
    have h1:=HOW.out.rdI
    rw [List.take_of_length_le (by rw [HPL.out];exact Nat.le_refl _)] at h1
    exact h1)
   have HHR:=Lib.hid (HH.out.below HB2.out)
   have hm2b:m2≤1048576:=by
    have h1:=HM2.out
    have h2:=hm60.out
    have h3:=HIN.out.len
    have h4:=hm
    omega
   have HN1:=Lib.hid (show ∀ z ∈ [r.lv,r.pl,r.sc],0≤z∧z≤9999999 by
    intro z hz
    simp at hz
    rcases hz with rfl|rfl|rfl
    ·exact h1.out
    ·exact h2.out
    ·exact h3.out)
   have HN4:=Lib.hid (show ∀ z ∈ [r.tag],0≤z∧z≤9999999 by
    intro z hz
    rw [List.mem_singleton.1 hz]
    exact h4.out)
   have HN2:=Lib.hid (show ∀ z ∈ flatP (partsW r.ins),0≤z∧z≤9999999 by
    intro z hz
    simp only [flatP,List.mem_flatMap] at hz
    obtain ⟨e,he,hz⟩:=hz
    have hlen:=HIN.out.len
    have:=parts_bd r.ins h6.out (by omega) e he
    simp at hz
    rcases hz with rfl|rfl <;> omega)
   have z1:=numsW_size HN1.out
   have z2:=numsW_size HN2.out
   have z3:=numsW_size h5.out
   have z4:=numsW_size HN4.out
   have hl2:(flatP (partsW r.ins)).length=m2:=HLI.out.len
   have hl3:=HH.out.len
   rw [hl2] at z2
   rw [hl3] at z3
   have HE:=Lib.hid (show encW r=sReplay ++ numsW [r.lv,r.pl,r.sc] ++ sInputs ++ numsW (flatP (partsW r.ins)) ++ sHashes ++ numsW r.hs ++ sTag ++ numsW [r.tag] ++ sEnd from rfl)
   obtain ⟨B1,e1⟩:∃ B,numsW [r.lv,r.pl,r.sc]=B:=⟨_,rfl⟩
   obtain ⟨B2,e2⟩:∃ B,numsW (flatP (partsW r.ins))=B:=⟨_,rfl⟩
   obtain ⟨B3,e3⟩:∃ B,numsW r.hs=B:=⟨_,rfl⟩
   obtain ⟨B4,e4⟩:∃ B,numsW [r.tag]=B:=⟨_,rfl⟩
   rw [e1,e2,e3,e4] at HE
   rw [e1] at z1
   rw [e2] at z2
   rw [e3] at z3
   rw [e4] at z4
   have EB1:=Lib.hid e1
   have EB2:=Lib.hid e2
   have EB3:=Lib.hid e3
   have EB4:=Lib.hid e4
   clear e1 e2 e3 e4 hl2 hl3
   simp only [List.length_cons,List.length_nil] at z1 z4
   have c0:(⟨#[114,101,112,108,97,121]⟩:ByteArray).size=6:=rfl
   have c1:(⟨#[10,105,110,112,117,116,115]⟩:ByteArray).size=7:=rfl
   have c2:(⟨#[10,104,97,115,104,101,115]⟩:ByteArray).size=7:=rfl
   have c3:(⟨#[10,116,97,103]⟩:ByteArray).size=4:=rfl
   have c4:(⟨#[10]⟩:ByteArray).size=1:=rfl
   obtain ⟨T1,t1⟩:∃ T,(⟨#[114,101,112,108,97,121]⟩:ByteArray) ++ B1=T:=⟨_,rfl⟩
   have y1:T1.size=(⟨#[114,101,112,108,97,121]⟩:ByteArray).size+B1.size:=by rw [← t1,ByteArray.size_append]
   have x1:¬ 9223372036854775807<(⟨#[114,101,112,108,97,121]⟩:ByteArray).size+B1.size:=by omega
   obtain ⟨T2,t2⟩:∃ T,T1 ++ (⟨#[10,105,110,112,117,116,115]⟩:ByteArray)=T:=⟨_,rfl⟩
   have y2:T2.size=T1.size+(⟨#[10,105,110,112,117,116,115]⟩:ByteArray).size:=by rw [← t2,ByteArray.size_append]
   have x2:¬ 9223372036854775807<T1.size+(⟨#[10,105,110,112,117,116,115]⟩:ByteArray).size:=by omega
   obtain ⟨T3,t3⟩:∃ T,T2 ++ B2=T:=⟨_,rfl⟩
   have y3:T3.size=T2.size+B2.size:=by rw [← t3,ByteArray.size_append]
   have x3:¬ 9223372036854775807<T2.size+B2.size:=by omega
   obtain ⟨T4,t4⟩:∃ T,T3 ++ (⟨#[10,104,97,115,104,101,115]⟩:ByteArray)=T:=⟨_,rfl⟩
   have y4:T4.size=T3.size+(⟨#[10,104,97,115,104,101,115]⟩:ByteArray).size:=by rw [← t4,ByteArray.size_append]
   have x4:¬ 9223372036854775807<T3.size+(⟨#[10,104,97,115,104,101,115]⟩:ByteArray).size:=by omega
   obtain ⟨T5,t5⟩:∃ T,T4 ++ B3=T:=⟨_,rfl⟩
   have y5:T5.size=T4.size+B3.size:=by rw [← t5,ByteArray.size_append]
   have x5:¬ 9223372036854775807<T4.size+B3.size:=by omega
   obtain ⟨T6,t6⟩:∃ T,T5 ++ (⟨#[10,116,97,103]⟩:ByteArray)=T:=⟨_,rfl⟩
   have y6:T6.size=T5.size+(⟨#[10,116,97,103]⟩:ByteArray).size:=by rw [← t6,ByteArray.size_append]
   have x6:¬ 9223372036854775807<T5.size+(⟨#[10,116,97,103]⟩:ByteArray).size:=by omega
   obtain ⟨T7,t7⟩:∃ T,T6 ++ B4=T:=⟨_,rfl⟩
   have y7:T7.size=T6.size+B4.size:=by rw [← t7,ByteArray.size_append]
   have x7:¬ 9223372036854775807<T6.size+B4.size:=by omega
   obtain ⟨T8,t8⟩:∃ T,T7 ++ (⟨#[10]⟩:ByteArray)=T:=⟨_,rfl⟩
   have y8:T8.size=T7.size+(⟨#[10]⟩:ByteArray).size:=by rw [← t8,ByteArray.size_append]
   have x8:¬ 9223372036854775807<T7.size+(⟨#[10]⟩:ByteArray).size:=by omega
   have x1':¬ 9223372036854775807<6+B1.size:=by omega
   have x2':¬ 9223372036854775807<T1.size+7:=by omega
   have x4':¬ 9223372036854775807<T3.size+7:=by omega
   have x6':¬ 9223372036854775807<T5.size+4:=by omega
   have x8':¬ 9223372036854775807<T7.size+1:=by omega
   clear c0 c1 c2 c3 c4 y1 y2 y3 y4 y5 y6 y7 y8 z1 z2 z3 z4
   replace HE:=Lib.hid (show encW r=T8 by
    rw [HE.out,← t8,← t7,← t6,← t5,← t4,← t3,← t2,← t1]
    rfl)
   go_upto_region 7 with (fail)
   refine wp_region_grow 25 (by kernel_rfl) (by kernel_rfl) (by kernel_rfl) (fun a b=>Below a.heap.size a b) (fun mq w'=>Below wr.heap.size wr w') (fun iq v w'=>match iq with|0=>(v=.pointer (some ⟨w.heap.size,0,none⟩))|1=>(v=.int .i64 r.lv)|2=>(v=.pointer (some ⟨w.heap.size,1,none⟩))|3=>(v=.int .i64 r.pl)|4=>(v=.pointer (some ⟨w.heap.size,2,none⟩))|5=>(v=.int .i64 r.sc)|6=>(∃ g2,v=.slice (some ⟨g2,0,none⟩) 3 3∧Blk w' g2 3 #[.int .i64 r.lv,.int .i64 r.pl,.int .i64 r.sc])|7=>(v=.string B1)|8=>(v=.string T1)|9=>(v=.string T2)|10=>(v=.slice A' m2 c')|11=>(v=.string B2)|12=>(v=.string T3)|13=>(v=.string T4)|14=>(v=.pointer (some ⟨w.heap.size,4,none⟩))|15=>(v=.slice sh.a sh.n sh.c)|16=>(v=.string B3)|17=>(v=.string T5)|18=>(v=.string T6)|19=>(v=.pointer (some ⟨w.heap.size,5,none⟩))|20=>(v=.int .i64 r.tag)|21=>(∃ g2,v=.slice (some ⟨g2,0,none⟩) 1 1∧Blk w' g2 3 #[.int .i64 r.tag])|22=>(v=.string B4)|23=>(v=.string T7)|24=>(v=.string T8)|_=>True) (fun sq=>{ tmps:=#[repV r si sh,.pointer (some ⟨w.heap.size,0,none⟩),.string { data:=#[] },.slice Ap k cp,.slice A' m2 c',.int .i64 (k:Int),.pointer (some ⟨w.heap.size,3,none⟩),.slice si.a si.n si.c,.slice Ap k cp,.slice (some ⟨w1.heap.size,0,none⟩) 0 0,.int .i64 (k:Int),.slice Ap k cp,.int .i64 (k:Int),.bool false,u14,u15,u16,u17,u18,u19,u20,u21,u22,u23,u24,u25,u26,u27,u28,sq 0,sq 1,sq 2,sq 3,sq 4,sq 5,sq 6,sq 7,sq 8,sq 9,sq 10,sq 11,sq 12,sq 13,sq 14,sq 15,sq 16,sq 17,sq 18,sq 19,sq 20,sq 21,sq 22,sq 23,sq 24],defers:=[] }) (fun _=>undef) ?_ ?_ ?_ ?_
   ·rintro iq v a b hg h
    match iq,h with
    | 0,h=>exact h
    | 1,h=>exact h
    | 2,h=>exact h
    | 3,h=>exact h
    | 4,h=>exact h
    | 5,h=>exact h
    | 6,h=>exact (by obtain ⟨g2,rfl,h2⟩:=h;exact ⟨g2,rfl,h2.next hg⟩)
    | 7,h=>exact h
    | 8,h=>exact h
    | 9,h=>exact h
    | 10,h=>exact h
    | 11,h=>exact h
    | 12,h=>exact h
    | 13,h=>exact h
    | 14,h=>exact h
    | 15,h=>exact h
    | 16,h=>exact h
    | 17,h=>exact h
    | 18,h=>exact h
    | 19,h=>exact h
    | 20,h=>exact h
    | 21,h=>exact (by obtain ⟨g2,rfl,h2⟩:=h;exact ⟨g2,rfl,h2.next hg⟩)
    | 22,h=>exact h
    | 23,h=>exact h
    | 24,h=>exact h
    | (kq+25),_=>exact trivial
   ·exact ⟨rfl,rfl,rfl,Nat.le_refl _,fun _ _=>rfl⟩
   ·intro mq sq w' iq oq hmq hiq hoq hJ hd Kq hK
    have hiq':iq=0∨iq=1∨iq=2∨iq=3∨iq=4∨iq=5∨iq=6∨iq=7∨iq=8∨iq=9∨iq=10∨iq=11∨iq=12∨iq=13∨iq=14∨iq=15∨iq=16∨iq=17∨iq=18∨iq=19∨iq=20∨iq=21∨iq=22∨iq=23∨iq=24:=by omega
    rcases hiq' with rfl|rfl|rfl|rfl|rfl|rfl|rfl|rfl|rfl|rfl|rfl|rfl|rfl|rfl|rfl|rfl|rfl|rfl|rfl|rfl|rfl|rfl|rfl|rfl|rfl
    ·cases (show some _=some oq from hoq)
     have hK':=hK
     simp only [updV,Nat.reduceEqDiff,↓reduceIte] at hK'
     clear hK hd
     generalize sq 0=x0,sq 1=x1,sq 2=x2,sq 3=x3,sq 4=x4,sq 5=x5,sq 6=x6,sq 7=x7,sq 8=x8,sq 9=x9,sq 10=x10,sq 11=x11,sq 12=x12,sq 13=x13,sq 14=x14,sq 15=x15,sq 16=x16,sq 17=x17,sq 18=x18,sq 19=x19,sq 20=x20,sq 21=x21,sq 22=x22,sq 23=x23,sq 24=x24 at *
     go_simp
     exact hK' _ _ (Below.refl _ _) hJ rfl
    ·cases (show some _=some oq from hoq)
     have d0:=hd 0 (by kernel_rfl) (by decide)
     have hK':=hK
     simp only [updV,Nat.reduceEqDiff,↓reduceIte] at hK'
     clear hK hd
     generalize sq 0=x0,sq 1=x1,sq 2=x2,sq 3=x3,sq 4=x4,sq 5=x5,sq 6=x6,sq 7=x7,sq 8=x8,sq 9=x9,sq 10=x10,sq 11=x11,sq 12=x12,sq 13=x13,sq 14=x14,sq 15=x15,sq 16=x16,sq 17=x17,sq 18=x18,sq 19=x19,sq 20=x20,sq 21=x21,sq 22=x22,sq 23=x23,sq 24=x24 at *
     obtain rfl:=d0
     have hcc:=(KR2.out.next hJ).cell 0
     go_simp
     exact hK' _ _ (Below.refl _ _) hJ rfl
    ·cases (show some _=some oq from hoq)
     have hK':=hK
     simp only [updV,Nat.reduceEqDiff,↓reduceIte] at hK'
     clear hK hd
     generalize sq 0=x0,sq 1=x1,sq 2=x2,sq 3=x3,sq 4=x4,sq 5=x5,sq 6=x6,sq 7=x7,sq 8=x8,sq 9=x9,sq 10=x10,sq 11=x11,sq 12=x12,sq 13=x13,sq 14=x14,sq 15=x15,sq 16=x16,sq 17=x17,sq 18=x18,sq 19=x19,sq 20=x20,sq 21=x21,sq 22=x22,sq 23=x23,sq 24=x24 at *
     go_simp
     exact hK' _ _ (Below.refl _ _) hJ rfl
    ·cases (show some _=some oq from hoq)
     have d2:=hd 2 (by kernel_rfl) (by decide)
     have hK':=hK
     simp only [updV,Nat.reduceEqDiff,↓reduceIte] at hK'
     clear hK hd
     generalize sq 0=x0,sq 1=x1,sq 2=x2,sq 3=x3,sq 4=x4,sq 5=x5,sq 6=x6,sq 7=x7,sq 8=x8,sq 9=x9,sq 10=x10,sq 11=x11,sq 12=x12,sq 13=x13,sq 14=x14,sq 15=x15,sq 16=x16,sq 17=x17,sq 18=x18,sq 19=x19,sq 20=x20,sq 21=x21,sq 22=x22,sq 23=x23,sq 24=x24 at *
     obtain rfl:=d2
     have hcc:=(KR2.out.next hJ).cell 1
     go_simp
     exact hK' _ _ (Below.refl _ _) hJ rfl
    ·cases (show some _=some oq from hoq)
     have hK':=hK
     simp only [updV,Nat.reduceEqDiff,↓reduceIte] at hK'
     clear hK hd
     generalize sq 0=x0,sq 1=x1,sq 2=x2,sq 3=x3,sq 4=x4,sq 5=x5,sq 6=x6,sq 7=x7,sq 8=x8,sq 9=x9,sq 10=x10,sq 11=x11,sq 12=x12,sq 13=x13,sq 14=x14,sq 15=x15,sq 16=x16,sq 17=x17,sq 18=x18,sq 19=x19,sq 20=x20,sq 21=x21,sq 22=x22,sq 23=x23,sq 24=x24 at *
     go_simp
     exact hK' _ _ (Below.refl _ _) hJ rfl
    ·cases (show some _=some oq from hoq)
     have d4:=hd 4 (by kernel_rfl) (by decide)
     have hK':=hK
     simp only [updV,Nat.reduceEqDiff,↓reduceIte] at hK'
     clear hK hd
     generalize sq 0=x0,sq 1=x1,sq 2=x2,sq 3=x3,sq 4=x4,sq 5=x5,sq 6=x6,sq 7=x7,sq 8=x8,sq 9=x9,sq 10=x10,sq 11=x11,sq 12=x12,sq 13=x13,sq 14=x14,sq 15=x15,sq 16=x16,sq 17=x17,sq 18=x18,sq 19=x19,sq 20=x20,sq 21=x21,sq 22=x22,sq 23=x23,sq 24=x24 at *
     obtain rfl:=d4
     have hcc:=(KR2.out.next hJ).cell 2
     go_simp
     exact hK' _ _ (Below.refl _ _) hJ rfl
    ·cases (show some _=some oq from hoq)
     have d1:=hd 1 (by kernel_rfl) (by decide)
     have d3:=hd 3 (by kernel_rfl) (by decide)
     have d5:=hd 5 (by kernel_rfl) (by decide)
     have hK':=hK
     simp only [updV,Nat.reduceEqDiff,↓reduceIte] at hK'
     clear hK hd
     generalize sq 0=x0,sq 1=x1,sq 2=x2,sq 3=x3,sq 4=x4,sq 5=x5,sq 6=x6,sq 7=x7,sq 8=x8,sq 9=x9,sq 10=x10,sq 11=x11,sq 12=x12,sq 13=x13,sq 14=x14,sq 15=x15,sq 16=x16,sq 17=x17,sq 18=x18,sq 19=x19,sq 20=x20,sq 21=x21,sq 22=x22,sq 23=x23,sq 24=x24 at *
     obtain rfl:=d1
     obtain rfl:=d3
     obtain rfl:=d5
     go_simp
     exact hK' _ _ (ba (Below.refl _ _)) (hJ.alloc hJ.size _) ⟨_,rfl,Blk.new _ _ _⟩
    ·cases (show some _=some oq from hoq)
     have d6:=hd 6 (by kernel_rfl) (by decide)
     have hK':=hK
     simp only [updV,Nat.reduceEqDiff,↓reduceIte] at hK'
     clear hK hd
     generalize sq 0=x0,sq 1=x1,sq 2=x2,sq 3=x3,sq 4=x4,sq 5=x5,sq 6=x6,sq 7=x7,sq 8=x8,sq 9=x9,sq 10=x10,sq 11=x11,sq 12=x12,sq 13=x13,sq 14=x14,sq 15=x15,sq 16=x16,sq 17=x17,sq 18=x18,sq 19=x19,sq 20=x20,sq 21=x21,sq 22=x22,sq 23=x23,sq 24=x24 at *
     obtain ⟨g2,rfl,hg2⟩:=d6
     go_simp
     refine (l23Numbers_any (some ⟨g2,0,none⟩) 3 3 [r.lv,r.pl,r.sc] w' (RdI.blk hg2) (by omega) HN1.out).mono ?_
     rintro e w2 ⟨rfl,hb⟩
     rw [EB1.out]
     exact hK' _ _ hb (below_next hJ hb) rfl
    ·cases (show some _=some oq from hoq)
     have d7:=hd 7 (by kernel_rfl) (by decide)
     have hK':=hK
     simp only [updV,Nat.reduceEqDiff,↓reduceIte] at hK'
     clear hK hd
     generalize sq 0=x0,sq 1=x1,sq 2=x2,sq 3=x3,sq 4=x4,sq 5=x5,sq 6=x6,sq 7=x7,sq 8=x8,sq 9=x9,sq 10=x10,sq 11=x11,sq 12=x12,sq 13=x13,sq 14=x14,sq 15=x15,sq 16=x16,sq 17=x17,sq 18=x18,sq 19=x19,sq 20=x20,sq 21=x21,sq 22=x22,sq 23=x23,sq 24=x24 at *
     obtain rfl:=d7
     go_simp
     exact hK' _ _ (Below.refl _ _) hJ rfl
    ·cases (show some _=some oq from hoq)
     have d8:=hd 8 (by kernel_rfl) (by decide)
     have hK':=hK
     simp only [updV,Nat.reduceEqDiff,↓reduceIte] at hK'
     clear hK hd
     generalize sq 0=x0,sq 1=x1,sq 2=x2,sq 3=x3,sq 4=x4,sq 5=x5,sq 6=x6,sq 7=x7,sq 8=x8,sq 9=x9,sq 10=x10,sq 11=x11,sq 12=x12,sq 13=x13,sq 14=x14,sq 15=x15,sq 16=x16,sq 17=x17,sq 18=x18,sq 19=x19,sq 20=x20,sq 21=x21,sq 22=x22,sq 23=x23,sq 24=x24 at *
     obtain rfl:=d8
     go_simp
     exact hK' _ _ (Below.refl _ _) hJ rfl
    ·cases (show some _=some oq from hoq)
     have hK':=hK
     simp only [updV,Nat.reduceEqDiff,↓reduceIte] at hK'
     clear hK hd
     generalize sq 0=x0,sq 1=x1,sq 2=x2,sq 3=x3,sq 4=x4,sq 5=x5,sq 6=x6,sq 7=x7,sq 8=x8,sq 9=x9,sq 10=x10,sq 11=x11,sq 12=x12,sq 13=x13,sq 14=x14,sq 15=x15,sq 16=x16,sq 17=x17,sq 18=x18,sq 19=x19,sq 20=x20,sq 21=x21,sq 22=x22,sq 23=x23,sq 24=x24 at *
     go_simp
     exact hK' _ _ (Below.refl _ _) hJ rfl
    ·cases (show some _=some oq from hoq)
     have d10:=hd 10 (by kernel_rfl) (by decide)
     have hK':=hK
     simp only [updV,Nat.reduceEqDiff,↓reduceIte] at hK'
     clear hK hd
     generalize sq 0=x0,sq 1=x1,sq 2=x2,sq 3=x3,sq 4=x4,sq 5=x5,sq 6=x6,sq 7=x7,sq 8=x8,sq 9=x9,sq 10=x10,sq 11=x11,sq 12=x12,sq 13=x13,sq 14=x14,sq 15=x15,sq 16=x16,sq 17=x17,sq 18=x18,sq 19=x19,sq 20=x20,sq 21=x21,sq 22=x22,sq 23=x23,sq 24=x24 at *
     obtain rfl:=d10
     go_simp
     refine (l23Numbers_any A' m2 c' (flatP (partsW r.ins)) w' (RdI.below HLI.out hJ) (by omega) HN2.out).mono ?_
     rintro e w2 ⟨rfl,hb⟩
     rw [EB2.out]
     exact hK' _ _ hb (below_next hJ hb) rfl
    ·cases (show some _=some oq from hoq)
     have d9:=hd 9 (by kernel_rfl) (by decide)
     have d11:=hd 11 (by kernel_rfl) (by decide)
     have hK':=hK
     simp only [updV,Nat.reduceEqDiff,↓reduceIte] at hK'
     clear hK hd
     generalize sq 0=x0,sq 1=x1,sq 2=x2,sq 3=x3,sq 4=x4,sq 5=x5,sq 6=x6,sq 7=x7,sq 8=x8,sq 9=x9,sq 10=x10,sq 11=x11,sq 12=x12,sq 13=x13,sq 14=x14,sq 15=x15,sq 16=x16,sq 17=x17,sq 18=x18,sq 19=x19,sq 20=x20,sq 21=x21,sq 22=x22,sq 23=x23,sq 24=x24 at *
     obtain rfl:=d9
     obtain rfl:=d11
     go_simp
     exact hK' _ _ (Below.refl _ _) hJ rfl
    ·cases (show some _=some oq from hoq)
     have d12:=hd 12 (by kernel_rfl) (by decide)
     have hK':=hK
     simp only [updV,Nat.reduceEqDiff,↓reduceIte] at hK'
     clear hK hd
     generalize sq 0=x0,sq 1=x1,sq 2=x2,sq 3=x3,sq 4=x4,sq 5=x5,sq 6=x6,sq 7=x7,sq 8=x8,sq 9=x9,sq 10=x10,sq 11=x11,sq 12=x12,sq 13=x13,sq 14=x14,sq 15=x15,sq 16=x16,sq 17=x17,sq 18=x18,sq 19=x19,sq 20=x20,sq 21=x21,sq 22=x22,sq 23=x23,sq 24=x24 at *
     obtain rfl:=d12
     go_simp
     exact hK' _ _ (Below.refl _ _) hJ rfl
    ·cases (show some _=some oq from hoq)
     have hK':=hK
     simp only [updV,Nat.reduceEqDiff,↓reduceIte] at hK'
     clear hK hd
     generalize sq 0=x0,sq 1=x1,sq 2=x2,sq 3=x3,sq 4=x4,sq 5=x5,sq 6=x6,sq 7=x7,sq 8=x8,sq 9=x9,sq 10=x10,sq 11=x11,sq 12=x12,sq 13=x13,sq 14=x14,sq 15=x15,sq 16=x16,sq 17=x17,sq 18=x18,sq 19=x19,sq 20=x20,sq 21=x21,sq 22=x22,sq 23=x23,sq 24=x24 at *
     go_simp
     exact hK' _ _ (Below.refl _ _) hJ rfl
    ·cases (show some _=some oq from hoq)
     have d14:=hd 14 (by kernel_rfl) (by decide)
     have hK':=hK
     simp only [updV,Nat.reduceEqDiff,↓reduceIte] at hK'
     clear hK hd
     generalize sq 0=x0,sq 1=x1,sq 2=x2,sq 3=x3,sq 4=x4,sq 5=x5,sq 6=x6,sq 7=x7,sq 8=x8,sq 9=x9,sq 10=x10,sq 11=x11,sq 12=x12,sq 13=x13,sq 14=x14,sq 15=x15,sq 16=x16,sq 17=x17,sq 18=x18,sq 19=x19,sq 20=x20,sq 21=x21,sq 22=x22,sq 23=x23,sq 24=x24 at *
     obtain rfl:=d14
     have hcc:=(KR2.out.next hJ).cell 4
     go_simp
     exact hK' _ _ (Below.refl _ _) hJ rfl
    ·cases (show some _=some oq from hoq)
     have d15:=hd 15 (by kernel_rfl) (by decide)
     have hK':=hK
     simp only [updV,Nat.reduceEqDiff,↓reduceIte] at hK'
     clear hK hd
     generalize sq 0=x0,sq 1=x1,sq 2=x2,sq 3=x3,sq 4=x4,sq 5=x5,sq 6=x6,sq 7=x7,sq 8=x8,sq 9=x9,sq 10=x10,sq 11=x11,sq 12=x12,sq 13=x13,sq 14=x14,sq 15=x15,sq 16=x16,sq 17=x17,sq 18=x18,sq 19=x19,sq 20=x20,sq 21=x21,sq 22=x22,sq 23=x23,sq 24=x24 at *
     obtain rfl:=d15
     go_simp
     refine (l23Numbers_any sh.a sh.n sh.c r.hs w' (HHR.out.below hJ) (by omega) h5.out).mono ?_
     rintro e w2 ⟨rfl,hb⟩
     rw [EB3.out]
     exact hK' _ _ hb (below_next hJ hb) rfl
    ·cases (show some _=some oq from hoq)
     have d13:=hd 13 (by kernel_rfl) (by decide)
     have d16:=hd 16 (by kernel_rfl) (by decide)
     have hK':=hK
     simp only [updV,Nat.reduceEqDiff,↓reduceIte] at hK'
     clear hK hd
     generalize sq 0=x0,sq 1=x1,sq 2=x2,sq 3=x3,sq 4=x4,sq 5=x5,sq 6=x6,sq 7=x7,sq 8=x8,sq 9=x9,sq 10=x10,sq 11=x11,sq 12=x12,sq 13=x13,sq 14=x14,sq 15=x15,sq 16=x16,sq 17=x17,sq 18=x18,sq 19=x19,sq 20=x20,sq 21=x21,sq 22=x22,sq 23=x23,sq 24=x24 at *
     obtain rfl:=d13
     obtain rfl:=d16
     go_simp
     exact hK' _ _ (Below.refl _ _) hJ rfl
    ·cases (show some _=some oq from hoq)
     have d17:=hd 17 (by kernel_rfl) (by decide)
     have hK':=hK
     simp only [updV,Nat.reduceEqDiff,↓reduceIte] at hK'
     clear hK hd
     generalize sq 0=x0,sq 1=x1,sq 2=x2,sq 3=x3,sq 4=x4,sq 5=x5,sq 6=x6,sq 7=x7,sq 8=x8,sq 9=x9,sq 10=x10,sq 11=x11,sq 12=x12,sq 13=x13,sq 14=x14,sq 15=x15,sq 16=x16,sq 17=x17,sq 18=x18,sq 19=x19,sq 20=x20,sq 21=x21,sq 22=x22,sq 23=x23,sq 24=x24 at *
     obtain rfl:=d17
     go_simp
     exact hK' _ _ (Below.refl _ _) hJ rfl
    ·cases (show some _=some oq from hoq)
     have hK':=hK
     simp only [updV,Nat.reduceEqDiff,↓reduceIte] at hK'
     clear hK hd
     generalize sq 0=x0,sq 1=x1,sq 2=x2,sq 3=x3,sq 4=x4,sq 5=x5,sq 6=x6,sq 7=x7,sq 8=x8,sq 9=x9,sq 10=x10,sq 11=x11,sq 12=x12,sq 13=x13,sq 14=x14,sq 15=x15,sq 16=x16,sq 17=x17,sq 18=x18,sq 19=x19,sq 20=x20,sq 21=x21,sq 22=x22,sq 23=x23,sq 24=x24 at *
     go_simp
     exact hK' _ _ (Below.refl _ _) hJ rfl
    ·cases (show some _=some oq from hoq)
     have d19:=hd 19 (by kernel_rfl) (by decide)
     have hK':=hK
     simp only [updV,Nat.reduceEqDiff,↓reduceIte] at hK'
     clear hK hd
     generalize sq 0=x0,sq 1=x1,sq 2=x2,sq 3=x3,sq 4=x4,sq 5=x5,sq 6=x6,sq 7=x7,sq 8=x8,sq 9=x9,sq 10=x10,sq 11=x11,sq 12=x12,sq 13=x13,sq 14=x14,sq 15=x15,sq 16=x16,sq 17=x17,sq 18=x18,sq 19=x19,sq 20=x20,sq 21=x21,sq 22=x22,sq 23=x23,sq 24=x24 at *
     obtain rfl:=d19
     have hcc:=(KR2.out.next hJ).cell 5
     go_simp
     exact hK' _ _ (Below.refl _ _) hJ rfl
    ·cases (show some _=some oq from hoq)
     have d20:=hd 20 (by kernel_rfl) (by decide)
     have hK':=hK
     simp only [updV,Nat.reduceEqDiff,↓reduceIte] at hK'
     clear hK hd
     generalize sq 0=x0,sq 1=x1,sq 2=x2,sq 3=x3,sq 4=x4,sq 5=x5,sq 6=x6,sq 7=x7,sq 8=x8,sq 9=x9,sq 10=x10,sq 11=x11,sq 12=x12,sq 13=x13,sq 14=x14,sq 15=x15,sq 16=x16,sq 17=x17,sq 18=x18,sq 19=x19,sq 20=x20,sq 21=x21,sq 22=x22,sq 23=x23,sq 24=x24 at *
     obtain rfl:=d20
     go_simp
     exact hK' _ _ (ba (Below.refl _ _)) (hJ.alloc hJ.size _) ⟨_,rfl,Blk.new _ _ _⟩
    ·cases (show some _=some oq from hoq)
     have d21:=hd 21 (by kernel_rfl) (by decide)
     have hK':=hK
     simp only [updV,Nat.reduceEqDiff,↓reduceIte] at hK'
     clear hK hd
     generalize sq 0=x0,sq 1=x1,sq 2=x2,sq 3=x3,sq 4=x4,sq 5=x5,sq 6=x6,sq 7=x7,sq 8=x8,sq 9=x9,sq 10=x10,sq 11=x11,sq 12=x12,sq 13=x13,sq 14=x14,sq 15=x15,sq 16=x16,sq 17=x17,sq 18=x18,sq 19=x19,sq 20=x20,sq 21=x21,sq 22=x22,sq 23=x23,sq 24=x24 at *
     obtain ⟨g2,rfl,hg2⟩:=d21
     go_simp
     refine (l23Numbers_any (some ⟨g2,0,none⟩) 1 1 [r.tag] w' (RdI.blk hg2) (by omega) HN4.out).mono ?_
     rintro e w2 ⟨rfl,hb⟩
     rw [EB4.out]
     exact hK' _ _ hb (below_next hJ hb) rfl
    ·cases (show some _=some oq from hoq)
     have d18:=hd 18 (by kernel_rfl) (by decide)
     have d22:=hd 22 (by kernel_rfl) (by decide)
     have hK':=hK
     simp only [updV,Nat.reduceEqDiff,↓reduceIte] at hK'
     clear hK hd
     generalize sq 0=x0,sq 1=x1,sq 2=x2,sq 3=x3,sq 4=x4,sq 5=x5,sq 6=x6,sq 7=x7,sq 8=x8,sq 9=x9,sq 10=x10,sq 11=x11,sq 12=x12,sq 13=x13,sq 14=x14,sq 15=x15,sq 16=x16,sq 17=x17,sq 18=x18,sq 19=x19,sq 20=x20,sq 21=x21,sq 22=x22,sq 23=x23,sq 24=x24 at *
     obtain rfl:=d18
     obtain rfl:=d22
     go_simp
     exact hK' _ _ (Below.refl _ _) hJ rfl
    ·cases (show some _=some oq from hoq)
     have d23:=hd 23 (by kernel_rfl) (by decide)
     have hK':=hK
     simp only [updV,Nat.reduceEqDiff,↓reduceIte] at hK'
     clear hK hd
     generalize sq 0=x0,sq 1=x1,sq 2=x2,sq 3=x3,sq 4=x4,sq 5=x5,sq 6=x6,sq 7=x7,sq 8=x8,sq 9=x9,sq 10=x10,sq 11=x11,sq 12=x12,sq 13=x13,sq 14=x14,sq 15=x15,sq 16=x16,sq 17=x17,sq 18=x18,sq 19=x19,sq 20=x20,sq 21=x21,sq 22=x22,sq 23=x23,sq 24=x24 at *
     obtain rfl:=d23
     go_simp
     exact hK' _ _ (Below.refl _ _) hJ rfl
   ·intro sq w' hJ hφ
    simp only [List.drop_succ_cons,List.drop_zero]
    have d24:=hφ 24 (by decide)
    clear hφ
    generalize sq 0=x0,sq 1=x1,sq 2=x2,sq 3=x3,sq 4=x4,sq 5=x5,sq 6=x6,sq 7=x7,sq 8=x8,sq 9=x9,sq 10=x10,sq 11=x11,sq 12=x12,sq 13=x13,sq 14=x14,sq 15=x15,sq 16=x16,sq 17=x17,sq 18=x18,sq 19=x19,sq 20=x20,sq 21=x21,sq 22=x22,sq 23=x23,sq 24=x24 at *
    obtain rfl:=d24
    have hb:=HB2.out.trans (hJ.mono (show w.heap.size≤wr.heap.size from HB2.out.size))
    have HBF:=Lib.hid hb
    clear hJ hb
    go_wp2_with fail
    go_ret
    exact ⟨by rw [HE.out];rfl,HBF.out⟩
theorem repOk_facts {r:Rep} (h:repOk r=true):(0≤r.lv∧r.lv≤99)∧(0≤r.pl∧r.pl≤9)∧(0≤r.sc∧r.sc≤60)∧(0≤r.tag∧r.tag≤1000002)∧(∀ z ∈ r.hs,0≤z∧z≤1000002)∧(∀ x ∈ r.ins,inOk x=true)∧r.ins.length≤60∧r.hs.length=r.ins.length / 5:=by
 simp only [repOk,insOk,Bool.and_eq_true,List.all_eq_true,decide_eq_true_eq,inR,hashOk] at h
 obtain ⟨⟨⟨⟨⟨⟨h1,h2⟩,h3⟩,h4⟩,h5,h6⟩,h7⟩,h8⟩:=h
 exact ⟨h2,h3,h4,h8,h1,h5,by omega,by omega⟩
def textW (r:Rep):ByteArray:=if repOk r then encW r else ByteArray.empty
set_option maxRecDepth 100000 in
set_option maxHeartbeats 1000000 in
theorem specReplayEncode_any (r:Rep) (si sh:Sl) (w:World) (hr:RdR w r si sh) :
  Calls Tryz.prog 90 #[repV r si sh] w fun e w'=>e=.returned (.string (textW r))∧Below w.heap.size w w':=by
 have HR:=Lib.hid hr
 clear hr
 go_enter Tryz.func90,Tryz.ntmps90
 go_wp2_with fail
 refine (specReplayValid_any r si sh _ (HR.out.below (ba (Below.refl _ _)))).mono ?_
 rintro e w1 ⟨rfl,hb⟩
 have KR:=Lib.hid ((Blk.new w 35 (repC r si sh)).next hb)
 have HB:=Lib.hid (ba hb)
 clear hb
 cases ho:repOk r
 ·have HO:=Lib.hid (show textW r=ByteArray.empty by simp [textW,ho])
  clear ho
  go_wp2_with fail
  go_ret
  exact ⟨by rw [HO.out];rfl,HB.out⟩
 ·have HO:=Lib.hid (show textW r=encW r by simp [textW,ho])
  have HF:=Lib.hid (repOk_facts ho)
  clear ho
  have cr:=fun o=>KR.out.cell o
  have fr:=fun o=>KR.out.frozen o
  have zr:=KR.out.lt
  go_wp2_with fail
  obtain ⟨f1,f2,f3,f4,f5,f6,f7,f8⟩:=HF.out
  refine (l23Encode_any r si sh _ (HR.out.below HB.out) ⟨f1.1,by omega⟩ ⟨f2.1,by omega⟩ ⟨f3.1,by omega⟩ ⟨f4.1,by omega⟩ (fun z hz=>by have:=f5 z hz;exact ⟨this.1,by omega⟩) f6 (by omega)).mono ?_
  rintro e w2 ⟨rfl,hb⟩
  replace HB:=Lib.hid (below_next HB.out hb)
  clear hb cr fr zr f1 f2 f3 f4 f5 f6 f7 f8
  go_wp2_with fail
  go_ret
  exact ⟨by rw [HO.out];rfl,HB.out⟩
end Go.Proofs.YtkgfmgajhgfgjaaGreatDoor

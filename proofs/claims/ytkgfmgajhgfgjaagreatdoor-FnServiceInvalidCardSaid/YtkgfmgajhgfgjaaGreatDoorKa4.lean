/-
  Lemmas and contracts: Bi Br Lk Bm Sv Ls E1. No condition.
-/
import Derived.StillTailTactics
import Derived.Test.YtkgfmgajhgfgjaaGreatDoorKa1
import Derived.Test.YtkgfmgajhgfgjaaGreatDoorKa3
set_option linter.unusedSimpArgs false
set_option linter.unusedVariables false
set_option linter.unusedSectionVars false
namespace Go.Proofs.YtkgfmgajhgfgjaaGreatDoor
open Go.RowKit Go.Sort
set_option maxHeartbeats 400000 in
theorem inRange_any (n lo hi:Int) (w:World) :
  Calls Tryz.prog 52 #[.int .i64 n,.int .i64 lo,.int .i64 hi] w fun e w'=>e=.returned (.bool (inR n lo hi))∧w=w':=by
 go_enter Tryz.func52,Tryz.ntmps52
 go_wp2
 all_goals go_ret
 all_goals exact ⟨ret_bool (by simp [inR];omega),rfl⟩
set_option maxHeartbeats 400000 in
theorem entryOk_any (x:Ent) (w:World) :
  Calls Tryz.prog 99 #[.agg #[.int .i64 x.1,.int .i64 x.2]] w fun e w'=>e=.returned (.bool (okE x))∧Below w.heap.size w w':=by
 go_enter Tryz.func99,Tryz.ntmps99
 go_wp2_with (first|(go_at_call 52;refine (inRange_any _ _ _ _).mono ?_;rintro e w' ⟨rfl,rfl⟩))
 all_goals go_ret
 all_goals exact ⟨ret_bool (by simp [okE, *]),(Below.refl _ _).alloc (Nat.le_refl _) _⟩
set_option maxHeartbeats 400000 in
theorem placeOf1_any (x:Ent) (p:Int) (g:Nat) (w:World) (hp:w.cell? ⟨g,0,none⟩=some (.int .i64 p)) :
  Calls Tryz.prog 179 #[.agg #[.int .i64 x.1,.int .i64 x.2],.pointer (some ⟨g,0,none⟩)] w fun e w'=>e=.returned (.bool (x.1 == p))∧Below w.heap.size w w':=by
 have hg:=World.block_lt_of_cell? _ _ hp
 simp at hg
 go_enter Tryz.func179,Tryz.ntmps179
 go_wp2
 go_ret
 exact ⟨rfl,(Below.refl _ _).alloc (Nat.le_refl _) _⟩
set_option maxHeartbeats 400000 in
theorem indexFuncE_any (A:Option Addr) (n c:Nat) (es:List Ent) (p:Int) (g:Nat) (w:World) (hr:RdE w A n es) (hp:w.cell? ⟨g,0,none⟩=some (.int .i64 p)) (hn:n≤1099511627776) :
  Calls Tryz.prog 157 #[.slice A n c,.func (.func 179) #[] #[.pointer (some ⟨g,0,none⟩)]] w fun e w'=>e=.returned (.int .i64 (findE p es 0))∧Below w.heap.size w w':=by
 have HR:=Lib.hid hr;clear hr
 have hg:=World.block_lt_of_cell? _ _ hp
 have HP:=Lib.hid hp;clear hp
 simp at hg
 go_enter Tryz.func157,Tryz.ntmps157
 go_wp2
 go_loopw [8] (fun i wr=>∃ k:Nat,k≤n∧i=.int .i64 k∧Hid (Below w.heap.size w wr∧findE p es 0=findE p (es.drop k) k)) (fun i _=>n - (intOf i).toNat)
 case atStart=>exact ⟨0,Nat.zero_le _,rfl,Below.refl _ _,rfl⟩
 case round =>
  obtain ⟨k,hk,rfl,HF⟩:=hrel
  by_cases hlt:k<n
  ·obtain ⟨b,off,e,rfl,hb,he,h0,h1⟩:=(HR.out.below HF.out.1).at_ hlt
   have HS:=Lib.hid (findE_step p es k e he)
   have hp1:=((bcell HF.out.1).1 g 0 hg).trans HP.out
   clear he
   have c1:=placeOf1_any e p g wr hp1
   clear hp1
   by_cases hp:e.1=p
   ·have hq:(e.1 == p)=true:=by simpa using hp
    rw [hq] at c1
    have C1:=Lib.hid c1
    have HP:=Lib.hid hp;clear hp c1 hq
    go_wp2_with (first|(go_at_call 179;refine C1.out.mono ?_;rintro e w' ⟨rfl,hb1⟩))
    go_ret
    exact ⟨ret_int (by rw [HF.out.2,HS.out,if_pos HP.out]),below_next HF.out.1 hb1⟩
   ·have hq:(e.1 == p)=false:=by simpa using hp
    rw [hq] at c1
    have C1:=Lib.hid c1
    have HP:=Lib.hid hp;clear hp c1 hq
    go_wp2_with (first|(go_at_call 179;refine C1.out.mono ?_;rintro e w' ⟨rfl,hb1⟩))
    exact ⟨⟨k+1,by omega,by go_num,below_next HF.out.1 hb1,by rw [HF.out.2,HS.out,if_neg HP.out]⟩,by simp [intOf];omega⟩
  ·go_wp2
   go_ret
   have:k=n:=by omega
   exact ⟨ret_int (by rw [HF.out.2,List.drop_of_length_le (by rw [HR.out.len];omega)];rfl),HF.out.1⟩
set_option maxHeartbeats 400000 in
theorem placeOf_any (A:Option Addr) (n c:Nat) (es:List Ent) (p:Int) (w:World) (hr:RdE w A n es) (hn:n≤1099511627776) :
  Calls Tryz.prog 100 #[.slice A n c,.int .i64 p] w fun e w'=>e=.returned (.int .i64 (findE p es 0))∧Below w.heap.size w w':=by
 have c1:=indexFuncE_any A n c es p w.heap.size (w.alloc (.cells #[.int .i64 p] 3)) (hr.below ((Below.refl _ _).alloc (Nat.le_refl _) _)) (by simp [go_sem]) hn
 have C1:=Lib.hid c1;clear c1 hr
 go_enter Tryz.func100,Tryz.ntmps100
 go_wp2_with (first|(go_at_call 157;refine C1.out.mono ?_;rintro e w' ⟨rfl,hb1⟩))
 go_ret
 exact ⟨rfl,below_next ((Below.refl _ _).alloc (Nat.le_refl _) _) hb1⟩
set_option maxHeartbeats 1000000 in
theorem implBoardValid_any (A:Option Addr) (n c:Nat) (es:List Ent) (w:World) (hr:RdE w A n es) (hn:n≤1099511627776) (hc:n≤c) :
  Calls Tryz.prog 81 #[.slice A n c] w fun e w'=>e=.returned (.bool (decide ((n:Int)≤4) && valliE es))∧Below w.heap.size w w':=by
 have HR:=Lib.hid hr;clear hr
 by_cases h4:n≤4
 ·have h4':¬ (4:Int)<n:=by omega
  go_enter Tryz.func81,Tryz.ntmps81
  go_wp2
  go_loopw [10] (fun i wr=>∃ k:Nat,k≤n∧i=.int .i64 k∧Hid (Below w.heap.size w wr∧∀ j,j<k→vriE es j=true)) (fun i _=>n - (intOf i).toNat)
  case atStart=>exact ⟨0,Nat.zero_le _,rfl,Below.refl _ _,fun j hj=>absurd hj (by omega)⟩
  case round =>
   obtain ⟨k,hk,rfl,HB⟩:=hrel
   by_cases hlt:k<n
   ·obtain ⟨b,off,e,hA,hb,he,h0,h1⟩:=(HR.out.below HB.out.1).at_ hlt
    have hrd:=HR.out.below HB.out.1
    have hv:vriE es k=(okE e && !(decide (0≤findE e.1 (es.take k) 0)) && !(decide (0<k) && decide (e.2<prevE es k))):=by simp [vriE,he]
    have hlen:=HR.out.len
    subst hA
    have HL:=Lib.hid hlen
    have HV:=Lib.hid hv
    have HRD:=Lib.hid hrd
    have hx0:∀ d os,(grow (redrawn (wr.alloc (.cells #[.int .i64 e.1,.int .i64 e.2] 55)) d) os).cell? ⟨wr.heap.size,0,none⟩=some (.int .i64 e.1):=fun d os=>cell_regrown (by simp [go_sem]) d os
    have hx1:∀ d os,(grow (redrawn (wr.alloc (.cells #[.int .i64 e.1,.int .i64 e.2] 55)) d) os).cell? ⟨wr.heap.size,1,none⟩=some (.int .i64 e.2):=fun d os=>cell_regrown (by simp [go_sem]) d os
    have hw1:Below wr.heap.size wr (wr.alloc (.cells #[.int .i64 e.1,.int .i64 e.2] 55)):=(Below.refl _ _).alloc (Nat.le_refl _) _
    have hrd1:=hrd.below hw1
    have HW1:=Lib.hid hw1
    have HRD:=Lib.hid hrd1
    have hkc:(k:Int)≤c:=by omega
    clear he hv hrd hlen hw1 hrd1
    cases hok:okE e with
    | false =>
     go_wp2
     refine wp_region_qb (by kernel_rfl) (by kernel_rfl) ?_
     repeat (go_big_quiet_step (first|(go_at_call 99;exact Calls.regrown_of (entryOk_any _ _))|(go_at_call 100;exact Calls.regrown_of (placeOf_any _ _ _ _ _ _ ((HRD.out.take (k:=k) (by omega)).below (below_regrown _ _ _)) (by omega)))))
     refine wpQuiet_nil ?_
     intro w1 hb1
     go_wp2
     go_ret
     exact ⟨ret_bool (by rw [valliE_false (k:=k) (by rw [HL.out];exact hlt) (by rw [HV.out,hok];rfl)]),below_next (below_next HB.out.1 HW1.out) hb1⟩
    | true =>
     by_cases hf:0≤findE e.1 (es.take k) 0
     ·go_wp2
      refine wp_region_qb (by kernel_rfl) (by kernel_rfl) ?_
      repeat (go_big_quiet_step (first|(go_at_call 99;exact Calls.regrown_of (entryOk_any _ _))|(go_at_call 100;exact Calls.regrown_of (placeOf_any _ _ _ _ _ _ ((HRD.out.take (k:=k) (by omega)).below (below_regrown _ _ _)) (by omega)))))
      refine wpQuiet_nil ?_
      intro w1 hb1
      go_wp2
      go_ret
      exact ⟨ret_bool (by rw [valliE_false (k:=k) (by rw [HL.out];exact hlt) (by rw [HV.out];simp [hok,hf])]),below_next (below_next HB.out.1 HW1.out) hb1⟩
     ·have hfb:decide (0≤findE e.1 (es.take k) 0)=false:=by simpa using hf
      by_cases hk0:0<k
      ·obtain ⟨b',off',e',hA',hb',he',h2,h3⟩:=HRD.out.at_ (k:=k - 1) (by omega)
       obtain ⟨rfl,rfl⟩:b=b'∧off=off':=by simpa using hA'
       have hpv:prevE es k=e'.2:=by simp [prevE,he']
       rw [hpv] at HV
       have h3':=fun d os=>cell_regrown h3 d os
       clear hA' hb' he' h2 h3 hpv
       by_cases hs:e.2<e'.2
       ·go_wp2
        refine wp_region_qb (by kernel_rfl) (by kernel_rfl) ?_
        repeat (go_big_quiet_step (first|(go_at_call 99;exact Calls.regrown_of (entryOk_any _ _))|(go_at_call 100;exact Calls.regrown_of (placeOf_any _ _ _ _ _ _ ((HRD.out.take (k:=k) (by omega)).below (below_regrown _ _ _)) (by omega)))))
        refine wpQuiet_nil ?_
        intro w1 hb1
        go_wp2
        go_ret
        exact ⟨ret_bool (by rw [valliE_false (k:=k) (by rw [HL.out];exact hlt) (by rw [HV.out];simp [hok,hfb,hk0,hs])]),below_next (below_next HB.out.1 HW1.out) hb1⟩
       ·have hsb:decide (e.2<e'.2)=false:=by simpa using hs
        go_wp2
        refine wp_region_qb (by kernel_rfl) (by kernel_rfl) ?_
        repeat (go_big_quiet_step (first|(go_at_call 99;exact Calls.regrown_of (entryOk_any _ _))|(go_at_call 100;exact Calls.regrown_of (placeOf_any _ _ _ _ _ _ ((HRD.out.take (k:=k) (by omega)).below (below_regrown _ _ _)) (by omega)))))
        refine wpQuiet_nil ?_
        intro w1 hb1
        go_wp2
        exact ⟨⟨k+1,by omega,by go_num,below_next (below_next HB.out.1 HW1.out) hb1,fun j hj=>by
         by_cases hjk:j=k
         ·subst hjk;rw [HV.out];simp [hok,hsb,hfb]
         ·exact HB.out.2 j (by omega)⟩,by simp [intOf];omega⟩
      ·go_wp2
       refine wp_region_qb (by kernel_rfl) (by kernel_rfl) ?_
       repeat (go_big_quiet_step (first|(go_at_call 99;exact Calls.regrown_of (entryOk_any _ _))|(go_at_call 100;exact Calls.regrown_of (placeOf_any _ _ _ _ _ _ ((HRD.out.take (k:=k) (by omega)).below (below_regrown _ _ _)) (by omega)))))
       refine wpQuiet_nil ?_
       intro w1 hb1
       go_wp2
       exact ⟨⟨k+1,by omega,by go_num,below_next (below_next HB.out.1 HW1.out) hb1,fun j hj=>by
        by_cases hjk:j=k
        ·subst hjk;rw [HV.out];simp [hok,hk0,hfb]
        ·exact HB.out.2 j (by omega)⟩,by simp [intOf];omega⟩
   ·go_wp2
    go_ret
    have hkn:k=n:=by omega
    exact ⟨ret_bool (by rw [valliE_true (fun j hj=>HB.out.2 j (by rw [HR.out.len] at hj;omega))];simp;omega),HB.out.1⟩
 ·have h4':(4:Int)<n:=by omega
  go_enter Tryz.func81,Tryz.ntmps81
  go_wp2
  go_ret
  exact ⟨ret_bool (by simp;omega),Below.refl _ _⟩
theorem implBoardValid_v (A:Option Addr) (n c:Nat) (es:List Ent) (w:World) (hr:RdE w A n es) (hn:n≤1099511627776) (hc:n≤c) :
  Calls Tryz.prog 81 #[.slice A n c] w fun e w'=>e=.returned (.bool (validE es))∧Below w.heap.size w w':=by
 have h:=implBoardValid_any A n c es w hr hn hc
 rw [show (decide ((n:Int)≤4) && valliE es)=validE es by rw [← hr.len];rfl] at h
 exact h
end Go.Proofs.YtkgfmgajhgfgjaaGreatDoor
namespace Go.Proofs.YtkgfmgajhgfgjaaGreatDoor
open Go.RowKit Go.Sort
theorem validE_len {es:List Ent} (h:validE es=true):es.length≤4:=by
 simp only [validE,Bool.and_eq_true,decide_eq_true_eq] at h
 omega
theorem validE_at {es:List Ent} (h:validE es=true) {k:Nat} (hk:k<es.length):vriE es k=true:=by
 simp only [validE,Bool.and_eq_true,valliE,List.all_eq_true] at h
 exact h.2 k (List.mem_range.2 hk)
theorem validE_ok {es:List Ent} (h:validE es=true) {k:Nat} {e:Ent} (he:es[k]?=some e):okE e=true:=by
 have h1:=validE_at h (List.getElem?_eq_some_iff.1 he).1
 simp only [vriE,he,Bool.and_eq_true] at h1
 exact h1.1.1
theorem okE_bd {e:Ent} (h:okE e=true):0≤e.1∧e.1≤9∧0≤e.2∧e.2≤60:=by
 simp only [okE,inR,Bool.and_eq_true,decide_eq_true_eq] at h
 omega
end Go.Proofs.YtkgfmgajhgfgjaaGreatDoor
namespace Go.Proofs.YtkgfmgajhgfgjaaGreatDoor
open Go.RowKit Go.Sort
theorem infoE:(Tryz.prog.info? 55).map (fun i=>(i.zero,i.size,i.bytes))=some (some (.agg #[.int .i64 0,.int .i64 0]),2,16):=by kernel_rfl
end Go.Proofs.YtkgfmgajhgfgjaaGreatDoor
namespace Go.Proofs.YtkgfmgajhgfgjaaGreatDoor
open Go.RowKit Go.Sort
abbrev OwE (B:Nat) (w:World) (A:Option Addr) (n c:Nat) (es:List Ent):Prop:=Ow B w 55 2 A n c (cellsE es)
def withoutE (p:Int) (es:List Ent):List Ent:=es.filter fun e=>e.1 != p
theorem withoutE_step (p:Int) (es:List Ent) (k:Nat) (e:Ent) (he:es[k]?=some e):withoutE p (es.take (k+1))=withoutE p (es.take k) ++ (if e.1 != p then [e] else []):=by
 rw [List.take_add_one,he,withoutE,List.filter_append]
 simp [withoutE,List.filter_cons]
theorem withoutE_len (p:Int) (es:List Ent) (k:Nat):(withoutE p (es.take k)).length≤k:=by
 unfold withoutE
 exact Nat.le_trans (List.length_filter_le _ _) (List.length_take_le _ _)
set_option maxHeartbeats 1000000 in
theorem l32Without_any (A:Option Addr) (n c:Nat) (es:List Ent) (p:Int) (w:World) (hr:RdE w A n es) (hn:n≤1099511627776) :
  Calls Tryz.prog 227 #[.slice A n c,.int .i64 p] w fun e w'=>∃ A' c',e=.returned (.slice A' (withoutE p es).length c')∧OwE w.heap.size w' A' (withoutE p es).length c' (withoutE p es)∧Below w.heap.size w w':=by
 have HR:=Lib.hid hr;clear hr
 obtain ⟨i0,hi0,hz0,hz1,hz2⟩:=info_parts infoE
 have HI:=Lib.hid hi0
 have HZ:=Lib.hid hz0
 have HS:=Lib.hid hz1
 have HBY:=Lib.hid hz2
 clear hi0 hz0 hz1 hz2
 go_enter Tryz.func227,Tryz.ntmps227
 go_wp2
 go_loopw [5,6] (fun o i wr=>∃ (k:Nat) (A':Option Addr) (c':Nat),k≤n∧i=.int .i64 k∧o=.slice A' (withoutE p (es.take k)).length c'∧Hid (Below w.heap.size w wr∧OwE w.heap.size wr A' (withoutE p (es.take k)).length c' (withoutE p (es.take k)))) (fun _ i _=>n - (intOf i).toNat)
 case atStart=>exact ⟨0,_,_,Nat.zero_le _,rfl,rfl,(Below.refl _ _).alloc (Nat.le_refl _) _,Ow.bare _ _ _ _ _⟩
 case round =>
  obtain ⟨k,A',c',hk,rfl,rfl,HB⟩:=hrel
  have hlw:=withoutE_len p es k
  by_cases hlt:k<n
  ·obtain ⟨b,off,e,rfl,hb,he,h0,h1⟩:=(HR.out.below HB.out.1).at_ hlt
   have HST:=Lib.hid (withoutE_step p es k e he)
   clear he
   by_cases hp:e.1=p
   ·have hq:(e.1 != p)=false:=by simpa using hp
    have HE:Hid (withoutE p (es.take (k+1))=withoutE p (es.take k)):=by
     show _=_
     rw [HST.out,hq];simp
    have HP:=Lib.hid hp;clear hp
    go_wp2
    exact ⟨⟨k+1,A',c',by omega,by go_num,by rw [HE.out],by rw [HE.out];exact HB.out⟩,by simp [intOf];omega⟩
   ·have hq:(e.1 != p)=true:=by simpa using hp
    have HE:Hid (withoutE p (es.take (k+1))=withoutE p (es.take k) ++ [e]):=by
     show _=_
     rw [HST.out,hq];simp
    have HP:=Lib.hid hp;clear hp
    have hsz:=HB.out.1.size
    go_wp2_with (at_builtin;refine wpList_append_ow _ rfl (.tmp 21) (.tmp 26) _ rfl w.heap.size 55 i0 _ 2 16 Tryz.underlying50 HI.out HZ.out HS.out HBY.out rfl (by omega) _ _ _ _ rfl (Ow.alloc HB.out.2 _) _ 1 1 (cellsE [e]) rfl (Src.blk (Blk.new _ _ _) rfl) (cellsE_one _) (by unfold maxLen;omega) (by omega) (by simp;omega) ?_;intro A2 c2 w2 hown2 hg2 _)
    have HO:=Lib.hid hown2
    have HG:=Lib.hid hg2
    clear hown2 hg2
    go_wp2
    have hb2:Below w.heap.size w w2:=(Ow.alloc HB.out.2 _).grown HG.out (HB.out.1.alloc hsz _) (Nat.le_refl _) (by simp;omega)
    refine ⟨⟨k+1,A2,c2,by omega,by go_num,by rw [HE.out];simp,hb2,?_⟩,by simp [intOf];omega⟩
    rw [HE.out]
    have:=HO.out
    rw [← cellsE_append] at this
    simpa [OwE] using this
  ·go_wp2
   go_ret
   have hkn:es.take k=es:=List.take_of_length_le (by rw [HR.out.len];omega)
   rw [hkn] at HB ⊢
   exact ⟨A',c',rfl,HB.out.2,HB.out.1⟩
set_option maxHeartbeats 1000000 in
theorem clone_any (A:Option Addr) (n c:Nat) (es:List Ent) (w:World) (hr:RdE w A n es) (hn:n≤1099511627776) :
  Calls Tryz.prog 75 #[.slice A n c] w fun e w'=>∃ A' c',e=.returned (.slice A' n c')∧OwE w.heap.size w' A' n c' es∧Below w.heap.size w w':=by
 have HR:=Lib.hid hr
 obtain ⟨i0,hi0,hz0,hz1,hz2⟩:=info_parts infoE
 have HI:=Lib.hid hi0
 have HZ:=Lib.hid hz0
 have HS:=Lib.hid hz1
 have HBY:=Lib.hid hz2
 clear hi0 hz0 hz1 hz2
 cases A with
 | none =>
  have hn0:n=0:=by
   rcases Nat.eq_zero_or_pos n with h|h
   ·exact h
   ·obtain ⟨_,_,h1,_⟩:=hr.2 h;cases h1
  subst hn0
  have hes:es=[]:=List.eq_nil_of_length_eq_zero hr.len
  subst hes
  have hq:=fun W=>Lib.run_eql_slice_nil (P:=Tryz.prog) W 50 55 none 0 c 0 0 Tryz.underlying50
  clear hr
  go_enter Tryz.func75,Tryz.ntmps75
  go_wp2
  go_ret
  exact ⟨none,0,rfl,Ow.bare _ _ _ _ _,Below.refl _ _⟩
 | some ad =>
  have hq:=fun W=>Lib.run_eql_slice_nil (P:=Tryz.prog) W 50 55 (some ad) n c 0 0 Tryz.underlying50
  clear hr
  have hb1:Below w.heap.size w (w.alloc (.cells #[] 55)):=(Below.refl _ _).alloc (Nat.le_refl _) _
  have HB:=Lib.hid hb1;clear hb1
  go_enter Tryz.func75,Tryz.ntmps75
  go_wp2_with (at_builtin;refine wpList_append_ow _ rfl (.tmp 5) (.tmp 6) _ rfl w.heap.size 55 i0 _ 2 16 Tryz.underlying50 HI.out HZ.out HS.out HBY.out rfl (by omega) _ 0 0 [] rfl (Ow.bare _ _ _ _ _) _ n c (cellsE es) rfl (Src.ents (HR.out.below HB.out)) (cellsE_one _) (by unfold maxLen;omega) (by omega) (by simp) ?_;intro A2 c2 w2 hown2 hg2 _)
  have HO:=Lib.hid hown2
  have HG:=Lib.hid hg2
  clear hown2 hg2
  go_wp2
  go_ret
  refine ⟨A2,c2,rfl,?_,(Ow.bare w.heap.size _ 55 2 none).grown HG.out HB.out (Nat.le_refl _) (by simp)⟩
  have:=HO.out
  rw [Nat.zero_add] at this
  simpa [OwE] using this
end Go.Proofs.YtkgfmgajhgfgjaaGreatDoor
namespace Go.Proofs.YtkgfmgajhgfgjaaGreatDoor
open Go.RowKit Go.Sort
abbrev Bx:=Int × Int × Int × Int
def encB (b:Bx):List Value:=[.int .i64 b.1,.int .i64 b.2.1,.int .i64 b.2.2.1,.int .i64 b.2.2.2]
theorem encB_len (b:Bx):(encB b).length=4:=rfl
theorem encB_one:∀ b,∀ u ∈ encB b,u.oneCell'=true:=by
 intro b u hu
 simp [encB] at hu
 rcases hu with rfl|rfl|rfl|rfl <;> rfl
abbrev cellsB:List Bx→List Value:=cellsX encB
abbrev RdB (w:World) (A:Option Addr) (n:Nat) (bs:List Bx):Prop:=Rd encB 4 w A n bs
theorem RdB.cells {w:World} {A:Option Addr} {n:Nat} {bs:List Bx} (h:RdB w A n bs) {k:Nat} (hk:k<n):∃ b off x,A=some ⟨b,off,none⟩∧b<w.heap.size∧bs[k]?=some x∧w.cell? ⟨b,off+k * 4,none⟩=some (.int .i64 x.1)∧w.cell? ⟨b,off+k * 4+1,none⟩=some (.int .i64 x.2.1)∧w.cell? ⟨b,off+k * 4+2,none⟩=some (.int .i64 x.2.2.1)∧w.cell? ⟨b,off+k * 4+3,none⟩=some (.int .i64 x.2.2.2):=by
 obtain ⟨b,off,x,hA,hb,hx,hc⟩:=h.at_ hk
 exact ⟨b,off,x,hA,hb,hx,hc 0 _ rfl,hc 1 _ rfl,hc 2 _ rfl,hc 3 _ rfl⟩
structure Lvl where
 id:Int
 ticks:Int
 sx:Int
 sy:Int
 walls:List Bx
 gates:List Bx
 f:Bx
 bans:Int
structure Trk where
 l:Lvl
 b:List Ent
structure Svc where
 ts:List Trk
 keys:List Int
 tags:List Int
structure Sl where
 a:Option Addr
 n:Nat
 c:Nat
structure TP where
 w:Sl
 g:Sl
 b:Sl
abbrev Row:=TP × Trk
abbrev Sl.v (s:Sl):Value:=.slice s.a s.n s.c
abbrev lvlV (l:Lvl) (ws gs:Sl):Value:=.agg #[.int .i64 l.id,.int .i64 l.ticks,.int .i64 l.sx,.int .i64 l.sy,.slice ws.a ws.n ws.c,.slice gs.a gs.n gs.c,.int .i64 l.f.1,.int .i64 l.f.2.1,.int .i64 l.f.2.2.1,.int .i64 l.f.2.2.2,.int .i64 l.bans]
def encT (x:Row):List Value:=[.int .i64 x.2.l.id,.int .i64 x.2.l.ticks,.int .i64 x.2.l.sx,.int .i64 x.2.l.sy,.slice x.1.w.a x.1.w.n x.1.w.c,.slice x.1.g.a x.1.g.n x.1.g.c,.int .i64 x.2.l.f.1,.int .i64 x.2.l.f.2.1,.int .i64 x.2.l.f.2.2.1,.int .i64 x.2.l.f.2.2.2,.int .i64 x.2.l.bans,.slice x.1.b.a x.1.b.n x.1.b.c]
theorem encT_len (x:Row):(encT x).length=12:=rfl
theorem encT_one:∀ x,∀ u ∈ encT x,u.oneCell'=true:=by
 intro x u hu
 simp [encT] at hu
 rcases hu with rfl|rfl|rfl|rfl|rfl|rfl|rfl|rfl|rfl|rfl|rfl|rfl <;> rfl
abbrev cellsT:List Row→List Value:=cellsX encT
theorem cellsT_len (xs:List Row):(cellsT xs).length=xs.length * 12:=cellsX_length encT_len xs
abbrev cellsI (zs:List Int):List Value:=zs.map (Value.int .i64)
theorem cellsI_one (zs:List Int):∀ u ∈ cellsI zs,u.oneCell'=true:=by
 intro u hu
 obtain ⟨z,_,rfl⟩:=List.mem_map.1 hu
 rfl
theorem Src.ints {w:World} {A:Option Addr} {n:Nat} {zs:List Int} (h:RdI .i64 w A n zs):Src w 1 A n (cellsI zs):=by
 refine ⟨by simp [h.1],fun hn=>?_⟩
 obtain ⟨b,off,hA,hb,hc⟩:=h.2 hn
 refine ⟨_,hA,fun j u hu=>?_⟩
 rw [Addr.add_lit]
 simp only [cellsI,List.getElem?_map,Option.map_eq_some_iff] at hu
 obtain ⟨z,hz,rfl⟩:=hu
 exact hc j z hz
theorem Ow.rdI {B T c:Nat} {w:World} {A:Option Addr} {n:Nat} {zs:List Int} (h:Ow B w T 1 A n c (cellsI zs)):RdI .i64 w A n zs:=by
 have hl:=h.len
 refine ⟨by simpa using hl,fun hn=>?_⟩
 obtain ⟨g,cur,hg,_,hb,_⟩:=h.blk (Nat.lt_of_lt_of_le hn h.le)
 obtain ⟨ad,hA,hc⟩:=h.src.2 hn
 rw [hg] at hA
 injection hA with hA
 subst hA
 refine ⟨g,0,hg,hb.lt,fun j z hz=>?_⟩
 have:=hc j (.int .i64 z) (by simp [cellsI,hz])
 rw [Addr.add_lit] at this
 exact this
theorem RdI.blk {w:World} {g T:Nat} {zs:List Int} (h:Blk w g T (cellsI zs).toArray):RdI .i64 w (some ⟨g,0,none⟩) zs.length zs:=by
 refine ⟨rfl,fun _=>⟨g,0,rfl,h.lt,fun k e hk=>?_⟩⟩
 rw [Nat.zero_add,h.cell]
 simp [cellsI,hk]
def SlOk (n c:Nat):Prop:=n≤c∧n≤1048576
def RdL (w:World) (l:Lvl) (ws gs:Sl):Prop:=RdB w ws.a ws.n l.walls∧RdB w gs.a gs.n l.gates∧SlOk ws.n ws.c∧SlOk gs.n gs.c
def RdT (w:World) (x:Row):Prop:=RdL w x.2.l x.1.w x.1.g∧RdE w x.1.b.a x.1.b.n x.2.b∧SlOk x.1.b.n x.1.b.c
def RdTs (w:World) (A:Option Addr) (n:Nat) (xs:List Row):Prop:=Rd encT 12 w A n xs∧∀ x ∈ xs,RdT w x
def RdS (w:World) (t k g:Sl) (S:Svc):Prop :=
 (∃ xs,xs.map (·.2)=S.ts∧RdTs w t.a t.n xs)∧RdI .i64 w k.a k.n S.keys∧RdI .i64 w g.a g.n S.tags∧SlOk t.n t.c∧SlOk k.n k.c∧SlOk g.n g.c
abbrev svV (t k g:Sl):Value:=.agg #[.slice t.a t.n t.c,.slice k.a k.n k.c,.slice g.a g.n g.c]
section
variable {w w':World} {l:Lvl} {ws gs:Sl} {x:Row} {A:Option Addr} {n:Nat} {xs:List Row} {S:Svc} {t k g:Sl}
theorem RdL.below (h:RdL w l ws gs) (hb:Below w.heap.size w w'):RdL w' l ws gs:=⟨h.1.below hb,h.2.1.below hb,h.2.2⟩
theorem RdT.below (h:RdT w x) (hb:Below w.heap.size w w'):RdT w' x:=⟨h.1.below hb,h.2.1.below hb,h.2.2⟩
theorem RdTs.below (h:RdTs w A n xs) (hb:Below w.heap.size w w'):RdTs w' A n xs:=⟨h.1.below hb,fun x hx=>(h.2 x hx).below hb⟩
theorem RdS.below (h:RdS w t k g S) (hb:Below w.heap.size w w'):RdS w' t k g S:=by
 obtain ⟨⟨xs,h1,h2⟩,h3,h4,h5⟩:=h
 exact ⟨⟨xs,h1,h2.below hb⟩,h3.below hb,h4.below hb,h5⟩
theorem RdTs.cells (h:RdTs w A n xs) {k:Nat} (hk:k<n):∃ b off x,A=some ⟨b,off,none⟩∧b<w.heap.size∧xs[k]?=some x∧RdT w x ∧
  w.cell? ⟨b,off+k * 12,none⟩=some (.int .i64 x.2.l.id)∧w.cell? ⟨b,off+k * 12+1,none⟩=some (.int .i64 x.2.l.ticks)∧w.cell? ⟨b,off+k * 12+2,none⟩=some (.int .i64 x.2.l.sx)∧w.cell? ⟨b,off+k * 12+3,none⟩=some (.int .i64 x.2.l.sy) ∧
  w.cell? ⟨b,off+k * 12+4,none⟩=some (.slice x.1.w.a x.1.w.n x.1.w.c)∧w.cell? ⟨b,off+k * 12+5,none⟩=some (.slice x.1.g.a x.1.g.n x.1.g.c) ∧
  w.cell? ⟨b,off+k * 12+6,none⟩=some (.int .i64 x.2.l.f.1)∧w.cell? ⟨b,off+k * 12+7,none⟩=some (.int .i64 x.2.l.f.2.1)∧w.cell? ⟨b,off+k * 12+8,none⟩=some (.int .i64 x.2.l.f.2.2.1)∧w.cell? ⟨b,off+k * 12+9,none⟩=some (.int .i64 x.2.l.f.2.2.2) ∧
  w.cell? ⟨b,off+k * 12+10,none⟩=some (.int .i64 x.2.l.bans)∧w.cell? ⟨b,off+k * 12+11,none⟩=some (.slice x.1.b.a x.1.b.n x.1.b.c):=by
 obtain ⟨b,off,x,hA,hb,hx,hc⟩:=h.1.at_ hk
 exact ⟨b,off,x,hA,hb,hx,h.2 x (List.mem_of_getElem? hx),hc 0 _ rfl,hc 1 _ rfl,hc 2 _ rfl,hc 3 _ rfl,hc 4 _ rfl,hc 5 _ rfl,hc 6 _ rfl,hc 7 _ rfl,hc 8 _ rfl,hc 9 _ rfl,hc 10 _ rfl,hc 11 _ rfl⟩
end
def blkOf (s:Sl):List Nat:=(ownB s.a s.c).toList
abbrev OwB (lo hi:Nat) (w:World) (s:Sl) (bs:List Bx):Prop:=OwI lo hi w 27 4 s.a s.n s.c (cellsB bs)
abbrev OwEn (lo hi:Nat) (w:World) (s:Sl) (es:List Ent):Prop:=OwI lo hi w 55 2 s.a s.n s.c (cellsE es)
abbrev OwZ (lo hi:Nat) (w:World) (s:Sl) (zs:List Int):Prop:=OwI lo hi w 3 1 s.a s.n s.c (cellsI zs)
def OwL (lo hi:Nat) (w:World) (l:Lvl) (ws gs:Sl):Prop:=OwB lo hi w ws l.walls∧OwB lo hi w gs l.gates∧ws.n≤1048576∧gs.n≤1048576
def OwT (lo hi:Nat) (w:World) (x:Row):Prop:=OwL lo hi w x.2.l x.1.w x.1.g∧OwEn lo hi w x.1.b x.2.b∧x.1.b.n≤1048576
def boxBlks (xs:List Row):List Nat:=xs.flatMap fun x=>blkOf x.1.w ++ blkOf x.1.g
def entBlks (xs:List Row):List Nat:=xs.flatMap fun x=>blkOf x.1.b
def OwTs (lo hi:Nat) (w:World) (t:Sl) (xs:List Row):Prop :=
 OwI lo hi w 65 12 t.a t.n t.c (cellsT xs)∧(∀ x ∈ xs,OwT lo hi w x)∧(boxBlks xs).Nodup∧(entBlks xs).Nodup∧t.n≤1048576
def OwS (lo hi:Nat) (w:World) (t k g:Sl) (S:Svc):Prop :=
 (∃ xs,xs.map (·.2)=S.ts∧OwTs lo hi w t xs)∧OwZ lo hi w k S.keys∧OwZ lo hi w g S.tags∧(blkOf k ++ blkOf g).Nodup∧k.n≤1048576∧g.n≤1048576
theorem mem_blkOf {s:Sl} {b:Nat}:b ∈ blkOf s ↔ 0<s.c∧s.a.map (·.block)=some b:=by
 unfold blkOf ownB
 by_cases h:s.c=0
 ·simp [h]
 ·rw [if_neg h]
  cases s.a with
  | none=>simp
  | some a=>simp;omega
section
variable {lo hi lo' hi':Nat} {w w':World} {l:Lvl} {ws gs:Sl} {x:Row} {xs:List Row} {S:Svc} {t k g:Sl}
theorem OwI.rdB {T:Nat} {s:Sl} {bs:List Bx} (h:OwI lo hi w T 4 s.a s.n s.c (cellsB bs)):RdB w s.a s.n bs:=h.ow.rd encB_len (by omega)
theorem OwL.rd (h:OwL lo hi w l ws gs):RdL w l ws gs:=⟨h.1.rdB,h.2.1.rdB,⟨h.1.ow.le,h.2.2.1⟩,⟨h.2.1.ow.le,h.2.2.2⟩⟩
theorem OwT.rd (h:OwT lo hi w x):RdT w x:=⟨h.1.rd,h.2.1.ow.rdE,h.2.1.ow.le,h.2.2⟩
theorem OwTs.rd (h:OwTs lo hi w t xs):RdTs w t.a t.n xs:=⟨h.1.ow.rd encT_len (by omega),fun x hx=>(h.2.1 x hx).rd⟩
theorem OwS.rd (h:OwS lo hi w t k g S):RdS w t k g S:=by
 obtain ⟨⟨xs,h1,h2⟩,h3,h4,_,h5,h6⟩:=h
 exact ⟨⟨xs,h1,h2.rd⟩,h3.ow.rdI,h4.ow.rdI,⟨h2.1.ow.le,h2.2.2.2.2⟩,⟨h3.ow.le,h5⟩,⟨h4.ow.le,h6⟩⟩
theorem OwL.next (h:OwL lo hi w l ws gs) (hb:Below w.heap.size w w'):OwL lo hi w' l ws gs:=⟨h.1.next hb,h.2.1.next hb,h.2.2⟩
theorem OwT.next (h:OwT lo hi w x) (hb:Below w.heap.size w w'):OwT lo hi w' x:=⟨h.1.next hb,h.2.1.next hb,h.2.2⟩
theorem OwTs.next (h:OwTs lo hi w t xs) (hb:Below w.heap.size w w'):OwTs lo hi w' t xs:=⟨h.1.next hb,fun x hx=>(h.2.1 x hx).next hb,h.2.2⟩
theorem OwS.next (h:OwS lo hi w t k g S) (hb:Below w.heap.size w w'):OwS lo hi w' t k g S:=by
 obtain ⟨⟨xs,h1,h2⟩,h3,h4,h5⟩:=h
 exact ⟨⟨xs,h1,h2.next hb⟩,h3.next hb,h4.next hb,h5⟩
theorem OwL.mono (h:OwL lo hi w l ws gs) (h1:lo'≤lo) (h2:hi≤hi'):OwL lo' hi' w l ws gs:=⟨h.1.mono h1 h2,h.2.1.mono h1 h2,h.2.2⟩
theorem OwT.mono (h:OwT lo hi w x) (h1:lo'≤lo) (h2:hi≤hi'):OwT lo' hi' w x:=⟨h.1.mono h1 h2,h.2.1.mono h1 h2,h.2.2⟩
theorem OwTs.mono (h:OwTs lo hi w t xs) (h1:lo'≤lo) (h2:hi≤hi'):OwTs lo' hi' w t xs:=⟨h.1.mono h1 h2,fun x hx=>(h.2.1 x hx).mono h1 h2,h.2.2⟩
theorem OwS.mono (h:OwS lo hi w t k g S) (h1:lo'≤lo) (h2:hi≤hi'):OwS lo' hi' w t k g S:=by
 obtain ⟨⟨xs,h3,h4⟩,h5,h6,h7⟩:=h
 exact ⟨⟨xs,h3,h4.mono h1 h2⟩,h5.mono h1 h2,h6.mono h1 h2,h7⟩
theorem OwL.frm (h:OwL lo hi w l ws gs) (hf:Frm lo' hi' w w') (hd:hi≤lo'∨hi'≤lo):OwL lo hi w' l ws gs:=⟨h.1.frm hf hd,h.2.1.frm hf hd,h.2.2⟩
theorem OwT.frm (h:OwT lo hi w x) (hf:Frm lo' hi' w w') (hd:hi≤lo'∨hi'≤lo):OwT lo hi w' x:=⟨h.1.frm hf hd,h.2.1.frm hf hd,h.2.2⟩
theorem OwTs.frm (h:OwTs lo hi w t xs) (hf:Frm lo' hi' w w') (hd:hi≤lo'∨hi'≤lo):OwTs lo hi w' t xs:=⟨h.1.frm hf hd,fun x hx=>(h.2.1 x hx).frm hf hd,h.2.2⟩
theorem OwS.frm (h:OwS lo hi w t k g S) (hf:Frm lo' hi' w w') (hd:hi≤lo'∨hi'≤lo):OwS lo hi w' t k g S:=by
 obtain ⟨⟨xs,h1,h2⟩,h3,h4,h5⟩:=h
 exact ⟨⟨xs,h1,h2.frm hf hd⟩,h3.frm hf hd,h4.frm hf hd,h5⟩
theorem OwS.bare (lo hi:Nat) (w:World) (A A' A'':Option Addr):OwS lo hi w ⟨A,0,0⟩ ⟨A',0,0⟩ ⟨A'',0,0⟩ ⟨[],[],[]⟩ :=
 ⟨⟨[],rfl,OwI.bare _ _ _ _ _ _,by simp,by simp [boxBlks],by simp [entBlks],by simp⟩,OwI.bare _ _ _ _ _ _,OwI.bare _ _ _ _ _ _,by simp [blkOf,ownB],by simp,by simp⟩
end
theorem infoB:(Tryz.prog.info? 27).map (fun i=>(i.zero,i.size,i.bytes))=some (some (.agg #[.int .i64 0,.int .i64 0,.int .i64 0,.int .i64 0]),4,32):=by kernel_rfl
theorem infoT:(Tryz.prog.info? 65).map (fun i=>(i.zero,i.size,i.bytes))=some (some (.agg #[.int .i64 0,.int .i64 0,.int .i64 0,.int .i64 0,.slice none 0 0,.slice none 0 0,.int .i64 0,.int .i64 0,.int .i64 0,.int .i64 0,.int .i64 0,.slice none 0 0]),12,144):=by kernel_rfl
theorem infoZ:(Tryz.prog.info? 3).map (fun i=>(i.zero,i.size,i.bytes))=some (some (.int .i64 0),1,8):=by kernel_rfl
end Go.Proofs.YtkgfmgajhgfgjaaGreatDoor
namespace Go.Proofs.YtkgfmgajhgfgjaaGreatDoor
open Go.RowKit Go.Sort
def inC (n:Int):Bool:=inR n (-1000000) 1000000
def vecOk (x y:Int):Bool:=inC x && inC y
def boxOk (b:Bx):Bool:=vecOk b.1 b.2.1 && vecOk b.2.2.1 b.2.2.2 && decide (b.1≤b.2.2.1) && decide (b.2.1≤b.2.2.2)
def nearW (p q x y r:Int):Bool :=
 decide (wrap64 (wrap64 (wrap64 (x - p) * wrap64 (x - p))+wrap64 (wrap64 (y - q) * wrap64 (y - q)))≤wrap64 (r * r))
def touchW (b:Bx) (x y r:Int):Bool:=nearW (max b.1 (min x b.2.2.1)) (max b.2.1 (min y b.2.2.2)) x y r
def freeW (bs:List Bx) (x y:Int):Bool:=bs.all fun b=>!touchW b x y 500
def levelOk (l:Lvl):Bool :=
 inR l.id 0 99 && inR l.ticks 1 60 && vecOk l.sx l.sy && decide ((l.walls.length:Int)≤4) && l.walls.all boxOk && decide ((l.gates.length:Int)≤3) && l.gates.all boxOk && boxOk l.f && inR l.bans 0 3 && freeW l.walls l.sx l.sy
set_option maxHeartbeats 400000 in
theorem specVecOk_any (x y:Int) (w:World) :
  Calls Tryz.prog 158 #[.agg #[.int .i64 x,.int .i64 y]] w fun e w'=>e=.returned (.bool (vecOk x y))∧Below w.heap.size w w':=by
 go_enter Tryz.func158,Tryz.ntmps158
 go_wp2_with (first|(go_at_call 57;refine (l6In_any _ _ _ _).mono ?_;rintro e w' ⟨rfl,rfl⟩))
 all_goals go_ret
 all_goals exact ⟨ret_bool (by simp [vecOk,inC, *]),(Below.refl _ _).alloc (Nat.le_refl _) _⟩
set_option maxHeartbeats 1000000 in
theorem specBoxValid_any (b:Bx) (w:World) :
  Calls Tryz.prog 160 #[.agg #[.int .i64 b.1,.int .i64 b.2.1,.int .i64 b.2.2.1,.int .i64 b.2.2.2]] w fun e w'=>e=.returned (.bool (boxOk b))∧Below w.heap.size w w':=by
 obtain ⟨b1,b2,b3,b4⟩:=b
 go_enter Tryz.func160,Tryz.ntmps160
 go_wp2_with fail
 refine (specVecOk_any _ _ _).mono ?_
 rintro e w1 ⟨rfl,hb1⟩
 have k1:=(Blk.new _ _ _).next hb1
 have c2:w1.cell? ⟨w.heap.size,2,none⟩=some (.int .i64 b3):=k1.cell 2
 have c3:w1.cell? ⟨w.heap.size,3,none⟩=some (.int .i64 b4):=k1.cell 3
 have HB1:=Lib.hid (ba hb1)
 clear hb1
 cases h1:vecOk b1 b2
 ·go_wp2_with fail
  go_ret
  exact ⟨ret_bool (by simp [boxOk,h1]),HB1.out⟩
 ·go_wp2_with fail
  refine (specVecOk_any _ _ _).mono ?_
  rintro e w2 ⟨rfl,hb2⟩
  have k2:=k1.next hb2
  have d0:w2.cell? ⟨w.heap.size,0,none⟩=some (.int .i64 b1):=k2.cell 0
  have d1:w2.cell? ⟨w.heap.size,1,none⟩=some (.int .i64 b2):=k2.cell 1
  have d2:w2.cell? ⟨w.heap.size,2,none⟩=some (.int .i64 b3):=k2.cell 2
  have d3:w2.cell? ⟨w.heap.size,3,none⟩=some (.int .i64 b4):=k2.cell 3
  have HB2:=Lib.hid (below_next HB1.out hb2)
  clear c2 c3 hb2 k1 k2
  cases h2:vecOk b3 b4
  ·go_wp2_with fail
   go_ret
   exact ⟨ret_bool (by simp [boxOk,h1,h2]),HB2.out⟩
  ·go_wp2_with fail
   all_goals go_ret
   all_goals exact ⟨ret_bool (by simp only [boxOk,h1,h2];simp;omega),HB2.out⟩
set_option maxHeartbeats 1000000 in
theorem l3Nearest_any (b:Bx) (x y:Int) (w:World) :
  Calls Tryz.prog 266 #[.agg #[.int .i64 b.1,.int .i64 b.2.1,.int .i64 b.2.2.1,.int .i64 b.2.2.2],.agg #[.int .i64 x,.int .i64 y]] w fun e w'=>e=.returned (.agg #[.int .i64 (max b.1 (min x b.2.2.1)),.int .i64 (max b.2.1 (min y b.2.2.2))])∧Below w.heap.size w w':=by
 obtain ⟨b1,b2,b3,b4⟩:=b
 go_enter Tryz.func266,Tryz.ntmps266
 go_wp2
 all_goals
  refine bodyPost_ret (v:=.agg #[.int .i64 (max b1 (min x b3)),.int .i64 (max b2 (min y b4))]) (by simp [results,Tryz.results266,go_sem];omega) rfl ⟨rfl,by go_grown⟩
set_option maxHeartbeats 1000000 in
theorem l3Touches_any (b:Bx) (x y r:Int) (w:World) :
  Calls Tryz.prog 220 #[.agg #[.int .i64 b.1,.int .i64 b.2.1,.int .i64 b.2.2.1,.int .i64 b.2.2.2],.agg #[.int .i64 x,.int .i64 y],.int .i64 r] w fun e w'=>e=.returned (.bool (touchW b x y r))∧Below w.heap.size w w':=by
 have N:=fun W=>l3Nearest_any b x y W
 unfold touchW
 generalize max b.1 (min x b.2.2.1)=p at N ⊢
 generalize max b.2.1 (min y b.2.2.2)=q at N ⊢
 have HN:=Lib.hid N
 clear N
 go_enter Tryz.func220,Tryz.ntmps220
 go_wp2_with fail
 refine (HN.out _).mono ?_
 rintro e w1 ⟨rfl,hb1⟩
 have k1:=(Blk.newAt _ _ _ (w.heap.size+1) (by simp)).next hb1
 have c0:w1.cell? ⟨w.heap.size+1,0,none⟩=some (.int .i64 x):=k1.cell 0
 have c1:w1.cell? ⟨w.heap.size+1,1,none⟩=some (.int .i64 y):=k1.cell 1
 have HB1:=Lib.hid (ba (ba hb1))
 have hz1:=hb1.size
 simp at hz1
 have hz:w.heap.size+1<w1.heap.size:=by omega
 clear hb1 k1 hz1
 go_wp2_with fail
 go_ret
 exact ⟨ret_bool rfl,HB1.out.alloc HB1.out.size _⟩
set_option maxHeartbeats 1000000 in
theorem l11Boxes_any (A:Option Addr) (n c:Nat) (bs:List Bx) (w:World) (hr:RdB w A n bs) (hn:n≤1099511627776) :
  Calls Tryz.prog 159 #[.slice A n c] w fun e w'=>e=.returned (.bool (bs.all boxOk))∧Below w.heap.size w w':=by
 have HR:=Lib.hid hr;clear hr
 go_enter Tryz.func159,Tryz.ntmps159
 go_wp2
 go_loopw [3] (fun i wr=>∃ k:Nat,k≤n∧i=.int .i64 k∧Hid (Below w.heap.size w wr∧bs.all boxOk=(bs.drop k).all boxOk)) (fun i _=>n - (intOf i).toNat)
 case atStart=>exact ⟨0,Nat.zero_le _,rfl,Below.refl _ _,rfl⟩
 case round =>
  obtain ⟨k,hk,rfl,HB⟩:=hrel
  by_cases hlt:k<n
  ·obtain ⟨b,off,x,hA,hb,hx,h0,h1,h2,h3⟩:=RdB.cells (HR.out.below HB.out.1) hlt
   subst hA
   have hd:(bs.drop k).all boxOk=(boxOk x && (bs.drop (k+1)).all boxOk):=by
    obtain ⟨hk',he⟩:=List.getElem?_eq_some_iff.1 hx
    rw [List.drop_eq_getElem_cons hk',he];rfl
   have HD:=Lib.hid hd
   clear hd hx
   go_wp2_with fail
   refine (specBoxValid_any _ _).mono ?_
   rintro e w1 ⟨rfl,hb1⟩
   cases ho:boxOk x
   ·have HO:=Lib.hid ho
    clear ho
    go_wp2_with fail
    go_ret
    exact ⟨ret_bool (by rw [HB.out.2,HD.out,HO.out];rfl),below_next HB.out.1 hb1⟩
   ·have HO:=Lib.hid ho
    clear ho
    go_wp2_with fail
    exact ⟨⟨k+1,by omega,by go_num,below_next HB.out.1 hb1,by rw [HB.out.2,HD.out,HO.out];rfl⟩,by simp [intOf];omega⟩
  ·go_wp2
   go_ret
   exact ⟨ret_bool (by rw [HB.out.2,List.drop_of_length_le (by rw [HR.out.len];omega)];rfl),HB.out.1⟩
theorem freeW_step {bs:List Bx} {k:Nat} {x:Bx} {px py:Int} (h:bs[k]?=some x):freeW (bs.drop k) px py=(!touchW x px py 500 && freeW (bs.drop (k+1)) px py):=by
 obtain ⟨hk',he⟩:=List.getElem?_eq_some_iff.1 h
 rw [List.drop_eq_getElem_cons hk',he];rfl
set_option maxHeartbeats 2000000 in
theorem l11Free_any (l:Lvl) (ws gs:Sl) (x y:Int) (w:World) (hr:RdB w ws.a ws.n l.walls) (hn:ws.n≤1099511627776) :
  Calls Tryz.prog 161 #[lvlV l ws gs,.agg #[.int .i64 x,.int .i64 y]] w fun e w'=>e=.returned (.bool (freeW l.walls x y))∧Below w.heap.size w w':=by
 have HR:=Lib.hid hr;clear hr
 go_enter Tryz.func161,Tryz.ntmps161
 go_wp2
 go_loopw [5] (fun i wr=>∃ k:Nat,k≤ws.n∧i=.int .i64 k∧Hid (Below w.heap.size w wr∧Blk wr w.heap.size 29 (match lvlV l ws gs with|.agg cs=>cs|_=>#[])∧Blk wr (w.heap.size+1) 24 #[.int .i64 x,.int .i64 y]∧freeW l.walls x y=freeW (l.walls.drop k) x y)) (fun i _=>ws.n - (intOf i).toNat)
 case atStart=>exact ⟨0,Nat.zero_le _,rfl,by go_grown,(Blk.new _ _ _).alloc _,Blk.newAt _ _ _ _ (by simp),rfl⟩
 case round =>
  obtain ⟨k,hk,rfl,HB⟩:=hrel
  have c4:wr.cell? ⟨w.heap.size,4,none⟩=some (.slice ws.a ws.n ws.c):=HB.out.2.1.cell 4
  by_cases hlt:k<ws.n
  ·obtain ⟨b,off,z,hA,hb,hx,h0,h1,h2,h3⟩:=RdB.cells (HR.out.below HB.out.1) hlt
   have HA:=Lib.hid hA
   rw [hA] at c4
   have HST:=Lib.hid (freeW_step (px:=x) (py:=y) hx)
   have d0:wr.cell? ⟨w.heap.size+1,0,none⟩=some (.int .i64 x):=HB.out.2.2.1.cell 0
   have d1:wr.cell? ⟨w.heap.size+1,1,none⟩=some (.int .i64 y):=HB.out.2.2.1.cell 1
   have c4':=fun d os=>cell_regrown c4 d os
   have h0':=fun d os=>cell_regrown h0 d os
   have h1':=fun d os=>cell_regrown h1 d os
   have h2':=fun d os=>cell_regrown h2 d os
   have h3':=fun d os=>cell_regrown h3 d os
   have d0':=fun d os=>cell_regrown d0 d os
   have d1':=fun d os=>cell_regrown d1 d os
   clear hA hx h0 h1 h2 h3 d0 d1
   go_wp2_with fail
   refine wp_region_qb (by kernel_rfl) (by kernel_rfl) ?_
   repeat (go_big_quiet_step ((go_at_call 220;exact Calls.regrown_of (l3Touches_any _ _ _ _ _))))
   refine wpQuiet_nil ?_
   intro w1 hb1
   have HB1:=Lib.hid hb1
   clear hb1
   cases ht:touchW z x y 500
   ·have HT:=Lib.hid ht
    clear ht
    go_wp2_with fail
    exact ⟨⟨k+1,by omega,by go_num,below_next HB.out.1 HB1.out,HB.out.2.1.next HB1.out,HB.out.2.2.1.next HB1.out,by rw [HB.out.2.2.2,HST.out,HT.out];rfl⟩,by simp [intOf];omega⟩
   ·have HT:=Lib.hid ht
    clear ht
    go_wp2_with fail
    go_ret
    exact ⟨ret_bool (by rw [HB.out.2.2.2,HST.out,HT.out];rfl),below_next HB.out.1 HB1.out⟩
  ·go_wp2
   go_ret
   exact ⟨ret_bool (by rw [HB.out.2.2.2,List.drop_of_length_le (by rw [HR.out.len];omega)];rfl),HB.out.1⟩
set_option maxHeartbeats 4000000 in
theorem specLevelValid_any (l:Lvl) (ws gs:Sl) (w:World) (hr:RdL w l ws gs) :
  Calls Tryz.prog 84 #[lvlV l ws gs] w fun e w'=>e=.returned (.bool (levelOk l))∧Below w.heap.size w w':=by
 obtain ⟨hr1,hr2,⟨_,hn1⟩,_,hn2⟩:=hr
 have HR1:=Lib.hid hr1
 have HR2:=Lib.hid hr2
 have hl1:=hr1.len
 have hl2:=hr2.len
 have HL1:=Lib.hid hl1
 have HL2:=Lib.hid hl2
 clear hr1 hr2 hl1 hl2
 go_enter Tryz.func84,Tryz.ntmps84
 go_wp2_with fail
 refine (l6In_any _ _ _ _).mono ?_
 rintro e w' ⟨rfl,rfl⟩
 cases h1:inR l.id 0 99
 ·go_wp2_with fail
  go_ret
  exact ⟨ret_bool (by simp [levelOk,h1]),by go_grown⟩
 ·skip
  go_wp2_with fail
  refine (l6In_any _ _ _ _).mono ?_
  rintro e w' ⟨rfl,rfl⟩
  cases h2:inR l.ticks 1 60
  ·go_wp2_with fail
   go_ret
   exact ⟨ret_bool (by simp [levelOk,h1,h2]),by go_grown⟩
  ·skip
   go_wp2_with fail
   refine (specVecOk_any _ _ _).mono ?_
   rintro e w1 ⟨rfl,hb1⟩
   have k1:=(Blk.new _ _ _).next hb1
   have HB1:=Lib.hid (ba hb1)
   have c1:=fun o=>k1.cell o
   clear hb1
   cases h3:vecOk l.sx l.sy
   ·go_wp2_with fail
    go_ret
    exact ⟨ret_bool (by simp [levelOk,h1,h2,h3]),HB1.out⟩
   ·skip
    by_cases h4:(ws.n:Int)≤4
    rotate_left
    ·go_wp2_with fail
     go_ret
     exact ⟨ret_bool (by simp [levelOk,show ¬ (l.walls.length:Int)≤4 from by rw [HL1.out];omega]),HB1.out⟩
    ·skip
     go_wp2_with fail
     refine (l11Boxes_any _ _ _ _ _ (HR1.out.below HB1.out) (by omega)).mono ?_
     rintro e w2 ⟨rfl,hb2⟩
     have k2:=k1.next hb2
     have HB2:=Lib.hid (below_next HB1.out hb2)
     clear c1
     have c2:=fun o=>k2.cell o
     clear hb2
     cases h5:l.walls.all boxOk
     ·go_wp2_with fail
      go_ret
      exact ⟨ret_bool (by simp [levelOk,h1,h2,h3,h5]),HB2.out⟩
     ·skip
      by_cases h6:(gs.n:Int)≤3
      rotate_left
      ·go_wp2_with fail
       go_ret
       exact ⟨ret_bool (by simp [levelOk,show ¬ (l.gates.length:Int)≤3 from by rw [HL2.out];omega]),HB2.out⟩
      ·skip
       go_wp2_with fail
       refine (l11Boxes_any _ _ _ _ _ (HR2.out.below HB2.out) (by omega)).mono ?_
       rintro e w3 ⟨rfl,hb3⟩
       have k3:=k2.next hb3
       have HB3:=Lib.hid (below_next HB2.out hb3)
       clear c2
       have c3:=fun o=>k3.cell o
       clear hb3
       cases h7:l.gates.all boxOk
       ·go_wp2_with fail
        go_ret
        exact ⟨ret_bool (by simp [levelOk,h1,h2,h3,h5,h7]),HB3.out⟩
       ·skip
        go_wp2_with fail
        refine (specBoxValid_any _ _).mono ?_
        rintro e w4 ⟨rfl,hb4⟩
        have k4:=k3.next hb4
        have HB4:=Lib.hid (below_next HB3.out hb4)
        clear c3
        have c4:=fun o=>k4.cell o
        clear hb4
        cases h8:boxOk l.f
        ·go_wp2_with fail
         go_ret
         exact ⟨ret_bool (by simp [levelOk,h1,h2,h3,h5,h7,h8]),HB4.out⟩
        ·skip
         go_wp2_with fail
         refine (l6In_any _ _ _ _).mono ?_
         rintro e w' ⟨rfl,rfl⟩
         cases h9:inR l.bans 0 3
         ·go_wp2_with fail
          go_ret
          exact ⟨ret_bool (by simp [levelOk,h1,h2,h3,h5,h7,h8,h9]),HB4.out⟩
         ·skip
          go_wp2_with fail
          refine (l11Free_any l ws gs _ _ _ (HR1.out.below HB4.out) (by omega)).mono ?_
          rintro e w5 ⟨rfl,hb5⟩
          go_wp2_with fail
          go_ret
          have h4':(l.walls.length:Int)≤4:=by rw [HL1.out];exact h4
          have h6':(l.gates.length:Int)≤3:=by rw [HL2.out];exact h6
          exact ⟨ret_bool (by simp [levelOk,h1,h2,h3,h4',h5,h6',h7,h8,h9]),below_next HB4.out hb5⟩
end Go.Proofs.YtkgfmgajhgfgjaaGreatDoor
namespace Go.Proofs.YtkgfmgajhgfgjaaGreatDoor
open Go.RowKit Go.Sort
def mulW (a b:Int):Int:=wrap64 ((wrap64 (a * b)).tdiv 1000)
set_option maxRecDepth 100000 in
set_option maxHeartbeats 400000 in
theorem l1Mul_any (a b:Int) (w:World):Calls Tryz.prog 356 #[.int .i64 a,.int .i64 b] w fun e w'=>e=.returned (.int .i64 (mulW a b))∧w'=w:=by
 go_enter Tryz.func356,Tryz.ntmps356
 go_wp2
 go_ret
 exact ⟨rfl,rfl⟩
def IsRoot (n m:Int):Prop:=0≤m∧m≤2000000∧(m=0∨m * m≤n)∧(m=2000000∨n<(m+1) * (m+1))
theorem IsRoot.eq {n m k:Int} (h:IsRoot n m) (h':IsRoot n k):m=k:=by
 obtain ⟨a1,a2,a3,a4⟩:=h
 obtain ⟨b1,b2,b3,b4⟩:=h'
 rcases Int.lt_trichotomy m k with hlt|he|hlt
 ·exfalso
  have h1:(m+1) * (m+1)≤k * k:=Int.mul_le_mul (by omega) (by omega) (by omega) (by omega)
  rcases b3 with b3|b3 <;> rcases a4 with a4|a4 <;> omega
 ·exact he
 ·exfalso
  have h1:(k+1) * (k+1)≤m * m:=Int.mul_le_mul (by omega) (by omega) (by omega) (by omega)
  rcases a3 with a3|a3 <;> rcases b4 with b4|b4 <;> omega
open Classical in
noncomputable def rootOf (n:Int):Int:=if h:∃ m,IsRoot n m then h.choose else 0
theorem rootOf_eq {n m:Int} (h:IsRoot n m):rootOf n=m:=by
 have hex:∃ m,IsRoot n m:=⟨m,h⟩
 unfold rootOf
 rw [dif_pos hex]
 exact IsRoot.eq hex.choose_spec h
set_option maxRecDepth 100000 in
set_option maxHeartbeats 1000000 in
theorem l1Sqrt_root (n:Int) (w:World):Calls Tryz.prog 364 #[.int .i64 n] w fun e w'=>(∃ m,e=.returned (.int .i64 m)∧IsRoot n m)∧w'=w:=by
 go_enter Tryz.func364,Tryz.ntmps364
 go_wp2_with fail
 go_loopw [3,4] (fun lo hi wr=>∃ a b:Int,lo=.int .i64 a∧hi=.int .i64 b∧0≤a∧a≤b∧b≤2000000∧Hid ((a=0∨a * a≤n)∧(b=2000000∨n<(b+1) * (b+1)))∧wr=w) (fun lo hi _=>(intOf hi - intOf lo).toNat)
 case atStart=>exact ⟨0,2000000,rfl,rfl,by omega,by omega,by omega,⟨.inl rfl,.inl rfl⟩,rfl⟩
 case round =>
  obtain ⟨a,b,rfl,rfl,ha,hab,hb,HH,rfl⟩:=hrel
  by_cases hlt:a<b
  ·obtain ⟨m,hm⟩:∃ m,m=(a+b+1) / 2:=⟨_,rfl⟩
   have h0:0≤(a+b+1) / 2 * ((a+b+1) / 2):=by rw [← hm];exact Int.mul_nonneg (by omega) (by omega)
   have h1:(a+b+1) / 2 * ((a+b+1) / 2)≤4000000000000:=by
    rw [← hm]
    exact Int.le_trans (Int.mul_le_mul (show m≤2000000 by omega) (show m≤2000000 by omega) (by omega) (by omega)) (by decide)
   by_cases hle:(a+b+1) / 2 * ((a+b+1) / 2)≤n
   ·go_wp2_with fail
    exact ⟨⟨(a+b+1) / 2,b,rfl,rfl,by omega,by omega,by omega,⟨.inr hle,HH.out.2⟩,trivial⟩,by simp [intOf];omega⟩
   ·go_wp2_with fail
    exact ⟨⟨a,(a+b+1) / 2 - 1,rfl,rfl,by omega,by omega,by omega,⟨HH.out.1,.inr (by rw [show (a+b+1) / 2 - 1+1=(a+b+1) / 2 by omega];omega)⟩,trivial⟩,by simp [intOf];omega⟩
  ·obtain rfl:a=b:=by omega
   go_wp2_with fail
   go_ret
   exact ⟨⟨a,rfl,ha,hb,HH.out.1,HH.out.2⟩,rfl⟩
theorem l1Sqrt_any (n:Int) (w:World):Calls Tryz.prog 364 #[.int .i64 n] w fun e w'=>e=.returned (.int .i64 (rootOf n))∧0≤rootOf n∧rootOf n≤2000000∧w'=w :=
 (l1Sqrt_root n w).mono fun e w' h=>by
  obtain ⟨⟨m,rfl,hm⟩,rfl⟩:=h
  rw [rootOf_eq hm]
  exact ⟨rfl,hm.1,hm.2.1,rfl⟩
set_option maxRecDepth 100000 in
set_option maxHeartbeats 1000000 in
theorem l2Scale_any (x y k:Int) (w:World):Calls Tryz.prog 335 #[.agg #[.int .i64 x,.int .i64 y],.int .i64 k] w fun e w'=>e=.returned (.agg #[.int .i64 (mulW x k),.int .i64 (mulW y k)])∧Below w.heap.size w w':=by
 go_enter Tryz.func335,Tryz.ntmps335
 go_wp2_with fail
 refine into_world (fun W=>Below w.heap.size w W∧w.heap.size+1<W.heap.size∧Blk W w.heap.size 24 #[.int .i64 x,.int .i64 y]∧Blk W (w.heap.size+1) 24 #[.int .i64 0,.int .i64 0]) ⟨by go_grown,by simp,(Blk.new _ _ _).alloc _,Blk.newAt _ _ _ _ (by simp)⟩ ?_
 rintro W ⟨hb,hz,k0,k1⟩
 have c0:W.cell? ⟨w.heap.size,0,none⟩=some (.int .i64 x):=k0.cell 0
 have c1:W.cell? ⟨w.heap.size,1,none⟩=some (.int .i64 y):=k0.cell 1
 have HB:=Lib.hid hb
 have K1:=Lib.hid k1
 clear hb k0 k1
 go_still_tail 9,(by kernel_rfl)
 still_call (l1Mul_any _ _ _)
 repeat still_step
 still_call (l1Mul_any _ _ _)
 repeat still_step
 refine wpStill_nil ?_
 change wpList _ _ _ _ _ W.drew
 have d:=fun o=>K1.out.cell o
 have f:=fun o=>K1.out.frozen o
 have z:=K1.out.lt
 clear c0 c1
 go_wp2
 refine bodyPost_ret (v:=.agg #[.int .i64 (mulW x k),.int .i64 (mulW y k)]) (by simp [results,Tryz.results335,go_sem,d]) rfl ⟨rfl,?_⟩
 have hb:=HB.out
 go_grown
noncomputable def lenW (x y:Int):Int:=rootOf (wrap64 (wrap64 (x * x)+wrap64 (y * y)))
set_option maxRecDepth 100000 in
set_option maxHeartbeats 1000000 in
theorem l2Length_any (x y:Int) (w:World):Calls Tryz.prog 357 #[.agg #[.int .i64 x,.int .i64 y]] w fun e w'=>e=.returned (.int .i64 (lenW x y))∧0≤lenW x y∧lenW x y≤2000000∧Below w.heap.size w w':=by
 go_enter Tryz.func357,Tryz.ntmps357
 go_wp2_with fail
 refine (l1Sqrt_any _ _).mono ?_
 rintro e w1 ⟨rfl,h0,h1,rfl⟩
 go_wp2_with fail
 go_ret
 exact ⟨rfl,h0,h1,by go_grown⟩
def dirT:List Int:=[1000,924,707,383,0,-383,-707,-924,-1000,-924,-707,-383,0,383,707,924]
def dirW (d:Nat):Int:=(dirT[d]?).getD 0
set_option maxRecDepth 100000 in
set_option maxHeartbeats 1000000 in
theorem l2Direction_at (d d2:Nat) (hd:d<16) (h2:(d+12) % 16=d2) (w:World):Calls Tryz.prog 336 #[.int .i64 d] w fun e w'=>e=.returned (.agg #[.int .i64 (dirW d),.int .i64 (dirW d2)])∧Below w.heap.size w w':=by
 have hK:=fun W:World=>Blk.new W 3 #[.int .i64 1000,.int .i64 924,.int .i64 707,.int .i64 383,.int .i64 0,.int .i64 (-383),.int .i64 (-707),.int .i64 (-924),.int .i64 (-1000),.int .i64 (-924),.int .i64 (-707),.int .i64 (-383),.int .i64 0,.int .i64 383,.int .i64 707,.int .i64 924]
 have hc:∀ (W:World) (k:Nat),k<16→(W.alloc (.cells #[.int .i64 1000,.int .i64 924,.int .i64 707,.int .i64 383,.int .i64 0,.int .i64 (-383),.int .i64 (-707),.int .i64 (-924),.int .i64 (-1000),.int .i64 (-924),.int .i64 (-707),.int .i64 (-383),.int .i64 0,.int .i64 383,.int .i64 707,.int .i64 924] 3)).cell? ⟨W.heap.size,k,none⟩=some (.int .i64 (dirW k)):=by
  intro W k hk
  rw [(hK W).cell]
  have:k=0∨k=1∨k=2∨k=3∨k=4∨k=5∨k=6∨k=7∨k=8∨k=9∨k=10∨k=11∨k=12∨k=13∨k=14∨k=15:=by omega
  rcases this with rfl|rfl|rfl|rfl|rfl|rfl|rfl|rfl|rfl|rfl|rfl|rfl|rfl|rfl|rfl|rfl <;> rfl
 have hd1:=hc (w.alloc (.cells #[.int .i64 0,.int .i64 0] 24)) d hd
 have hd2:=hc (w.alloc (.cells #[.int .i64 0,.int .i64 0] 24)) d2 (by omega)
 have hdi:(d:Int)<16:=by omega
 clear hK hc
 go_enter Tryz.func336,Tryz.ntmps336
 go_wp2_with fail
 refine into_world (fun W=>Below w.heap.size w W∧w.heap.size+1<W.heap.size∧Blk W w.heap.size 24 #[.int .i64 0,.int .i64 0]∧W.cell? ⟨w.heap.size+1,d,none⟩=some (.int .i64 (dirW d))∧W.cell? ⟨w.heap.size+1,d2,none⟩=some (.int .i64 (dirW d2))) ⟨by go_grown,by simp,(Blk.new _ _ _).alloc _,by simpa using hd1,by simpa using hd2⟩ ?_
 rintro W ⟨hb,hz,k0,c1,c2⟩
 have HB:=Lib.hid hb
 have K0:=Lib.hid k0
 clear hb k0 hd1 hd2
 have hq2:(IntKind.i64.wrap ((d:Int)+12)).tmod 16=(d2:Int):=by
  rw [IntWalk.i64_in _ (by omega),Int.tmod_eq_emod_of_nonneg (by omega)]
  omega
 have hdn:(d2:Int)<16:=by omega
 clear h2
 go_still_tail 11,(by kernel_rfl)
 change wpList _ _ _ _ _ W.drew
 have dk:=fun o=>K0.out.cell o
 have f:=fun o=>K0.out.frozen o
 have z:=K0.out.lt
 clear c1 c2
 go_wp2
 refine bodyPost_ret (v:=.agg #[.int .i64 (dirW d),.int .i64 (dirW d2)]) (by simp [results,Tryz.results336,go_sem,dk]) rfl ⟨rfl,?_⟩
 have hb:=HB.out
 go_grown
noncomputable def clampW (x y m:Int):Int × Int:=if lenW x y≤m then (x,y) else (wrap64 ((wrap64 (x * m)).tdiv (lenW x y)),wrap64 ((wrap64 (y * m)).tdiv (lenW x y)))
set_option maxRecDepth 100000 in
set_option maxHeartbeats 1000000 in
theorem l2Clamp_any (x y m:Int) (hm:0≤m) (w:World):Calls Tryz.prog 337 #[.agg #[.int .i64 x,.int .i64 y],.int .i64 m] w fun e w'=>e=.returned (.agg #[.int .i64 (clampW x y m).1,.int .i64 (clampW x y m).2])∧Below w.heap.size w w':=by
 go_enter Tryz.func337,Tryz.ntmps337
 go_wp2_with fail
 refine (l2Length_any _ _ _).mono ?_
 rintro e w1 ⟨rfl,h0,h1,hb⟩
 have k0:w1.cell? ⟨w.heap.size,0,none⟩=some (.int .i64 x):=(((Blk.new _ _ _).alloc _).next hb).cell 0
 have k1:w1.cell? ⟨w.heap.size,1,none⟩=some (.int .i64 y):=(((Blk.new _ _ _).alloc _).next hb).cell 1
 have HB:=Lib.hid (ba (ba hb))
 have hz:=hb.size
 simp at hz
 have K1:=Lib.hid ((Blk.newAt _ _ _ (w.heap.size+1) (by simp)).next hb)
 by_cases hle:lenW x y≤m
 ·have hcl:clampW x y m=(x,y):=by simp [clampW,hle]
  have d:=fun o=>K1.out.cell o
  have f:=fun o=>K1.out.frozen o
  have z:=K1.out.lt
  go_wp2_with fail
  refine bodyPost_ret (v:=.agg #[.int .i64 x,.int .i64 y]) (by simp [results,Tryz.results337,go_sem,d]) rfl ⟨by rw [hcl],?_⟩
  have hb:=HB.out
  go_grown
 ·have hcl:clampW x y m=(wrap64 ((wrap64 (x * m)).tdiv (lenW x y)),wrap64 ((wrap64 (y * m)).tdiv (lenW x y))):=by simp [clampW,hle]
  have hne:((lenW x y) == 0)=false:=by simp;omega
  go_wp2_with fail
  have hnz:¬ lenW x y=0:=by omega
  go_still_tail 13,(by kernel_rfl)
  change wpList _ _ _ _ _ w1.drew
  have d:=fun o=>K1.out.cell o
  have f:=fun o=>K1.out.frozen o
  have z:=K1.out.lt
  go_wp2
  refine bodyPost_ret (v:=.agg #[.int .i64 (wrap64 ((wrap64 (x * m)).tdiv (lenW x y))),.int .i64 (wrap64 ((wrap64 (y * m)).tdiv (lenW x y)))]) (by simp [results,Tryz.results337,go_sem,d]) rfl ⟨by rw [hcl],?_⟩
  have hb:=HB.out
  go_grown
end Go.Proofs.YtkgfmgajhgfgjaaGreatDoor

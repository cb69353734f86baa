/-
  Lemmas and contracts: Ba De Db Dh. No condition.
-/
import Derived.Deep.MidRow
import Derived.Test.YtemnlheidghbmaaGreatKc2
import Derived.Test.YtemnlheidghbmaaGreatKc3
import Derived.Test.YtemnlheidghbmaaGreatKc10
import Derived.Test.YtemnlheidghbmaaGreatKc13
namespace Go.Proofs.YtemnlheidghbmaaGreat
open Go.RowKit Go.Sort
def cntE (s : Int) : List Ent → Nat
 | [] => 0
 | e :: r => if e.2 ≤ s then cntE s r + 1 else 0
theorem cntE_step (s : Int) (es : List Ent) (k : Nat) (h : k + cntE s (es.drop k) = cntE s es) (e : Ent) (he : es[k]? = some e) (hs : e.2 ≤ s) : k + 1 + cntE s (es.drop (k + 1)) = cntE s es := by
 have hk : k < es.length := (List.getElem?_eq_some_iff.1 he).1
 rw [List.drop_eq_getElem_cons hk, cntE, (List.getElem?_eq_some_iff.1 he).2, if_pos hs] at h
 omega
theorem cntE_stop (s : Int) (es : List Ent) (k : Nat) (h : k + cntE s (es.drop k) = cntE s es) (e : Ent) (he : es[k]? = some e) (hs : ¬ e.2 ≤ s) : k = cntE s es := by
 have hk : k < es.length := (List.getElem?_eq_some_iff.1 he).1
 rw [List.drop_eq_getElem_cons hk, cntE, (List.getElem?_eq_some_iff.1 he).2, if_neg hs] at h
 omega
theorem cntE_end (s : Int) (es : List Ent) (k : Nat) (h : k + cntE s (es.drop k) = cntE s es) (hk : es.length ≤ k) : k = cntE s es := by
 rw [List.drop_of_length_le hk] at h
 simpa [cntE] using h
def contE (s : Int) (es : List Ent) (k : Nat) : Bool :=
 match es[k]? with
 | none => false
 | some e => decide (e.2 ≤ s)
theorem findE_at (p : Int) : ∀ (es : List Ent) (j : Int), 0 ≤ j → j ≤ findE p es j → ∃ (k : Nat) (e : Ent), findE p es j = j + k ∧ es[k]? = some e ∧ e.1 = p
 | [], j, hj, h => by simp [findE] at h; omega
 |x :: r, j, hj, h => by
  by_cases hx : x.1 = p
  ·exact ⟨0, x, by simp [findE, hx], rfl, hx⟩
  ·rw [findE, if_neg hx] at h ⊢
   have h1 := findE_or p r (j + 1)
   obtain ⟨k, e, hk, he, hp⟩ := findE_at p r (j + 1) (by omega) (by omega)
   exact ⟨k + 1, e, by rw [hk]; omega, by simpa using he, hp⟩
theorem findE_ok {p : Int} {es : List Ent} (h : 0 ≤ findE p es 0) : ∃ (k : Nat) (e : Ent), findE p es 0 = k ∧ es[k]? = some e ∧ e.1 = p := by
 obtain ⟨k, e, hk, he, hp⟩ := findE_at p es 0 (Int.le_refl _) h
 exact ⟨k, e, by omega, he, hp⟩
theorem contE_get {s : Int} {es : List Ent} {k : Nat} (h : contE s es k = true) : ∃ e, es[k]? = some e ∧ e.2 ≤ s := by
 unfold contE at h
 split at h
 ·cases h
 ·exact ⟨_, by assumption, by simpa using h⟩
theorem contE_stop {s : Int} {es : List Ent} {k : Nat} (h : contE s es k = false) (hk : k + cntE s (es.drop k) = cntE s es) : k = cntE s es := by
 unfold contE at h
 split at h
 ·rename_i he
  exact cntE_end s es k hk (by simpa using he)
 ·rename_i e he
  exact cntE_stop s es k hk e he (by simpa using h)
def worseE (es : List Ent) (e : Ent) : Bool := decide (0 ≤ findE e.1 es 0) && decide ((es[(findE e.1 es 0).toNat]?.getD (0, 0)).2 ≤ e.2)
def outE (es : List Ent) (e : Ent) : List Ent :=
 ((withoutE e.1 es).take (cntE e.2 (withoutE e.1 es)) ++ [e] ++ (withoutE e.1 es).drop (cntE e.2 (withoutE e.1 es))).take 4
def addE (es : List Ent) (e : Ent) : List Ent × Int :=
 if validE es && okE e then
  (if worseE es e then (es, 1) else if 4 ≤ cntE e.2 (withoutE e.1 es) then (es, 2) else (outE es e, 0))
 else ([], 3)
def AddPost (B : Nat) (es : List Ent) (x : Ent) (w : World) (e : Ending) (w' : World) : Prop :=
 ∃ A' c', e = .returned (.tuple #[.slice A' (addE es x).1.length c', .int .i64 (addE es x).2]) ∧ OwE B w' A' (addE es x).1.length c' (addE es x).1 ∧ Below B w w'
set_option maxRecDepth 100000 in
set_option maxHeartbeats 4000000 in
theorem specBoardAdd_any (A : Option Addr) (n c : Nat) (es : List Ent) (x : Ent) (w : World) (hr : RdE w A n es) (hn : n ≤ 1099511627776) :
  Calls Tryz.prog 113 #[.slice A n c, .agg #[.int .i64 x.1, .int .i64 x.2]] w (AddPost w.heap.size es x w) := by
 have hw0 : Below w.heap.size w (w.alloc (.cells #[.int .i64 x.1, .int .i64 x.2] 68)) := (Below.refl _ _).alloc (Nat.le_refl _) _
 have HR := Lib.hid (hr.below hw0)
 have HW0 := Lib.hid hw0
 obtain ⟨i0, hi0, hz0, hz1, hz2⟩ := info_parts infoE
 have HI := Lib.hid hi0
 have HZ := Lib.hid hz0
 have HS := Lib.hid hz1
 have HBY := Lib.hid hz2
 clear hr hw0 hi0 hz0 hz1 hz2
 go_enter Tryz.func113, Tryz.ntmps113
 go_wp2_with fail
 refine (specBoardValid_v _ _ _ _ _ HR.out hn).mono ?_
 rintro e w1 ⟨rfl, hB1⟩
 have hw1 : Below w.heap.size w w1 := below_next HW0.out hB1
 have hbx1 : Blk w1 w.heap.size 68 #[.int .i64 x.1, .int .i64 x.2] := (Blk.new _ _ _).next hB1
 have hc0 : w1.cell? ⟨w.heap.size, 0, none⟩ = some (.int .i64 x.1) := hbx1.cell 0
 have hc1 : w1.cell? ⟨w.heap.size, 1, none⟩ = some (.int .i64 x.2) := hbx1.cell 1
 have HR1 := Lib.hid (HR.out.below hB1)
 have HW1 := Lib.hid hw1
 have HX1 := Lib.hid hbx1
 clear hw1 hbx1 hB1
 cases hv : validE es with
 | false =>
  have hfin : addE es x = ([], 3) := by simp [addE, hv]
  have HF := Lib.hid hfin; clear hfin
  go_wp2_with fail
  go_ret2
  unfold AddPost
  rw [HF.out]
  exact ⟨_, _, rfl, Ow.bare _ _ _ _ _, HW1.out.alloc HW1.out.size _⟩
 | true =>
  go_wp2_with fail
  refine (l32Entry_any x w1).mono ?_
  rintro e w2 ⟨rfl, hB2⟩
  have HW2 := Lib.hid (below_next HW1.out hB2)
  have HX2 := Lib.hid (HX1.out.next hB2)
  have HR2 := Lib.hid (HR1.out.below hB2)
  have hd0 : w2.cell? ⟨w.heap.size, 0, none⟩ = some (.int .i64 x.1) := HX2.out.cell 0
  have hd1 : w2.cell? ⟨w.heap.size, 1, none⟩ = some (.int .i64 x.2) := HX2.out.cell 1
  clear hB2 hc0 hc1
  cases hok : okE x with
  | false =>
   have hfin : addE es x = ([], 3) := by simp [addE, hok]
   have HF := Lib.hid hfin; clear hfin
   go_wp2_with fail
   go_ret2
   unfold AddPost
   rw [HF.out]
   exact ⟨_, _, rfl, Ow.bare _ _ _ _ _, HW2.out.alloc HW2.out.size _⟩
  | true =>
   go_wp2_with fail
   refine (l32Find_any _ _ _ _ _ _ HR2.out hn).mono ?_
   rintro e _ ⟨rfl, rfl⟩
   go_wp2_with fail
   go_cut [34] (fun s34 wx => s34 = .bool (worseE es x) ∧ Hid (Below w2.heap.size w2 wx))
   case first =>
    have g0 := fun d os => cell_regrown hd0 d os
    have g1 := fun d os => cell_regrown hd1 d os
    clear hd0 hd1
    by_cases hfi : 0 ≤ findE x.1 es 0
    ·obtain ⟨k, e, hk, he, hp⟩ := findE_ok hfi
     have hkn : k < n := by have := (List.getElem?_eq_some_iff.1 he).1; rw [HR2.out.len] at this; exact this
     obtain ⟨b, off, e', rfl, hb, he', h0, h1⟩ := HR2.out.at_ hkn
     obtain rfl : e' = e := by rw [he] at he'; injection he' with h; exact h.symm
     have h1' := fun d os => cell_regrown h1 d os
     have hwo : worseE es x = decide (e'.2 ≤ x.2) := by simp [worseE, hk, he]
     have HWO := Lib.hid hwo
     clear he he' h0 h1 hwo hfi hp
     refine wp_region_qb (by kernel_rfl) (by kernel_rfl) ?_
     repeat (go_big_quiet_step (fail))
     refine wpQuiet_nil ?_
     intro w3 hb3
     go_wp2_with fail
     go_meet
     exact ⟨by rw [HWO.out], hb3⟩
    ·have hff : decide (0 ≤ findE x.1 es 0) = false := by simpa using hfi
     have hwo : worseE es x = false := by simp [worseE, hff]
     have HWO := Lib.hid hwo
     clear hwo hfi
     refine wp_region_qb (by kernel_rfl) (by kernel_rfl) ?_
     repeat (go_big_quiet_step (fail))
     refine wpQuiet_nil ?_
     intro w3 hb3
     go_wp2_with fail
     go_meet
     exact ⟨by rw [HWO.out], hb3⟩
   case rest => 
    obtain ⟨rfl, hB3⟩ := hcut
    have HW3 := Lib.hid (below_next HW2.out hB3.out)
    have HX3 := Lib.hid (HX2.out.next hB3.out)
    have HR3 := Lib.hid (HR2.out.below hB3.out)
    have hd0 : wc.cell? ⟨w.heap.size, 0, none⟩ = some (.int .i64 x.1) := HX3.out.cell 0
    have hd1 : wc.cell? ⟨w.heap.size, 1, none⟩ = some (.int .i64 x.2) := HX3.out.cell 1
    have hsz3 := HW3.out.size
    have hlx := HX3.out.lt
    clear hB3
    cases hwo : worseE es x with
    | true =>
     have hfin : addE es x = (es, 1) := by simp [addE, hok, hv, hwo]
     have HF := Lib.hid hfin; clear hfin
     go_wp2_with (at_builtin; refine wpList_append_ow _ rfl (.tmp 35) (.tmp 36) _ rfl w.heap.size 68 i0 _ 2 16 Tryz.underlying40 HI.out HZ.out HS.out HBY.out rfl (by omega) _ 0 0 [] rfl (Ow.bare _ _ _ _ _) _ n c (cellsE es) rfl (Src.ents (HR3.out.below ((Below.refl _ _).alloc (Nat.le_refl _) _))) (cellsE_one _) (by unfold maxLen; omega) (by omega) (by simp; omega) ?_; intro A2 c2 w9 hown2 hg2 _)
     have HO := Lib.hid hown2
     have HG := Lib.hid hg2
     clear hown2 hg2
     go_wp2
     go_ret2
     unfold AddPost
     rw [HF.out]
     refine ⟨A2, c2, by rw [HR3.out.len]; simp, ?_, (Ow.bare w.heap.size _ 68 2 none).grown HG.out (HW3.out.alloc HW3.out.size _) (Nat.le_refl _) (by simp; omega)⟩
     have := HO.out
     rw [Nat.zero_add, List.nil_append, ← HR3.out.len] at this
     exact this
    | false =>
     have hadd : addE es x = if 4 ≤ cntE x.2 (withoutE x.1 es) then (es, 2) else (outE es x, 0) := by simp [addE, hok, hv, hwo]
     have HADD := Lib.hid hadd
     have hwl : (withoutE x.1 es).length ≤ n := by
      have := withoutE_len x.1 es es.length
      rw [List.take_length, HR3.out.len] at this
      exact this
     clear hadd
     go_wp2_with fail
     refine (l32Without_any _ _ _ _ _ _ HR3.out hn).mono ?_
     rintro e w4 ⟨A4, c4, rfl, hO4, hB4⟩
     generalize hrest : withoutE x.1 es = rest at *
     have HREST := Lib.hid hrest
     have HO4 := Lib.hid hO4
     have HR4 := Lib.hid (Ow.rdE hO4)
     have HRE := Lib.hid (HR3.out.below hB4)
     have HW4 := Lib.hid (below_next HW3.out hB4)
     have HX4 := Lib.hid (HX3.out.next hB4)
     clear hrest hO4 hB4 hd0 hd1
     go_wp2_with fail
     go_loopg [8] rest.length (fun gg i wr => ∃ k : Nat, k ≤ rest.length ∧ rest.length - k ≤ gg ∧ i = .int .i64 k ∧ Hid (Below w4.heap.size w4 wr ∧ k + cntE x.2 (rest.drop k) = cntE x.2 rest))
     case atStart => exact ⟨0, Nat.zero_le _, by omega, rfl, Below.refl _ _, by simp⟩
     case round =>
      obtain ⟨k, hk, hg, rfl, HB⟩ := hrel
      have HXr := Lib.hid (HX4.out.next HB.out.1)
      have HRr := Lib.hid (HR4.out.below HB.out.1)
      have hd0 : wr.cell? ⟨w.heap.size, 0, none⟩ = some (.int .i64 x.1) := HXr.out.cell 0
      have hd1 : wr.cell? ⟨w.heap.size, 1, none⟩ = some (.int .i64 x.2) := HXr.out.cell 1
      go_upto_region 8 with (fail)
      go_cut [55] (fun s55 wx => s55 = .bool (contE x.2 rest k) ∧ Hid (Below wr.heap.size wr wx))
      case first =>
       have g0 := fun d os => cell_regrown hd0 d os
       have g1 := fun d os => cell_regrown hd1 d os
       clear hd0 hd1
       by_cases hlt : k < rest.length
       ·obtain ⟨b, off, e, rfl, hb, he, h0, h1⟩ := HRr.out.at_ hlt
        have h1' := fun d os => cell_regrown h1 d os
        have hct : contE x.2 rest k = decide (e.2 ≤ x.2) := by simp [contE, he]
        have HC := Lib.hid hct
        clear he h0 h1 hct
        refine wp_region_qb (by kernel_rfl) (by kernel_rfl) ?_
        repeat (go_big_quiet_step (fail))
        refine wpQuiet_nil ?_
        intro w5 hb5
        go_wp2_with fail
        go_meet
        exact ⟨by rw [HC.out], hb5⟩
       ·have hct : contE x.2 rest k = false := by simp [contE, List.getElem?_eq_none (Nat.le_of_not_lt hlt)]
        have HC := Lib.hid hct
        clear hct
        refine wp_region_qb (by kernel_rfl) (by kernel_rfl) ?_
        repeat (go_big_quiet_step (fail))
        refine wpQuiet_nil ?_
        intro w5 hb5
        go_wp2_with fail
        go_meet
        exact ⟨by rw [HC.out], hb5⟩
      case rest =>
       obtain ⟨rfl, hB5⟩ := hcut
       cases hct : contE x.2 rest k with
       | true =>
        obtain ⟨e, he, hes⟩ := contE_get hct
        have hlt : k < rest.length := (List.getElem?_eq_some_iff.1 he).1
        have HE := Lib.hid he
        clear he
        go_wp2
        go_roundg (rest.length - (k + 1))
        case measure => omega
        case rel => exact ⟨k + 1, by omega, by omega, by go_num, below_next HB.out.1 hB5.out, cntE_step x.2 rest k HB.out.2 e HE.out hes⟩
       | false =>
        have hkc := contE_stop hct HB.out.2
        have HWc := Lib.hid (below_next (below_next HW4.out HB.out.1) hB5.out)
        have HXc := Lib.hid (HXr.out.next hB5.out)
        have HRc := Lib.hid ((HRE.out.below HB.out.1).below hB5.out)
        have HOc := Lib.hid (HRr.out.below hB5.out)
        have he0 : wc.cell? ⟨w.heap.size, 0, none⟩ = some (.int .i64 x.1) := HXc.out.cell 0
        have he1 : wc.cell? ⟨w.heap.size, 1, none⟩ = some (.int .i64 x.2) := HXc.out.cell 1
        have hszc := HWc.out.size
        have hlxc := HXc.out.lt
        clear hd0 hd1 hsz3 hlx
        by_cases h4 : 4 ≤ k
        ·have hfin : addE es x = (es, 2) := by rw [HADD.out, ← hkc, if_pos h4]
         have HF := Lib.hid hfin
         have HK := Lib.hid hkc
         clear hfin hkc
         go_wp2_with (at_builtin; refine wpList_append_ow _ rfl (.tmp 60) (.tmp 61) _ rfl w.heap.size 68 i0 _ 2 16 Tryz.underlying40 HI.out HZ.out HS.out HBY.out rfl (by omega) _ 0 0 [] rfl (Ow.bare _ _ _ _ _) _ n c (cellsE es) rfl (Src.ents (HRc.out.below ((Below.refl _ _).alloc (Nat.le_refl _) _))) (cellsE_one _) (by unfold maxLen; omega) (by omega) (by simp; omega) ?_; intro A2 c2 w9 hown2 hg2 _)
         have HO := Lib.hid hown2
         have HG := Lib.hid hg2
         clear hown2 hg2
         go_wp2
         go_ret2
         unfold AddPost
         rw [HF.out]
         refine ⟨A2, c2, by rw [HRc.out.len]; simp, ?_, (Ow.bare w.heap.size _ 68 2 none).grown HG.out (HWc.out.alloc HWc.out.size _) (Nat.le_refl _) (by simp; omega)⟩
         have := HO.out
         rw [Nat.zero_add, List.nil_append, ← HRc.out.len] at this
         exact this
        ·have hfin : addE es x = (outE es x, 0) := by rw [HADD.out, ← hkc, if_neg h4]
         have hout : outE es x = (rest.take k ++ [x] ++ rest.drop k).take 4 := by unfold outE; rw [HREST.out, ← hkc]
         have HF := Lib.hid hfin
         have HK := Lib.hid hkc
         have HT := Lib.hid hout
         clear hfin hkc hout
         go_wp2_with fail
         go_cut [9] (fun s9 wx => ∃ (A7 : Option Addr) (c7 : Nat), s9 = .slice A7 (rest.length + 1) c7 ∧ Hid (Below wc.heap.size wc wx ∧ OwE wc.heap.size wx A7 (rest.length + 1) c7 (rest.take k ++ [x] ++ rest.drop k)))
         case first =>
          have hSt := Lib.hid (Src.ents (HOc.out.take hk))
          rcases Nat.eq_zero_or_pos c4 with hc40 | hc4p
          ·have hl0 : rest.length = 0 := by have := HO4.out.le; omega
           obtain rfl : rest = [] := List.eq_nil_of_length_eq_zero hl0
           obtain rfl : k = 0 := by simpa using hk
           subst hc40
           have hSd : Hid (Src wc 2 A4 0 (cellsE (([] : List Ent).drop 0))) := hSt
           simp only [List.length_nil] at *
           go_region_law (first
            | (refine step_append_ow _ rfl (.tmp 63) (.tmp 66) _ rfl wc.heap.size 68 i0 _ 2 16 Tryz.underlying40 HI.out HZ.out HS.out HBY.out rfl (by omega) _ 0 0 [] rfl (Ow.bare _ _ _ _ _) _ 0 _ (cellsE (([] : List Ent).take 0)) rfl (hSt.out.below (by go_grown)) (cellsE_one _) (by unfold maxLen; omega) (by omega) (by go_size) ?_; intro A5 c5 w5 hO5 hg5 _; simp only [Nat.zero_add, List.nil_append] at hO5; have hb5 : Below wc.heap.size wc w5 := (Ow.bare wc.heap.size _ 68 2 none).grown hg5 (by go_grown) (Nat.le_refl _) (by go_size); have hcl5 := (bcell hb5).1; have hs5 := hb5.size)
            | (refine step_append_ow _ rfl (.tmp 67) (.tmp 69) _ rfl wc.heap.size 68 i0 _ 2 16 Tryz.underlying40 HI.out HZ.out HS.out HBY.out rfl (by omega) _ 0 c5 _ rfl (hO5.alloc _) _ 1 1 (cellsE [x]) rfl (Src.blk (Blk.new _ _ _) rfl) (cellsE_one _) (by unfold maxLen; omega) (by omega) (by go_size) ?_; intro A6 c6 w6 hO6 hg6 _; have hb6 : Below wc.heap.size wc w6 := (hO5.alloc _).grown hg6 (by go_grown) (Nat.le_refl _) (by go_size))
            | (refine step_append_ow _ rfl (.tmp 67) (.tmp 69) _ rfl wc.heap.size 68 i0 _ 2 16 Tryz.underlying40 HI.out HZ.out HS.out HBY.out rfl (by omega) _ 0 c5 _ rfl hO5 _ 1 1 (cellsE [x]) rfl (Src.blk (Blk.bare (Blk.drew (Blk.newAt _ _ _ _ (by simp))) hg5) rfl) (cellsE_one _) (by unfold maxLen; omega) (by omega) hb5.size ?_; intro A6 c6 w6 hO6 hg6 _; have hb6 : Below wc.heap.size wc w6 := hO5.grown hg6 hb5 (Nat.le_refl _) hb5.size)
            | (refine step_append_ow _ rfl (.tmp 67) (.tmp 69) _ rfl wc.heap.size 68 i0 _ 2 16 Tryz.underlying40 HI.out HZ.out HS.out HBY.out rfl (by omega) _ 0 c5 _ rfl hO5 _ 1 1 (cellsE [x]) rfl (Src.blk (Blk.bare (Blk.drew ((Blk.new _ _ _).alloc _)) hg5) rfl) (cellsE_one _) (by unfold maxLen; omega) (by omega) hb5.size ?_; intro A6 c6 w6 hO6 hg6 _; have hb6 : Below wc.heap.size wc w6 := hO5.grown hg6 hb5 (Nat.le_refl _) hb5.size)
            | (refine step_append_ow _ rfl (.tmp 70) (.tmp 73) _ rfl wc.heap.size 68 i0 _ 2 16 Tryz.underlying40 HI.out HZ.out HS.out HBY.out rfl (by omega) _ (0 + 1) c6 _ rfl hO6 A4 0 _ (cellsE (([] : List Ent).drop 0)) rfl (hSd.out.below hb6) (cellsE_one _) (by unfold maxLen; omega) (by omega) hb6.size ?_; intro A7 c7 w7 hO7 hg7 _; have hb7 : Below wc.heap.size wc w7 := hO6.grown hg7 hb6 (Nat.le_refl _) hb6.size; clear hg5 hg6 hg7))
           all_goals (go_wp2_with fail; go_meet; exact ⟨A7, c7, rfl, hb7, hO7⟩)
          ·obtain ⟨g, cur, rfl, hg4, hb4, hlc4, hm4, _⟩ := HO4.out.blk hc4p
           have HBc := Lib.hid ((hb4.next HB.out.1).next hB5.out)
           have hkc' : k ≤ c4 := by omega
           have hkn' : (k : Int) ≤ rest.length := by omega
           obtain ⟨D, hD⟩ : ∃ D, (if c4 = k then some (⟨g, 0, none⟩ : Addr) else some ⟨g, k * 2, none⟩) = D := ⟨_, rfl⟩
           have hSd : Hid (Src wc 2 D (rest.length - k) (cellsE (rest.drop k))) := by
            refine ⟨by rw [cellsE_length, List.length_drop], fun hm => ?_⟩
            have hne : ¬ c4 = k := by omega
            rw [if_neg hne] at hD
            subst hD
            refine ⟨_, rfl, fun j u hu => ?_⟩
            rw [← cellsE_drop, List.getElem?_drop] at hu
            obtain ⟨ad, had, hcell⟩ := (Src.ents HOc.out).2 (by omega)
            injection had with had
            subst had
            have := hcell _ u hu
            rw [Addr.add_lit] at this ⊢
            simpa using this
           have hlen : k + 1 + (rest.length - k) = rest.length + 1 := by omega
           clear hb4
           go_region_law (first
            | (refine step_append_ow _ rfl (.tmp 63) (.tmp 66) _ rfl wc.heap.size 68 i0 _ 2 16 Tryz.underlying40 HI.out HZ.out HS.out HBY.out rfl (by omega) _ 0 0 [] rfl (Ow.bare _ _ _ _ _) _ k _ (cellsE (rest.take k)) rfl (hSt.out.below (by go_grown)) (cellsE_one _) (by unfold maxLen; omega) (by omega) (by go_size) ?_; intro A5 c5 w5 hO5 hg5 _; simp only [Nat.zero_add, List.nil_append] at hO5; have hb5 : Below wc.heap.size wc w5 := (Ow.bare wc.heap.size _ 68 2 none).grown hg5 (by go_grown) (Nat.le_refl _) (by go_size); have hcl5 := (bcell hb5).1; have hs5 := hb5.size)
            | (refine step_append_ow _ rfl (.tmp 67) (.tmp 69) _ rfl wc.heap.size 68 i0 _ 2 16 Tryz.underlying40 HI.out HZ.out HS.out HBY.out rfl (by omega) _ k c5 _ rfl (hO5.alloc _) _ 1 1 (cellsE [x]) rfl (Src.blk (Blk.new _ _ _) rfl) (cellsE_one _) (by unfold maxLen; omega) (by omega) (by go_size) ?_; intro A6 c6 w6 hO6 hg6 _; have hb6 : Below wc.heap.size wc w6 := (hO5.alloc _).grown hg6 (by go_grown) (Nat.le_refl _) (by go_size))
            | (refine step_append_ow _ rfl (.tmp 67) (.tmp 69) _ rfl wc.heap.size 68 i0 _ 2 16 Tryz.underlying40 HI.out HZ.out HS.out HBY.out rfl (by omega) _ k c5 _ rfl hO5 _ 1 1 (cellsE [x]) rfl (Src.blk (Blk.bare (Blk.drew (Blk.newAt _ _ _ _ (by simp))) hg5) rfl) (cellsE_one _) (by unfold maxLen; omega) (by omega) hb5.size ?_; intro A6 c6 w6 hO6 hg6 _; have hb6 : Below wc.heap.size wc w6 := hO5.grown hg6 hb5 (Nat.le_refl _) hb5.size)
            | (refine step_append_ow _ rfl (.tmp 67) (.tmp 69) _ rfl wc.heap.size 68 i0 _ 2 16 Tryz.underlying40 HI.out HZ.out HS.out HBY.out rfl (by omega) _ k c5 _ rfl hO5 _ 1 1 (cellsE [x]) rfl (Src.blk (Blk.bare (Blk.drew ((Blk.new _ _ _).alloc _)) hg5) rfl) (cellsE_one _) (by unfold maxLen; omega) (by omega) hb5.size ?_; intro A6 c6 w6 hO6 hg6 _; have hb6 : Below wc.heap.size wc w6 := hO5.grown hg6 hb5 (Nat.le_refl _) hb5.size)
            | (refine step_append_ow _ rfl (.tmp 70) (.tmp 73) _ rfl wc.heap.size 68 i0 _ 2 16 Tryz.underlying40 HI.out HZ.out HS.out HBY.out rfl (by omega) _ (k + 1) c6 _ rfl hO6 D (rest.length - k) _ (cellsE (rest.drop k)) rfl (hSd.out.below hb6) (cellsE_one _) (by unfold maxLen; omega) (by omega) hb6.size ?_; intro A7 c7 w7 hO7 hg7 _; have hb7 : Below wc.heap.size wc w7 := hO6.grown hg7 hb6 (Nat.le_refl _) hb6.size; clear hg5 hg6 hg7))
           all_goals (go_wp2_with fail; go_meet; exact ⟨A7, c7, rfl, hb7, by rw [hlen] at hO7; show Ow _ _ _ _ _ _ _ _; rw [cellsE_append, cellsE_append]; exact hO7⟩)
         case rest =>
          obtain ⟨A7, c7, rfl, hC⟩ := hcut
          have HWd := Lib.hid (below_next HWc.out hC.out.1)
          generalize hL : rest.take k ++ [x] ++ rest.drop k = L at *
          have hll : L.length = rest.length + 1 := by rw [← hL]; simp; omega
          have HLL := Lib.hid hll
          have HT2 : Hid (outE es x = L.take 4) := by exact HT.out
          have HRd := Lib.hid (Ow.rdE hC.out.2)
          have HLE : rest.length + 1 ≤ c7 := Ow.le hC.out.2
          have hszd := HWd.out.size
          rcases Nat.eq_zero_or_pos c7 with h70 | h7p
          ·omega
          ·obtain ⟨g7, cur7, rfl, _⟩ := hC.out.2.blk h7p
           clear hL hll HT HK he0 he1
           by_cases h3 : rest.length ≤ 3
           ·have hmn : ¬ (4 : Int) < (rest.length : Int) + 1 := by omega
            have hmn2 : ((rest.length : Int) + 1).toNat = rest.length + 1 := by omega
            go_wp2_with (at_builtin; refine wpList_append_ow _ rfl (.tmp 75) (.tmp 80) _ rfl w.heap.size 68 i0 _ 2 16 Tryz.underlying40 HI.out HZ.out HS.out HBY.out rfl (by omega) _ 0 0 [] rfl (Ow.bare _ _ _ _ _) _ (rest.length + 1) _ (cellsE (L.take (rest.length + 1))) rfl (Src.ents ((HRd.out.take (by omega)).below ((Below.refl _ _).alloc (Nat.le_refl _) _))) (cellsE_one _) (by unfold maxLen; omega) (by omega) (by simp; omega) ?_; intro A2 c2 w9 hown2 hg2 _)
            have HO := Lib.hid hown2
            have HG := Lib.hid hg2
            clear hown2 hg2
            go_wp2
            go_ret2
            unfold AddPost
            rw [HF.out]
            have hlo : (L.take 4).length = (rest.length + 1) := by rw [List.length_take, HLL.out]; omega
            have htk : L.take (rest.length + 1) = L.take 4 := by rw [List.take_of_length_le (by rw [HLL.out]; exact Nat.le_refl _), List.take_of_length_le (by rw [HLL.out]; omega)]
            refine ⟨A2, c2, by rw [HT2.out, hlo]; rfl, ?_, (Ow.bare w.heap.size _ 68 2 none).grown HG.out (HWd.out.alloc HWd.out.size _) (Nat.le_refl _) (by simp; omega)⟩
            have := HO.out
            rw [Nat.zero_add, List.nil_append, htk] at this
            rw [HT2.out, hlo]
            exact this
           ·have hmn : (4 : Int) < (rest.length : Int) + 1 := by omega
            go_wp2_with (at_builtin; refine wpList_append_ow _ rfl (.tmp 75) (.tmp 80) _ rfl w.heap.size 68 i0 _ 2 16 Tryz.underlying40 HI.out HZ.out HS.out HBY.out rfl (by omega) _ 0 0 [] rfl (Ow.bare _ _ _ _ _) _ 4 _ (cellsE (L.take 4)) rfl (Src.ents ((HRd.out.take (by omega)).below ((Below.refl _ _).alloc (Nat.le_refl _) _))) (cellsE_one _) (by unfold maxLen; omega) (by omega) (by simp; omega) ?_; intro A2 c2 w9 hown2 hg2 _)
            have HO := Lib.hid hown2
            have HG := Lib.hid hg2
            clear hown2 hg2
            go_wp2
            go_ret2
            unfold AddPost
            rw [HF.out]
            have hlo : (L.take 4).length = 4 := by rw [List.length_take, HLL.out]; omega
            have htk : L.take 4 = L.take 4 := by rfl
            refine ⟨A2, c2, by rw [HT2.out, hlo]; rfl, ?_, (Ow.bare w.heap.size _ 68 2 none).grown HG.out (HWd.out.alloc HWd.out.size _) (Nat.le_refl _) (by simp; omega)⟩
            have := HO.out
            rw [Nat.zero_add, List.nil_append, htk] at this
            rw [HT2.out, hlo]
            exact this
end Go.Proofs.YtemnlheidghbmaaGreat
namespace Go.Proofs.YtemnlheidghbmaaGreat
open Go.RowKit Go.Sort
end Go.Proofs.YtemnlheidghbmaaGreat
namespace Go.Proofs.YtemnlheidghbmaaGreat
open Go.RowKit Go.Sort
theorem cellsE_set (es : List Ent) : ∀ (k : Nat) (e : Ent) (s : Int), es[k]? = some e → (cellsE es).set (k * 2 + 1) (.int .i64 s) = cellsE (es.set k (e.1, s)) := by
 induction es with
 | nil => intro k e s h; simp at h
 | cons x r ih =>
  intro k e s h
  cases k with
  | zero =>
   simp at h
   subst h
   rfl
  | succ k =>
   have := ih k e s (by simpa using h)
   rw [show (k + 1) * 2 + 1 = (k * 2 + 1) + 1 + 1 by omega, cellsE_cons, List.set_cons_succ, List.set_cons_succ, this, List.set_cons_succ, cellsE_cons]
theorem Only.own_ {g : Nat} {a b c : World} {row : Option Nat} (h : Only g a b) (k : b.grownBy c row) (hr : ∀ x, row = some x → a.heap.size ≤ x) : Only g a c :=
 ⟨k.os.trans h.os, k.tape.trans h.tape, k.output.trans h.output, Nat.le_trans h.size k.size, fun i hi hne => (k.block i (Nat.lt_of_lt_of_le hi h.size) (by
  intro e
  have := hr i e.symm
  omega)).trans (h.block i hi hne)⟩
end Go.Proofs.YtemnlheidghbmaaGreat
namespace Go.Proofs.YtemnlheidghbmaaGreat
open Go.RowKit Go.Sort
def Dr (w0 : World) (g q : Nat) (w : World) : Prop := Rdr w g q ∧ Only g w0 w
section
variable {w0 w w' : World} {g q : Nat}
theorem Dr.next (h : Dr w0 g q w) (hb : Below w.heap.size w w') : Dr w0 g q w' := ⟨h.1.next hb, h.2.next hb⟩
theorem Dr.step {q' : Nat} (h : Dr w0 g q w) (hR : Rdr w' g q') (hO : Only g w w') : Dr w0 g q' w' := ⟨hR, h.2.trans hO⟩
theorem Dr.set {a : Addr} (h : Dr w0 g q w) (ha : w0.heap.size ≤ a.block) (hg : g < w0.heap.size) (u : Value) : Dr w0 g q (w.setCell a u) := ⟨h.1.set_ (by omega) u, h.2.set_ (.inr ha) u⟩
theorem Dr.grown {row : Option Nat} (h : Dr w0 g q w) (hg : g < w0.heap.size) (k : w.grownBy w' row) (hr : ∀ b, row = some b → w0.heap.size ≤ b) : Dr w0 g q w' :=
 ⟨h.1.grown k (fun b hb => Nat.lt_of_lt_of_le hg (hr b hb)), h.2.own_ k hr⟩
theorem Dr.mono {q' : Nat} (h : Dr w0 g q w) (e : q = q') : Dr w0 g q' w := e ▸ h
theorem Ow.onlyG {B T sz n c : Nat} {A : Option Addr} {vs : List Value} (h : Ow B w T sz A n c vs) (ho : Only g w w') (hg : g < B) : Ow B w' T sz A n c vs :=
 h.only ho fun hA => Nat.eq_zero_of_not_pos fun hc => by have := (h.lt hA hc).1; omega
theorem row_base {B T sz n c : Nat} {A : Option Addr} {vs : List Value} (h : Ow B w T sz A n c vs) (b : Nat) (hb : ownB A c = some b) : B ≤ b := by
 unfold ownB at hb
 split at hb
 ·cases hb
 ·exact (h.lt hb (by omega)).1
end
structure OwLv (B : Nat) (w : World) (l : Lvl) (ws gs : Sl) : Prop where
 wl : Ow B w 31 4 ws.a ws.n ws.c (cellsB l.walls)
 gt : Ow B w 31 4 gs.a gs.n gs.c (cellsB l.gates)
 wn : ws.n ≤ 1000
 gn : gs.n ≤ 1000
 dj : ∀ b, ownB ws.a ws.c = some b → ownB gs.a gs.c = some b → False
section
variable {B : Nat} {w w' : World} {l : Lvl} {ws gs : Sl}
theorem OwLv.rd (h : OwLv B w l ws gs) : RdL w l ws gs := ⟨Ow.rd encB_len (by decide) h.wl, Ow.rd encB_len (by decide) h.gt, ⟨h.wl.le, by have := h.wn; omega⟩, h.gt.le, by have := h.gn; omega⟩
theorem OwLv.next (h : OwLv B w l ws gs) (hb : Below w.heap.size w w') : OwLv B w' l ws gs := ⟨Ow.next h.wl hb, Ow.next h.gt hb, h.wn, h.gn, h.dj⟩
theorem OwLv.mono {B' : Nat} (h : OwLv B w l ws gs) (hb : B' ≤ B) : OwLv B' w l ws gs := ⟨Ow.mono h.wl hb, Ow.mono h.gt hb, h.wn, h.gn, h.dj⟩
theorem OwLv.only {g : Nat} (h : OwLv B w l ws gs) (ho : Only g w w') (hg : g < B) : OwLv B w' l ws gs := ⟨h.wl.onlyG ho hg, h.gt.onlyG ho hg, h.wn, h.gn, h.dj⟩
theorem OwLv.onlyT {o T' : Nat} {cs : Array Value} (h : OwLv B w l ws gs) (k : Blk w o T' cs) (hne : 31 ≠ T') (ho : Only o w w') : OwLv B w' l ws gs := ⟨h.wl.onlyT k hne ho, h.gt.onlyT k hne ho, h.wn, h.gn, h.dj⟩
theorem OwLv.of {l' : Lvl} (h : OwLv B w l ws gs) (h1 : l'.walls = l.walls) (h2 : l'.gates = l.gates) : OwLv B w l' ws gs := ⟨h1 ▸ h.wl, h2 ▸ h.gt, h.wn, h.gn, h.dj⟩
theorem ownB_of {A : Option Addr} {c b : Nat} (h : ownB A c = some b) : A.map (·.block) = some b ∧ 0 < c := by
 unfold ownB at h
 split at h
 ·cases h
 ·exact ⟨h, by omega⟩
theorem ownB_to {A : Option Addr} {c b : Nat} (h : A.map (·.block) = some b) (hc : 0 < c) : ownB A c = some b := by
 unfold ownB
 rw [if_neg (by omega), h]
theorem OwLv.gate {A : Option Addr} {c n : Nat} {b : Bx} {l' : Lvl} (h : OwLv B w l ws gs) (ho : Ow B w' 31 4 A n c (cellsB l.gates ++ cellsB [b])) (hg : w.grownBy w' (ownB gs.a gs.c))
  (hn : ∀ x, A.map (·.block) = some x → 0 < c → ownB gs.a gs.c = some x ∨ x = w.heap.size) (hl : n ≤ 1000) (h1 : l'.walls = l.walls) (h2 : l'.gates = l.gates ++ [b]) : OwLv B w' l' ws ⟨A, n, c⟩ := by
 refine ⟨?_, ?_, h.wn, hl, fun x hx hy => ?_⟩
 ·rw [h1]
  exact h.wl.keep fun x hx hc => hg.block x (h.wl.lt hx hc).2 (fun e => h.dj x (ownB_to hx hc) e.symm)
 ·rw [h2]
  show Ow _ _ _ _ _ _ _ (cellsX encB (l.gates ++ [b]))
  rw [cellsX_append]
  exact ho
 ·obtain ⟨hx1, hx2⟩ := ownB_of hx
  obtain ⟨hy1, hy2⟩ := ownB_of hy
  rcases hn x hy1 hy2 with e | e
  ·exact h.dj x hx e
  ·have := (h.wl.lt hx1 hx2).2
   omega
theorem OwLv.wall {A : Option Addr} {c n : Nat} {b : Bx} {l' : Lvl} (h : OwLv B w l ws gs) (ho : Ow B w' 31 4 A n c (cellsB l.walls ++ cellsB [b])) (hg : w.grownBy w' (ownB ws.a ws.c))
  (hn : ∀ x, A.map (·.block) = some x → 0 < c → ownB ws.a ws.c = some x ∨ x = w.heap.size) (hl : n ≤ 1000) (h1 : l'.gates = l.gates) (h2 : l'.walls = l.walls ++ [b]) : OwLv B w' l' ⟨A, n, c⟩ gs := by
 refine ⟨?_, ?_, hl, h.gn, fun x hy hx => ?_⟩
 rotate_left
 ·rw [h1]
  exact h.gt.keep fun x hx hc => hg.block x (h.gt.lt hx hc).2 (fun e => h.dj x e.symm (ownB_to hx hc))
 rotate_left
 ·rw [h2]
  show Ow _ _ _ _ _ _ _ (cellsX encB (l.walls ++ [b]))
  rw [cellsX_append]
  exact ho
 ·obtain ⟨hx1, hx2⟩ := ownB_of hx
  obtain ⟨hy1, hy2⟩ := ownB_of hy
  rcases hn x hy1 hy2 with e | e
  ·exact h.dj x e hx
  ·have := (h.gt.lt hx1 hx2).2
   omega
end
theorem thereLv {w : World} {b : Nat} {l0 : Lvl} {w0 g0 : Sl} (h : Blk w b 33 (lvlC l0 w0 g0)) : w.there b 0 11 := fun j hj => by
 rw [Nat.zero_add, h.cell, h.frozen]
 refine ⟨?_, rfl⟩
 have hj' : j < (lvlC l0 w0 g0).size := hj
 simp only [Array.getElem?_eq_getElem hj', Option.isSome_some]
theorem rangeLv {w : World} {b T : Nat} {cs : Array Value} (h : Blk w b T cs) : w.rangeAt b 0 cs.toList := fun j v hv => by
 rw [Nat.zero_add, h.cell]
 simpa using hv
theorem oneLv (l : Lvl) (ws gs : Sl) : (lvlC l ws gs).all (·.oneCell') = true := by simp [Value.oneCell']
theorem blk_sets {b T : Nat} : ∀ (vs : List Value) (o : Nat) (w : World) (cs : Array Value), Blk w b T cs → Blk (w.setCells b o vs) b T (setRun cs o vs)
 | [], _, _, _, h => h
 | v :: vs, o, _, _, h => blk_sets vs (o + 1) _ _ (h.set_ o v)
theorem setWhole {w : World} {b T : Nat} {cs ds : Array Value} (h : Blk w b T cs) (hl : ds.size = cs.size) : Blk (w.setCells b 0 ds.toList) b T ds := by
 have h1 := blk_sets ds.toList 0 w cs h
 obtain ⟨h2, h3⟩ := setRun_take ds.toList cs 0 (by rw [Array.length_toList]; omega)
 have e : setRun cs 0 ds.toList = ds := by
  apply Array.ext'
  rw [List.take_of_length_le (by rw [Array.length_toList, Array.length_toList, h2]; omega)] at h3
  simpa using h3
 rwa [e] at h1
theorem setLv {w : World} {b : Nat} {l0 l : Lvl} {w0 g0 ws gs : Sl} (h : Blk w b 33 (lvlC l0 w0 g0)) : Blk (w.setCells b 0 (lvlC l ws gs).toList) b 33 (lvlC l ws gs) :=
 setWhole h rfl
theorem onlySets {g b : Nat} {w : World} (hb : b = g ∨ w.heap.size ≤ b) : ∀ (vs : List Value) (o : Nat) (w' : World), Only g w w' → Only g w (w'.setCells b o vs)
 | [], _, _, h => h
 | v :: vs, o, _, h => onlySets hb vs (o + 1) _ (h.set_ (p := ⟨b, o, none⟩) hb v)
theorem Dr.sets {w0 : World} {g q b : Nat} (hg : g < w0.heap.size) (hb : w0.heap.size ≤ b) : ∀ (vs : List Value) (o : Nat) (w : World), Dr w0 g q w → Dr w0 g q (w.setCells b o vs)
 | [], _, _, h => h
 | v :: vs, o, _, h => Dr.sets hg hb vs (o + 1) _ (h.set (a := ⟨b, o, none⟩) hb hg v)
def lv0 : Lvl := ⟨0, 0, 0, 0, [], [], (0, 0, 0, 0), 0⟩
def LvPost (g p K : Nat) (w : World) (e : Ending) (w' : World) : Prop :=
 ∃ (l : Lvl) (ws gs : Sl) (q : Nat), e = .returned (lvlV l ws gs) ∧ OwLv w.heap.size w' l ws gs ∧ q ≤ p + K ∧ Dr w g q w'
end Go.Proofs.YtemnlheidghbmaaGreat

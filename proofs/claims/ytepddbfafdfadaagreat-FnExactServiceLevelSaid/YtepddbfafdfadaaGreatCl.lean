/-
  slices.Clone at boxes and at integers: a new row. Slices of at most 2^20 elements.
-/
import Derived.Test.YtepddbfafdfadaaGreatOw
namespace Go.Proofs.YtepddbfafdfadaaGreat
open Go.RowKit Go.Sort

set_option maxRecDepth 100000 in
set_option maxHeartbeats 1000000 in
theorem cloneB_any (A : Option Addr) (n c : Nat) (bs : List Bx) (w : World) (hr : RdB w A n bs) (hn : n ≤ 1048576) :
    Calls Tryz.prog 109 #[.slice A n c] w fun e w' => ∃ A' c', e = .returned (.slice A' n c') ∧ Ow w.heap.size w' 44 4 A' n c' (cellsB bs) ∧ Below w.heap.size w w' := by
  have HR := Lib.hid hr
  obtain ⟨i0, hi0, hz0, hz1, hz2⟩ := info_parts infoB
  have HI := Lib.hid hi0
  have HZ := Lib.hid hz0
  have HS := Lib.hid hz1
  have HBY := Lib.hid hz2
  clear hi0 hz0 hz1 hz2
  cases A with
  | none =>
    have hn0 : n = 0 := by
      rcases Nat.eq_zero_or_pos n with h | h
      · exact h
      · obtain ⟨_, _, h1, _⟩ := hr.2 h; cases h1
    subst hn0
    have hes : bs = [] := List.eq_nil_of_length_eq_zero hr.len
    subst hes
    have hq := fun W => Lib.run_eql_slice_nil (P := Tryz.prog) W 42 44 none 0 c 0 0 Tryz.underlying42
    clear hr
    go_enter Tryz.func109, Tryz.ntmps109
    go_wp2
    go_ret
    exact ⟨none, 0, rfl, Ow.bare _ _ _ _ _, Below.refl _ _⟩
  | some ad =>
    have hq := fun W => Lib.run_eql_slice_nil (P := Tryz.prog) W 42 44 (some ad) n c 0 0 Tryz.underlying42
    clear hr
    have hb1 : Below w.heap.size w (w.alloc (.cells #[] 44)) := (Below.refl _ _).alloc (Nat.le_refl _) _
    have HB := Lib.hid hb1; clear hb1
    go_enter Tryz.func109, Tryz.ntmps109
    go_wp2_with (at_builtin; refine wpList_append_ow _ rfl (.tmp 5) (.tmp 6) _ rfl w.heap.size 44 i0 _ 4 32 Tryz.underlying42 HI.out HZ.out HS.out HBY.out rfl (by omega) _ 0 0 [] rfl (Ow.bare _ _ _ _ _) _ n c (cellsB bs) rfl (Src.rd encB_len (HR.out.below HB.out)) (cellsX_oneCell encB_one _) (by unfold maxLen; omega) (by omega) (by simp) ?_; intro A2 c2 w2 hown2 hg2 _)
    have HO := Lib.hid hown2
    have HG := Lib.hid hg2
    clear hown2 hg2
    go_wp2
    go_ret
    refine ⟨A2, c2, rfl, ?_, (Ow.bare w.heap.size _ 44 4 none).grown HG.out HB.out (Nat.le_refl _) (by simp)⟩
    have := HO.out
    rw [Nat.zero_add, List.nil_append] at this
    exact this

set_option maxRecDepth 100000 in
set_option maxHeartbeats 1000000 in
theorem cloneI_any (A : Option Addr) (n c : Nat) (bs : List Int) (w : World) (hr : RdI .i64 w A n bs) (hn : n ≤ 1048576) :
    Calls Tryz.prog 104 #[.slice A n c] w fun e w' => ∃ A' c', e = .returned (.slice A' n c') ∧ Ow w.heap.size w' 3 1 A' n c' (cellsI bs) ∧ Below w.heap.size w w' := by
  have HR := Lib.hid hr
  obtain ⟨i0, hi0, hz0, hz1, hz2⟩ := info_parts infoZ
  have HI := Lib.hid hi0
  have HZ := Lib.hid hz0
  have HS := Lib.hid hz1
  have HBY := Lib.hid hz2
  clear hi0 hz0 hz1 hz2
  cases A with
  | none =>
    have hn0 : n = 0 := by
      rcases Nat.eq_zero_or_pos n with h | h
      · exact h
      · obtain ⟨_, _, h1, _⟩ := hr.2 h; cases h1
    subst hn0
    have hes : bs = [] := List.eq_nil_of_length_eq_zero hr.len
    subst hes
    have hq := fun W => Lib.run_eql_slice_nil (P := Tryz.prog) W 23 3 none 0 c 0 0 Tryz.underlying23
    clear hr
    go_enter Tryz.func104, Tryz.ntmps104
    go_wp2
    go_ret
    exact ⟨none, 0, rfl, Ow.bare _ _ _ _ _, Below.refl _ _⟩
  | some ad =>
    have hq := fun W => Lib.run_eql_slice_nil (P := Tryz.prog) W 23 3 (some ad) n c 0 0 Tryz.underlying23
    clear hr
    have hb1 : Below w.heap.size w (w.alloc (.cells #[] 3)) := (Below.refl _ _).alloc (Nat.le_refl _) _
    have HB := Lib.hid hb1; clear hb1
    go_enter Tryz.func104, Tryz.ntmps104
    go_wp2_with (at_builtin; refine wpList_append_ow _ rfl (.tmp 5) (.tmp 6) _ rfl w.heap.size 3 i0 _ 1 8 Tryz.underlying23 HI.out HZ.out HS.out HBY.out rfl (by omega) _ 0 0 [] rfl (Ow.bare _ _ _ _ _) _ n c (cellsI bs) rfl (Src.ints (HR.out.below HB.out)) (cellsI_one _) (by unfold maxLen; omega) (by omega) (by simp) ?_; intro A2 c2 w2 hown2 hg2 _)
    have HO := Lib.hid hown2
    have HG := Lib.hid hg2
    clear hown2 hg2
    go_wp2
    go_ret
    refine ⟨A2, c2, rfl, ?_, (Ow.bare w.heap.size _ 3 1 none).grown HG.out HB.out (Nat.le_refl _) (by simp)⟩
    have := HO.out
    rw [Nat.zero_add, List.nil_append] at this
    exact this

end Go.Proofs.YtepddbfafdfadaaGreat

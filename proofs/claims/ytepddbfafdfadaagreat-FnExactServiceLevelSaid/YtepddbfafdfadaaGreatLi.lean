/-
  Vectors and boxes of the program: isCoordinate, VecOk, axes, nearest, square, touches, BoxValid. Whatever the arguments.
-/
import Derived.Test.YtepddbfafdfadaaGreatLs
import Derived.Test.YtepddbfafdfadaaGreatBi
namespace Go.Proofs.YtepddbfafdfadaaGreat
open Go.RowKit Go.Sort

theorem ret_agg2 {a b c d : Int} (h1 : a = c) (h2 : b = d) : Ending.returned (.agg #[.int .i64 a, .int .i64 b]) = .returned (.agg #[.int .i64 c, .int .i64 d]) := by rw [h1, h2]

set_option maxHeartbeats 400000 in
theorem isCoordinate_any (x : Int) (w : World) :
    Calls Tryz.prog 130 #[.int .i64 x] w fun e w' => e = .returned (.bool (inC x)) ∧ w = w' := by
  go_enter Tryz.func130, Tryz.ntmps130
  go_wp2_with fail
  refine (inRange_any _ _ _ _).mono ?_
  rintro e w' ⟨rfl, rfl⟩
  go_wp2_with fail
  go_ret
  exact ⟨rfl, rfl⟩

set_option maxHeartbeats 400000 in
theorem implVecOk_any (x y : Int) (w : World) :
    Calls Tryz.prog 98 #[.agg #[.int .i64 x, .int .i64 y]] w fun e w' => e = .returned (.bool (vecOk x y)) ∧ Below w.heap.size w w' := by
  go_enter Tryz.func98, Tryz.ntmps98
  go_wp2_with (first | (go_at_call 130; refine (isCoordinate_any _ _).mono ?_; rintro e w' ⟨rfl, rfl⟩))
  all_goals go_ret
  all_goals exact ⟨ret_bool (by simp [vecOk, *]), (Below.refl _ _).alloc (Nat.le_refl _) _⟩

set_option maxHeartbeats 1000000 in
theorem axes_any (b : Bx) (w : World) :
    Calls Tryz.prog 133 #[.agg #[.int .i64 b.1, .int .i64 b.2.1, .int .i64 b.2.2.1, .int .i64 b.2.2.2]] w fun e w' => e = .returned (.agg #[.int .i64 b.1, .int .i64 b.2.2.1, .int .i64 b.2.1, .int .i64 b.2.2.2]) ∧ Below w.heap.size w w' := by
  go_enter Tryz.func133, Tryz.ntmps133
  go_wp2
  refine bodyPost_ret (v := .agg #[.int .i64 b.1, .int .i64 b.2.2.1, .int .i64 b.2.1, .int .i64 b.2.2.2]) (by simp [results, Tryz.results133, go_sem]) rfl ⟨rfl, by go_grown⟩

set_option maxHeartbeats 2000000 in
theorem nearest_any (b : Bx) (x y : Int) (w : World) :
    Calls Tryz.prog 156 #[.agg #[.int .i64 b.1, .int .i64 b.2.1, .int .i64 b.2.2.1, .int .i64 b.2.2.2], .agg #[.int .i64 x, .int .i64 y]] w fun e w' => e = .returned (.agg #[.int .i64 (min (max x b.1) b.2.2.1), .int .i64 (min (max y b.2.1) b.2.2.2)]) ∧ Below w.heap.size w w' := by
  obtain ⟨b1, b2, b3, b4⟩ := b
  have AX := fun W => axes_any (b1, b2, b3, b4) W
  have HAX := Lib.hid AX
  clear AX
  go_enter Tryz.func156, Tryz.ntmps156
  go_wp2_with fail
  refine (HAX.out _).mono ?_
  rintro e w1 ⟨rfl, hb1⟩
  have k2 := ((Blk.newAt _ _ _ (w.heap.size + 1) (by simp)).alloc _).next hb1
  have c0 : w1.cell? ⟨w.heap.size + 1, 0, none⟩ = some (.int .i64 x) := k2.cell 0
  have c1 : w1.cell? ⟨w.heap.size + 1, 1, none⟩ = some (.int .i64 y) := k2.cell 1
  have k3 := (Blk.newAt _ _ _ (w.heap.size + 1 + 1) (by simp)).next hb1
  have r0 : w1.cell? ⟨w.heap.size + 1 + 1, 0, none⟩ = some (.int .i64 0) := k3.cell 0
  have r1 : w1.cell? ⟨w.heap.size + 1 + 1, 1, none⟩ = some (.int .i64 0) := k3.cell 1
  have f0 := k3.frozen 0
  have f1 := k3.frozen 1
  have HB1 := Lib.hid (ba (ba (ba hb1)))
  have hz1 := hb1.size
  simp at hz1
  have hz : w.heap.size + 1 < w1.heap.size := by omega
  have hz2 : w.heap.size + 1 + 1 < w1.heap.size := by omega
  clear hb1 k2 k3 hz1
  go_wp2_with fail
  all_goals
    refine bodyPost_ret (v := .agg #[.int .i64 (min (max x b1) b3), .int .i64 (min (max y b2) b4)]) (by simp [results, Tryz.results156, go_sem, r0, r1, hz2]; omega) rfl ⟨rfl, ?_⟩
    have hs := HB1.out.size
    exact ((HB1.out.setCell (by simp; omega) _).setCell (by simp; omega) _).alloc (by simp; omega) _

set_option maxHeartbeats 1000000 in
theorem square_any (x y : Int) (w : World) :
    Calls Tryz.prog 157 #[.agg #[.int .i64 x, .int .i64 y]] w fun e w' => e = .returned (.int .i64 (wrap64 (wrap64 (x * x) + wrap64 (y * y)))) ∧ Below w.heap.size w w' := by
  go_enter Tryz.func157, Tryz.ntmps157
  go_wp2
  go_ret
  exact ⟨rfl, (Below.refl _ _).alloc (Nat.le_refl _) _⟩

def touchI (b : Bx) (x y r : Int) : Bool := nearW (min (max x b.1) b.2.2.1) (min (max y b.2.1) b.2.2.2) x y r
theorem touchI_eq {b : Bx} (h : boxOk b = true) (x y r : Int) : touchI b x y r = touchW b x y r := by
  simp only [boxOk, Bool.and_eq_true, decide_eq_true_eq] at h
  obtain ⟨⟨_, h1⟩, h2⟩ := h
  unfold touchI touchW
  rw [show min (max x b.1) b.2.2.1 = max b.1 (min x b.2.2.1) by omega, show min (max y b.2.1) b.2.2.2 = max b.2.1 (min y b.2.2.2) by omega]

set_option maxHeartbeats 1000000 in
theorem touches_any (b : Bx) (x y r : Int) (w : World) :
    Calls Tryz.prog 135 #[.agg #[.int .i64 b.1, .int .i64 b.2.1, .int .i64 b.2.2.1, .int .i64 b.2.2.2], .agg #[.int .i64 x, .int .i64 y], .int .i64 r] w fun e w' => e = .returned (.bool (touchI b x y r)) ∧ Below w.heap.size w w' := by
  have N := fun W => nearest_any b x y W
  unfold touchI
  generalize min (max x b.1) b.2.2.1 = p at N ⊢
  generalize min (max y b.2.1) b.2.2.2 = q at N ⊢
  have HN := Lib.hid N
  clear N
  go_enter Tryz.func135, Tryz.ntmps135
  go_wp2_with fail
  refine (HN.out _).mono ?_
  rintro e w1 ⟨rfl, hb1⟩
  have k1 := (Blk.newAt _ _ _ (w.heap.size + 1) (by simp)).next hb1
  have c0 : w1.cell? ⟨w.heap.size + 1, 0, none⟩ = some (.int .i64 x) := k1.cell 0
  have c1 : w1.cell? ⟨w.heap.size + 1, 1, none⟩ = some (.int .i64 y) := k1.cell 1
  have HB1 := Lib.hid (ba (ba hb1))
  have hz1 := hb1.size
  simp at hz1
  have hz : w.heap.size + 1 < w1.heap.size := by omega
  clear hb1 k1 hz1
  go_wp2_with fail
  refine (square_any _ _ _).mono ?_
  rintro e w2 ⟨rfl, hb2⟩
  go_wp2_with fail
  go_ret
  exact ⟨ret_bool rfl, below_at HB1.out HB1.out.size (ba hb2)⟩

set_option maxHeartbeats 2000000 in
theorem implBoxValid_any (b : Bx) (w : World) :
    Calls Tryz.prog 102 #[.agg #[.int .i64 b.1, .int .i64 b.2.1, .int .i64 b.2.2.1, .int .i64 b.2.2.2]] w fun e w' => e = .returned (.bool (boxOk b)) ∧ Below w.heap.size w w' := by
  have i0 : ∀ W, (Instr.index 153 (.agg #[.int .i64 b.1, .int .i64 b.2.2.1, .int .i64 b.2.1, .int .i64 b.2.2.2]) (.int .i64 0)).run Tryz.prog W = .ok (.agg #[.int .i64 b.1, .int .i64 b.2.2.1]) W := fun _ => by kernel_rfl
  have i1 : ∀ W, (Instr.index 153 (.agg #[.int .i64 b.1, .int .i64 b.2.2.1, .int .i64 b.2.1, .int .i64 b.2.2.2]) (.int .i64 1)).run Tryz.prog W = .ok (.agg #[.int .i64 b.2.1, .int .i64 b.2.2.2]) W := fun _ => by kernel_rfl
  go_enter Tryz.func102, Tryz.ntmps102
  go_wp2_with fail
  refine (axes_any _ _).mono ?_
  rintro e w1 ⟨rfl, hb1⟩
  have HK1 := Lib.hid ((Blk.new _ _ _).next hb1)
  have HB1 := Lib.hid (ba hb1)
  clear hb1
  go_wp2_with fail
  go_loopw [7] (fun i wr => ∃ k : Nat, k ≤ 2 ∧ i = .int .i64 k ∧ Hid (Below w.heap.size w wr ∧ Blk wr w.heap.size 44 #[.int .i64 b.1, .int .i64 b.2.1, .int .i64 b.2.2.1, .int .i64 b.2.2.2] ∧ (0 < k → b.1 ≤ b.2.2.1) ∧ (1 < k → b.2.1 ≤ b.2.2.2))) (fun i _ => 2 - (intOf i).toNat)
  case atStart => exact ⟨0, by omega, rfl, HB1.out, HK1.out, fun h => absurd h (by omega), fun h => absurd h (by omega)⟩
  case round =>
    obtain ⟨k, hk, rfl, HB⟩ := hrel
    have hq : k = 0 ∨ k = 1 ∨ k = 2 := by omega
    rcases hq with rfl | rfl | rfl
    · by_cases h1 : b.2.2.1 < b.1
      · go_wp2_with fail
        go_ret
        refine ⟨ret_bool ?_, HB.out.1.alloc HB.out.1.size _⟩
        symm
        simp only [boxOk, Bool.and_eq_false_iff, decide_eq_false_iff_not]
        exact .inl (.inr (by omega))
      · have h1' : b.1 ≤ b.2.2.1 := by omega
        go_wp2_with fail
        exact ⟨⟨1, by omega, rfl, HB.out.1.alloc HB.out.1.size _, HB.out.2.1.alloc _, fun _ => by omega, fun h => absurd h (by omega)⟩, by simp [intOf]⟩
    · by_cases h1 : b.2.2.2 < b.2.1
      · go_wp2_with fail
        go_ret
        refine ⟨ret_bool ?_, HB.out.1.alloc HB.out.1.size _⟩
        symm
        simp only [boxOk, Bool.and_eq_false_iff, decide_eq_false_iff_not]
        exact .inr (by omega)
      · have h1' : b.2.1 ≤ b.2.2.2 := by omega
        go_wp2_with fail
        exact ⟨⟨2, by omega, rfl, HB.out.1.alloc HB.out.1.size _, HB.out.2.1.alloc _, fun _ => HB.out.2.2.1 (by omega), fun _ => by omega⟩, by simp [intOf]⟩
    · have hx := Lib.hid (HB.out.2.2.1 (by omega))
      have hy := Lib.hid (HB.out.2.2.2 (by omega))
      have c0 : wr.cell? ⟨w.heap.size, 0, none⟩ = some (.int .i64 b.1) := HB.out.2.1.cell 0
      have c1 : wr.cell? ⟨w.heap.size, 1, none⟩ = some (.int .i64 b.2.1) := HB.out.2.1.cell 1
      go_wp2_with fail
      refine (implVecOk_any _ _ _).mono ?_
      rintro e w2 ⟨rfl, hb2⟩
      have k2 := HB.out.2.1.next hb2
      have d2 : w2.cell? ⟨w.heap.size, 2, none⟩ = some (.int .i64 b.2.2.1) := k2.cell 2
      have d3 : w2.cell? ⟨w.heap.size, 3, none⟩ = some (.int .i64 b.2.2.2) := k2.cell 3
      have HB2 := Lib.hid (below_next HB.out.1 hb2)
      clear c0 c1 hb2 k2
      cases hv : vecOk b.1 b.2.1
      · go_wp2_with fail
        go_ret
        exact ⟨ret_bool (by simp [boxOk, hv]), HB2.out⟩
      · go_wp2_with fail
        refine (implVecOk_any _ _ _).mono ?_
        rintro e w3 ⟨rfl, hb3⟩
        go_wp2_with fail
        go_ret
        exact ⟨ret_bool (by have h1 := hx.out; have h2 := hy.out; simp [boxOk, hv, h1, h2]), below_next HB2.out hb3⟩
end Go.Proofs.YtepddbfafdfadaaGreat

/-
  Lemmas and contracts: Ew Eo. No condition.
-/
import Derived.Test.YtemnlheidghbmaaGreatKc14
import Derived.Test.YtemnlheidghbmaaGreatKc34
import Derived.Test.YtemnlheidghbmaaGreatKc35
namespace Go.Proofs.YtemnlheidghbmaaGreat
open Go.RowKit Go.Sort
def Bys (w : World) (A : Option Addr) (n c : Nat) (zs : List Int) : Prop := RdI .u8 w A n zs ∧ (∀ z ∈ zs, 0 ≤ z ∧ z ≤ 255) ∧ n ≤ c ∧ c ≤ maxLen
theorem only_set3 (o : Nat) (w : World) (v0 v1 v2 : Value) : Only o w (((w.setCell ⟨o, 0, none⟩ v0).setCell ⟨o, 1, none⟩ v1).setCell ⟨o, 2, none⟩ v2) := onlySets (.inl rfl) [v0, v1, v2] 0 w (Only.refl _ _)
end Go.Proofs.YtemnlheidghbmaaGreat
namespace Go.Proofs.YtemnlheidghbmaaGreat
open Go.RowKit Go.Sort
def VecPost (g p K : Nat) (w : World) (e : Ending) (w' : World) : Prop := ∃ (a b : Int) (q : Nat), e = .returned (.agg #[.int .i64 a, .int .i64 b]) ∧ q ≤ p + K ∧ Dr w g q w'
theorem four_get {w : World} {b : Nat} {z0 z1 z2 z3 v : Int} (h : Blk w b 3 #[.int .i64 z0, .int .i64 z1, .int .i64 z2, .int .i64 z3]) (h0 : 0 ≤ v) (h1 : v < 4) : ∃ u : Int, w.cell? ⟨b, v.toNat, none⟩ = some (.int .i64 u) := by
 rw [h.cell]
 have : v = 0 ∨ v = 1 ∨ v = 2 ∨ v = 3 := by omega
 rcases this with rfl | rfl | rfl | rfl <;> exact ⟨_, rfl⟩
set_option maxRecDepth 100000 in
set_option maxHeartbeats 8000000 in
theorem l91Vec_any (g p : Nat) (w : World) (h : Rdr w g p) (hp : p ≤ 10000000) :
  Calls Tryz.prog 53 #[.pointer (some ⟨g, 0, none⟩)] w (VecPost g p 8 w) := by
 have hg := h.lt
 have hne : w.heap.size ≠ g := by omega
 have HD := Lib.hid (show Dr w g p (w.alloc (.cells #[.int .i64 0, .int .i64 0] 28)) from Dr.next ⟨h, Only.refl _ _⟩ (ba (Below.refl _ _)))
 have KR := Lib.hid (Blk.new w 28 #[.int .i64 0, .int .i64 0])
 clear h
 go_enter Tryz.func53, Tryz.ntmps53
 go_wp2_with fail
 refine (pick_any g 100 _ _ (HD.out.next (Below.refl _ _)).1 (by omega)).mono ?_
 rintro e w1 ⟨v1, rfl, a1, b1, hR, hO⟩
 have c1 := b1 (by omega)
 replace HD := Lib.hid ((HD.out.next (Below.refl _ _)).step hR hO)
 replace KR := Lib.hid ((KR.out.next (Below.refl _ _)).only hO hne)
 have hs1 := hO.size
 try simp only [World.size_alloc] at hs1
 clear b1 hR hO
 go_wp2_with fail
 refine (pick_any g 100 _ _ (HD.out.next (Below.refl _ _)).1 (by omega)).mono ?_
 rintro e w2 ⟨v2, rfl, a2, b2, hR, hO⟩
 have c2 := b2 (by omega)
 replace HD := Lib.hid ((HD.out.next (Below.refl _ _)).step hR hO)
 replace KR := Lib.hid ((KR.out.next (Below.refl _ _)).only hO hne)
 have hs2 := hO.size
 try simp only [World.size_alloc] at hs2
 clear b2 hR hO
 go_wp2_with fail
 refine (pick_any g 2 _ _ (HD.out.next (Below.refl _ _)).1 (by omega)).mono ?_
 rintro e w3 ⟨v3, rfl, a3, b3, hR, hO⟩
 have c3 := b3 (by omega)
 replace HD := Lib.hid ((HD.out.next (Below.refl _ _)).step hR hO)
 replace KR := Lib.hid ((KR.out.next (Below.refl _ _)).only hO hne)
 have hs3 := hO.size
 try simp only [World.size_alloc] at hs3
 clear b3 hR hO
 go_wp2_with fail
 refine (pick_any g 100 _ _ (HD.out.next (Below.refl _ _)).1 (by omega)).mono ?_
 rintro e w4 ⟨v4, rfl, a4, b4, hR, hO⟩
 have c4 := b4 (by omega)
 replace HD := Lib.hid ((HD.out.next (Below.refl _ _)).step hR hO)
 replace KR := Lib.hid ((KR.out.next (Below.refl _ _)).only hO hne)
 have hs4 := hO.size
 try simp only [World.size_alloc] at hs4
 clear b4 hR hO
 go_wp2_with fail
 refine (pick_any g 100 _ _ (HD.out.next (Below.refl _ _)).1 (by omega)).mono ?_
 rintro e w5 ⟨v5, rfl, a5, b5, hR, hO⟩
 have c5 := b5 (by omega)
 replace HD := Lib.hid ((HD.out.next (Below.refl _ _)).step hR hO)
 replace KR := Lib.hid ((KR.out.next (Below.refl _ _)).only hO hne)
 have hs5 := hO.size
 try simp only [World.size_alloc] at hs5
 clear b5 hR hO
 go_wp2_with fail
 refine (pick_any g 2 _ _ (HD.out.next (Below.refl _ _)).1 (by omega)).mono ?_
 rintro e w6 ⟨v6, rfl, a6, b6, hR, hO⟩
 have c6 := b6 (by omega)
 replace HD := Lib.hid ((HD.out.next (Below.refl _ _)).step hR hO)
 replace KR := Lib.hid ((KR.out.next (Below.refl _ _)).only hO hne)
 have hs6 := hO.size
 try simp only [World.size_alloc] at hs6
 clear b6 hR hO
 go_upto_region 2 with (fail)
 refine into_world (fun Y => Dr w g (p + 6) Y ∧ Blk Y w.heap.size 28 #[.int .i64 0, .int .i64 0] ∧ ∃ a b : Int, Blk Y w6.heap.size 28 #[.int .i64 a, .int .i64 b]) ⟨HD.out.next (ba (Below.refl _ _)), KR.out.alloc _, _, _, Blk.new _ _ _⟩ ?_
 rintro W ⟨hD, hKR, av, bv, hKL⟩
 have hneL : w6.heap.size ≠ g := by omega
 have hneR : w.heap.size ≠ w6.heap.size := by omega
 replace HD := Lib.hid hD
 replace KR := Lib.hid hKR
 have KL := Lib.hid hKL
 clear hD hKR hKL a1 c1 a2 c2 a3 c3 a4 c4 a5 c5 a6 c6
 go_wp2_with fail
 refine (pick_any g 20 _ _ HD.out.1 (by omega)).mono ?_
 rintro e w8 ⟨v7, rfl, a7, b7, hR, hO⟩
 replace HD := Lib.hid (HD.out.step hR hO)
 replace KR := Lib.hid (KR.out.only hO hne)
 replace KL := Lib.hid (KL.out.only hO hneL)
 have hs8 := HD.out.2.size
 clear b7 hR hO
 by_cases h0 : v7 = 0
 ·have h0' : (v7 == 0) = true := by simpa using h0
  clear h0
  have hW : Below w8.heap.size w8 (w8.alloc (.cells #[.int .i64 1000000, .int .i64 (-1000000), .int .i64 1000001, .int .i64 999999] 3)) := ba (Below.refl _ _)
  have HL := Lib.hid (Blk.new w8 3 #[.int .i64 1000000, .int .i64 (-1000000), .int .i64 1000001, .int .i64 999999])
  have hn8 : w8.heap.size ≠ g := by have := HD.out.1.lt; omega
  replace HD := Lib.hid (HD.out.next hW)
  replace KR := Lib.hid (KR.out.next hW)
  replace KL := Lib.hid (KL.out.next hW)
  clear hW
  go_wp2_with fail
  refine (pick_any g 4 _ _ HD.out.1 (by omega)).mono ?_
  rintro e w9 ⟨v9, rfl, a9, b9, hR, hO⟩
  have c9 := b9 (by omega)
  replace HD := Lib.hid (HD.out.step hR hO)
  replace KR := Lib.hid (KR.out.only hO hne)
  replace KL := Lib.hid (KL.out.only hO hneL)
  obtain ⟨u, hu⟩ := four_get (HL.out.only hO hn8) a9 c9
  clear b9 hR hO HL
  have cl := fun o => KL.out.cell o
  have fl := fun o => KL.out.frozen o
  have zl := KL.out.lt
  go_upto_region 9 with (fail)
  refine into_world (fun Y => Dr w g (p + 8) Y ∧ Blk Y w.heap.size 28 #[.int .i64 0, .int .i64 0] ∧ ∃ a b : Int, Blk Y w6.heap.size 28 #[.int .i64 a, .int .i64 b]) ⟨(HD.out.set (by simp; omega) hg _).mono (by omega), KR.out.far (p := ⟨w6.heap.size, 0, none⟩) hneR _, _, _, KL.out.set_ 0 _⟩ ?_
  rintro Y ⟨hD, hKR, a', b', hKL⟩
  replace HD := Lib.hid hD
  replace KR := Lib.hid hKR
  replace KL := Lib.hid hKL
  clear hD hKR hKL cl fl zl
  have cl := fun o => KL.out.cell o
  have fl := fun o => KL.out.frozen o
  have zl := KL.out.lt
  have cr := fun o => KR.out.cell o
  have fr := fun o => KR.out.frozen o
  have zr := KR.out.lt
  go_wp2_with fail
  refine bodyPost_ret (v := .agg #[.int .i64 a', .int .i64 b']) (by simp [results, Tryz.results53, go_sem, cr]) rfl ?_
  exact ⟨a', b', p + 8, rfl, by omega, (HD.out.set (by simp) hg _).set (by simp) hg _⟩
 have h0' : (v7 == 0) = false := by simpa using h0
 by_cases h1 : v7 = 1
 ·have h1' : (v7 == 1) = true := by simpa using h1
  clear h0 h1
  have hW : Below w8.heap.size w8 (w8.alloc (.cells #[.int .i64 1000000, .int .i64 (-1000000), .int .i64 (-1000001), .int .i64 999999] 3)) := ba (Below.refl _ _)
  have HL := Lib.hid (Blk.new w8 3 #[.int .i64 1000000, .int .i64 (-1000000), .int .i64 (-1000001), .int .i64 999999])
  have hn8 : w8.heap.size ≠ g := by have := HD.out.1.lt; omega
  replace HD := Lib.hid (HD.out.next hW)
  replace KR := Lib.hid (KR.out.next hW)
  replace KL := Lib.hid (KL.out.next hW)
  clear hW
  go_wp2_with fail
  refine (pick_any g 4 _ _ HD.out.1 (by omega)).mono ?_
  rintro e w9 ⟨v9, rfl, a9, b9, hR, hO⟩
  have c9 := b9 (by omega)
  replace HD := Lib.hid (HD.out.step hR hO)
  replace KR := Lib.hid (KR.out.only hO hne)
  replace KL := Lib.hid (KL.out.only hO hneL)
  obtain ⟨u, hu⟩ := four_get (HL.out.only hO hn8) a9 c9
  clear b9 hR hO HL
  have cl := fun o => KL.out.cell o
  have fl := fun o => KL.out.frozen o
  have zl := KL.out.lt
  go_upto_region 9 with (fail)
  refine into_world (fun Y => Dr w g (p + 8) Y ∧ Blk Y w.heap.size 28 #[.int .i64 0, .int .i64 0] ∧ ∃ a b : Int, Blk Y w6.heap.size 28 #[.int .i64 a, .int .i64 b]) ⟨(HD.out.set (by simp; omega) hg _).mono (by omega), KR.out.far (p := ⟨w6.heap.size, 1, none⟩) hneR _, _, _, KL.out.set_ 1 _⟩ ?_
  rintro Y ⟨hD, hKR, a', b', hKL⟩
  replace HD := Lib.hid hD
  replace KR := Lib.hid hKR
  replace KL := Lib.hid hKL
  clear hD hKR hKL cl fl zl
  have cl := fun o => KL.out.cell o
  have fl := fun o => KL.out.frozen o
  have zl := KL.out.lt
  have cr := fun o => KR.out.cell o
  have fr := fun o => KR.out.frozen o
  have zr := KR.out.lt
  go_wp2_with fail
  refine bodyPost_ret (v := .agg #[.int .i64 a', .int .i64 b']) (by simp [results, Tryz.results53, go_sem, cr]) rfl ?_
  exact ⟨a', b', p + 8, rfl, by omega, (HD.out.set (by simp) hg _).set (by simp) hg _⟩
 have h1' : (v7 == 1) = false := by simpa using h1
 by_cases h2 : v7 = 2
 ·have h2' : (v7 == 2) = true := by simpa using h2
  clear h0 h1 h2
  have cl := fun o => KL.out.cell o
  have fl := fun o => KL.out.frozen o
  have zl := KL.out.lt
  go_upto_region 9 with (fail)
  refine into_world (fun Y => Dr w g (p + 7) Y ∧ Blk Y w.heap.size 28 #[.int .i64 0, .int .i64 0] ∧ Blk Y w6.heap.size 28 #[.int .i64 0, .int .i64 0]) ⟨(HD.out.set (by simp; omega) hg _).set (by simp; omega) hg _, (KR.out.far (p := ⟨w6.heap.size, 0, none⟩) hneR _).far (p := ⟨w6.heap.size, 1, none⟩) hneR _, (KL.out.set_ 0 _).set_ 1 _⟩ ?_
  rintro Y ⟨hD, hKR, hKL⟩
  replace HD := Lib.hid hD
  replace KR := Lib.hid hKR
  replace KL := Lib.hid hKL
  clear hD hKR hKL cl fl zl
  have cl := fun o => KL.out.cell o
  have fl := fun o => KL.out.frozen o
  have zl := KL.out.lt
  have cr := fun o => KR.out.cell o
  have fr := fun o => KR.out.frozen o
  have zr := KR.out.lt
  go_wp2_with fail
  refine bodyPost_ret (v := .agg #[.int .i64 0, .int .i64 0]) (by simp [results, Tryz.results53, go_sem, cr]) rfl ?_
  exact ⟨0, 0, p + 7, rfl, by omega, (HD.out.set (by simp) hg _).set (by simp) hg _⟩
 have h2' : (v7 == 2) = false := by simpa using h2
 clear h0 h1 h2
 have cl := fun o => KL.out.cell o
 have fl := fun o => KL.out.frozen o
 have zl := KL.out.lt
 have cr := fun o => KR.out.cell o
 have fr := fun o => KR.out.frozen o
 have zr := KR.out.lt
 go_wp2_with fail
 refine bodyPost_ret (v := .agg #[.int .i64 av, .int .i64 bv]) (by simp [results, Tryz.results53, go_sem, cr]) rfl ?_
 exact ⟨av, bv, p + 7, rfl, by omega, (HD.out.set (by simp) hg _).set (by simp) hg _⟩
def BoxPost (g p K : Nat) (w : World) (e : Ending) (w' : World) : Prop := ∃ (b : Bx) (q : Nat), e = .returned (.agg #[.int .i64 b.1, .int .i64 b.2.1, .int .i64 b.2.2.1, .int .i64 b.2.2.2]) ∧ q ≤ p + K ∧ Dr w g q w'
set_option maxRecDepth 100000 in
set_option maxHeartbeats 8000000 in
theorem l91Box_any (g p : Nat) (w : World) (h : Rdr w g p) (hp : p ≤ 1000000) :
  Calls Tryz.prog 54 #[.pointer (some ⟨g, 0, none⟩)] w (BoxPost g p 40 w) := by
 have hg := h.lt
 have hne : w.heap.size ≠ g := by omega
 have HD := Lib.hid (show Dr w g p (w.alloc (.cells #[.int .i64 0, .int .i64 0, .int .i64 0, .int .i64 0] 31)) from Dr.next ⟨h, Only.refl _ _⟩ (ba (Below.refl _ _)))
 have KR := Lib.hid (Blk.new w 31 #[.int .i64 0, .int .i64 0, .int .i64 0, .int .i64 0])
 clear h
 go_enter Tryz.func54, Tryz.ntmps54
 go_wp2_with fail
 refine (l91Vec_any g _ _ HD.out.1 (by omega)).mono ?_
 rintro e w1 ⟨a1, b1, q1, rfl, hq1, hD1⟩
 replace KR := Lib.hid (KR.out.only hD1.2 hne)
 have hs1 := hD1.2.size
 simp only [World.size_alloc] at hs1
 replace HD := Lib.hid (HD.out.step hD1.1 hD1.2)
 clear hD1
 go_upto_region 2 with (fail)
 refine into_world (fun W => Dr w g q1 W ∧ Blk W w.heap.size 31 #[.int .i64 0, .int .i64 0, .int .i64 0, .int .i64 0] ∧ Blk W w1.heap.size 28 #[.int .i64 a1, .int .i64 b1]) ⟨HD.out.next (ba (Below.refl _ _)), KR.out.alloc _, Blk.new _ _ _⟩ ?_
 rintro W ⟨hD, hKR, hKV⟩
 have hneV : w1.heap.size ≠ g := by omega
 replace HD := Lib.hid hD
 replace KR := Lib.hid hKR
 have KV := Lib.hid hKV
 clear hD hKR hKV
 have hgW := HD.out.1.lt
 have hWw := HD.out.2.size
 have hwW := KR.out.lt
 refine wp_region_grow 16 (by kernel_rfl) (by kernel_rfl) (by kernel_rfl) (fun a b => Only g a b) (fun mq w' => ∃ q, q ≤ p + 8 + mq ∧ Dr w g q w' ∧ Only g W w') (fun iq v w' => match iq with | 0 => (∃ a b : Int, v = .agg #[.int .i64 a, .int .i64 b]) | 1 => (v = .pointer (some ⟨w1.heap.size, 0, none⟩)) | 2 => (∃ z : Int, v = .int .i64 z) | 3 => (v = .pointer (some ⟨g, 0, none⟩)) | 4 => (∃ z : Int, v = .int .i64 z) | 5 => (∃ z : Int, v = .int .i64 z) | 6 => (∃ z : Int, v = .int .i64 z) | 7 => (v = .pointer (some ⟨w1.heap.size, 1, none⟩)) | 8 => (∃ z : Int, v = .int .i64 z) | 9 => (v = .pointer (some ⟨g, 0, none⟩)) | 10 => (∃ z : Int, v = .int .i64 z) | 11 => (∃ z : Int, v = .int .i64 z) | 12 => (∃ z : Int, v = .int .i64 z) | 13 => (∃ a b : Int, v = .agg #[.int .i64 a, .int .i64 b]) | 14 => (∃ b : Bx, v = .agg #[.int .i64 b.1, .int .i64 b.2.1, .int .i64 b.2.2.1, .int .i64 b.2.2.2]) | 15 => (∃ e : Nat, v = .pointer (some ⟨e, 0, none⟩) ∧ W.heap.size ≤ e ∧ Blk w' e 31 #[.int .i64 0, .int .i64 0, .int .i64 0, .int .i64 0]) | _ => True) (fun sq => { tmps := #[Value.pointer (some (⟨g, 0, none⟩ : Addr)), undef, Value.pointer (some (⟨w.heap.size, 0, none⟩ : Addr)), Value.pointer (some (⟨w1.heap.size, 0, none⟩ : Addr)), sq 15, Value.pointer (some (⟨g, 0, none⟩ : Addr)), Value.agg #[Value.int .i64 a1, Value.int .i64 b1], sq 0, sq 1, sq 2, sq 3, sq 4, sq 5, sq 6, sq 7, sq 8, sq 9, sq 10, sq 11, sq 12, sq 13, sq 14, undef, undef, undef, undef, undef, undef, undef, undef, undef, undef, undef, undef], defers := [] }) (fun _ => undef) ?_ ?_ ?_ ?_
 ·rintro iq v a b hg h
  match iq, h with
  | 0, h => exact h
  | 1, h => exact h
  | 2, h => exact h
  | 3, h => exact h
  | 4, h => exact h
  | 5, h => exact h
  | 6, h => exact h
  | 7, h => exact h
  | 8, h => exact h
  | 9, h => exact h
  | 10, h => exact h
  | 11, h => exact h
  | 12, h => exact h
  | 13, h => exact h
  | 14, h => exact h
  | 15, h => exact (by obtain ⟨e, rfl, h1, h2⟩ := h; exact ⟨e, rfl, h1, h2.only hg (by omega)⟩)
  | (kq + 16), _ => exact trivial
 ·exact ⟨q1, by omega, HD.out.next ⟨rfl, rfl, rfl, Nat.le_refl _, fun _ _ => rfl⟩, (show Only g W W.drew from ⟨rfl, rfl, rfl, Nat.le_refl _, fun _ _ _ => rfl⟩)⟩
 ·intro mq sq w' iq oq hmq hiq hoq hJ hd Kq hK
  have hiq' : iq = 0 ∨ iq = 1 ∨ iq = 2 ∨ iq = 3 ∨ iq = 4 ∨ iq = 5 ∨ iq = 6 ∨ iq = 7 ∨ iq = 8 ∨ iq = 9 ∨ iq = 10 ∨ iq = 11 ∨ iq = 12 ∨ iq = 13 ∨ iq = 14 ∨ iq = 15 := by omega
  rcases hiq' with rfl | rfl | rfl | rfl | rfl | rfl | rfl | rfl | rfl | rfl | rfl | rfl | rfl | rfl | rfl | rfl
  ·cases (show some _ = some oq from hoq)
   have hK' := hK
   simp only [updV, Nat.reduceEqDiff, ↓reduceIte] at hK'
   clear hK hd
   generalize sq 0 = x0 at *
   generalize sq 1 = x1 at *
   generalize sq 2 = x2 at *
   generalize sq 3 = x3 at *
   generalize sq 4 = x4 at *
   generalize sq 5 = x5 at *
   generalize sq 6 = x6 at *
   generalize sq 7 = x7 at *
   generalize sq 8 = x8 at *
   generalize sq 9 = x9 at *
   generalize sq 10 = x10 at *
   generalize sq 11 = x11 at *
   generalize sq 12 = x12 at *
   generalize sq 13 = x13 at *
   generalize sq 14 = x14 at *
   generalize sq 15 = x15 at *
   have hcc := fun o => (KV.out.only (by obtain ⟨q, hq, hD, hO⟩ := hJ; exact hO) hneV).cell o
   go_simp
   exact hK' _ _ (Only.refl _ _) (by obtain ⟨q, hq, hD, hO⟩ := hJ; exact ⟨q, by omega, hD, hO⟩) ⟨_, _, rfl⟩
  ·cases (show some _ = some oq from hoq)
   have hK' := hK
   simp only [updV, Nat.reduceEqDiff, ↓reduceIte] at hK'
   clear hK hd
   generalize sq 0 = x0 at *
   generalize sq 1 = x1 at *
   generalize sq 2 = x2 at *
   generalize sq 3 = x3 at *
   generalize sq 4 = x4 at *
   generalize sq 5 = x5 at *
   generalize sq 6 = x6 at *
   generalize sq 7 = x7 at *
   generalize sq 8 = x8 at *
   generalize sq 9 = x9 at *
   generalize sq 10 = x10 at *
   generalize sq 11 = x11 at *
   generalize sq 12 = x12 at *
   generalize sq 13 = x13 at *
   generalize sq 14 = x14 at *
   generalize sq 15 = x15 at *
   go_simp
   exact hK' _ _ (Only.refl _ _) (by obtain ⟨q, hq, hD, hO⟩ := hJ; exact ⟨q, by omega, hD, hO⟩) rfl
  ·cases (show some _ = some oq from hoq)
   have d1 := hd 1 (by kernel_rfl) (by decide)
   have hK' := hK
   simp only [updV, Nat.reduceEqDiff, ↓reduceIte] at hK'
   clear hK hd
   generalize sq 0 = x0 at *
   generalize sq 1 = x1 at *
   generalize sq 2 = x2 at *
   generalize sq 3 = x3 at *
   generalize sq 4 = x4 at *
   generalize sq 5 = x5 at *
   generalize sq 6 = x6 at *
   generalize sq 7 = x7 at *
   generalize sq 8 = x8 at *
   generalize sq 9 = x9 at *
   generalize sq 10 = x10 at *
   generalize sq 11 = x11 at *
   generalize sq 12 = x12 at *
   generalize sq 13 = x13 at *
   generalize sq 14 = x14 at *
   generalize sq 15 = x15 at *
   obtain rfl := d1
   have hcc := (KV.out.only (by obtain ⟨q, hq, hD, hO⟩ := hJ; exact hO) hneV).cell 0
   go_simp
   exact hK' _ _ (Only.refl _ _) (by obtain ⟨q, hq, hD, hO⟩ := hJ; exact ⟨q, by omega, hD, hO⟩) ⟨_, rfl⟩
  ·cases (show some _ = some oq from hoq)
   have hK' := hK
   simp only [updV, Nat.reduceEqDiff, ↓reduceIte] at hK'
   clear hK hd
   generalize sq 0 = x0 at *
   generalize sq 1 = x1 at *
   generalize sq 2 = x2 at *
   generalize sq 3 = x3 at *
   generalize sq 4 = x4 at *
   generalize sq 5 = x5 at *
   generalize sq 6 = x6 at *
   generalize sq 7 = x7 at *
   generalize sq 8 = x8 at *
   generalize sq 9 = x9 at *
   generalize sq 10 = x10 at *
   generalize sq 11 = x11 at *
   generalize sq 12 = x12 at *
   generalize sq 13 = x13 at *
   generalize sq 14 = x14 at *
   generalize sq 15 = x15 at *
   go_simp
   exact hK' _ _ (Only.refl _ _) (by obtain ⟨q, hq, hD, hO⟩ := hJ; exact ⟨q, by omega, hD, hO⟩) rfl
  ·cases (show some _ = some oq from hoq)
   have d3 := hd 3 (by kernel_rfl) (by decide)
   have hK' := hK
   simp only [updV, Nat.reduceEqDiff, ↓reduceIte] at hK'
   clear hK hd
   generalize sq 0 = x0 at *
   generalize sq 1 = x1 at *
   generalize sq 2 = x2 at *
   generalize sq 3 = x3 at *
   generalize sq 4 = x4 at *
   generalize sq 5 = x5 at *
   generalize sq 6 = x6 at *
   generalize sq 7 = x7 at *
   generalize sq 8 = x8 at *
   generalize sq 9 = x9 at *
   generalize sq 10 = x10 at *
   generalize sq 11 = x11 at *
   generalize sq 12 = x12 at *
   generalize sq 13 = x13 at *
   generalize sq 14 = x14 at *
   generalize sq 15 = x15 at *
   obtain rfl := d3
   go_simp
   obtain ⟨q, hq, hD, hO⟩ := hJ
   refine (pick_any g 50 q _ hD.1 (by omega)).mono ?_
   rintro e w2 ⟨u, rfl, a9, b9, hR, hO2⟩
   exact hK' _ _ hO2 ⟨q + 1, by omega, hD.step hR hO2, hO.trans hO2⟩ ⟨_, rfl⟩
  ·cases (show some _ = some oq from hoq)
   have d4 := hd 4 (by kernel_rfl) (by decide)
   have hK' := hK
   simp only [updV, Nat.reduceEqDiff, ↓reduceIte] at hK'
   clear hK hd
   generalize sq 0 = x0 at *
   generalize sq 1 = x1 at *
   generalize sq 2 = x2 at *
   generalize sq 3 = x3 at *
   generalize sq 4 = x4 at *
   generalize sq 5 = x5 at *
   generalize sq 6 = x6 at *
   generalize sq 7 = x7 at *
   generalize sq 8 = x8 at *
   generalize sq 9 = x9 at *
   generalize sq 10 = x10 at *
   generalize sq 11 = x11 at *
   generalize sq 12 = x12 at *
   generalize sq 13 = x13 at *
   generalize sq 14 = x14 at *
   generalize sq 15 = x15 at *
   obtain ⟨z4, rfl⟩ := d4
   go_simp
   exact hK' _ _ (Only.refl _ _) (by obtain ⟨q, hq, hD, hO⟩ := hJ; exact ⟨q, by omega, hD, hO⟩) ⟨_, rfl⟩
  ·cases (show some _ = some oq from hoq)
   have d2 := hd 2 (by kernel_rfl) (by decide)
   have d5 := hd 5 (by kernel_rfl) (by decide)
   have hK' := hK
   simp only [updV, Nat.reduceEqDiff, ↓reduceIte] at hK'
   clear hK hd
   generalize sq 0 = x0 at *
   generalize sq 1 = x1 at *
   generalize sq 2 = x2 at *
   generalize sq 3 = x3 at *
   generalize sq 4 = x4 at *
   generalize sq 5 = x5 at *
   generalize sq 6 = x6 at *
   generalize sq 7 = x7 at *
   generalize sq 8 = x8 at *
   generalize sq 9 = x9 at *
   generalize sq 10 = x10 at *
   generalize sq 11 = x11 at *
   generalize sq 12 = x12 at *
   generalize sq 13 = x13 at *
   generalize sq 14 = x14 at *
   generalize sq 15 = x15 at *
   obtain ⟨z2, rfl⟩ := d2
   obtain ⟨z5, rfl⟩ := d5
   go_simp
   exact hK' _ _ (Only.refl _ _) (by obtain ⟨q, hq, hD, hO⟩ := hJ; exact ⟨q, by omega, hD, hO⟩) ⟨_, rfl⟩
  ·cases (show some _ = some oq from hoq)
   have hK' := hK
   simp only [updV, Nat.reduceEqDiff, ↓reduceIte] at hK'
   clear hK hd
   generalize sq 0 = x0 at *
   generalize sq 1 = x1 at *
   generalize sq 2 = x2 at *
   generalize sq 3 = x3 at *
   generalize sq 4 = x4 at *
   generalize sq 5 = x5 at *
   generalize sq 6 = x6 at *
   generalize sq 7 = x7 at *
   generalize sq 8 = x8 at *
   generalize sq 9 = x9 at *
   generalize sq 10 = x10 at *
   generalize sq 11 = x11 at *
   generalize sq 12 = x12 at *
   generalize sq 13 = x13 at *
   generalize sq 14 = x14 at *
   generalize sq 15 = x15 at *
   go_simp
   exact hK' _ _ (Only.refl _ _) (by obtain ⟨q, hq, hD, hO⟩ := hJ; exact ⟨q, by omega, hD, hO⟩) rfl
  ·cases (show some _ = some oq from hoq)
   have d7 := hd 7 (by kernel_rfl) (by decide)
   have hK' := hK
   simp only [updV, Nat.reduceEqDiff, ↓reduceIte] at hK'
   clear hK hd
   generalize sq 0 = x0 at *
   generalize sq 1 = x1 at *
   generalize sq 2 = x2 at *
   generalize sq 3 = x3 at *
   generalize sq 4 = x4 at *
   generalize sq 5 = x5 at *
   generalize sq 6 = x6 at *
   generalize sq 7 = x7 at *
   generalize sq 8 = x8 at *
   generalize sq 9 = x9 at *
   generalize sq 10 = x10 at *
   generalize sq 11 = x11 at *
   generalize sq 12 = x12 at *
   generalize sq 13 = x13 at *
   generalize sq 14 = x14 at *
   generalize sq 15 = x15 at *
   obtain rfl := d7
   have hcc := (KV.out.only (by obtain ⟨q, hq, hD, hO⟩ := hJ; exact hO) hneV).cell 1
   go_simp
   exact hK' _ _ (Only.refl _ _) (by obtain ⟨q, hq, hD, hO⟩ := hJ; exact ⟨q, by omega, hD, hO⟩) ⟨_, rfl⟩
  ·cases (show some _ = some oq from hoq)
   have hK' := hK
   simp only [updV, Nat.reduceEqDiff, ↓reduceIte] at hK'
   clear hK hd
   generalize sq 0 = x0 at *
   generalize sq 1 = x1 at *
   generalize sq 2 = x2 at *
   generalize sq 3 = x3 at *
   generalize sq 4 = x4 at *
   generalize sq 5 = x5 at *
   generalize sq 6 = x6 at *
   generalize sq 7 = x7 at *
   generalize sq 8 = x8 at *
   generalize sq 9 = x9 at *
   generalize sq 10 = x10 at *
   generalize sq 11 = x11 at *
   generalize sq 12 = x12 at *
   generalize sq 13 = x13 at *
   generalize sq 14 = x14 at *
   generalize sq 15 = x15 at *
   go_simp
   exact hK' _ _ (Only.refl _ _) (by obtain ⟨q, hq, hD, hO⟩ := hJ; exact ⟨q, by omega, hD, hO⟩) rfl
  ·cases (show some _ = some oq from hoq)
   have d9 := hd 9 (by kernel_rfl) (by decide)
   have hK' := hK
   simp only [updV, Nat.reduceEqDiff, ↓reduceIte] at hK'
   clear hK hd
   generalize sq 0 = x0 at *
   generalize sq 1 = x1 at *
   generalize sq 2 = x2 at *
   generalize sq 3 = x3 at *
   generalize sq 4 = x4 at *
   generalize sq 5 = x5 at *
   generalize sq 6 = x6 at *
   generalize sq 7 = x7 at *
   generalize sq 8 = x8 at *
   generalize sq 9 = x9 at *
   generalize sq 10 = x10 at *
   generalize sq 11 = x11 at *
   generalize sq 12 = x12 at *
   generalize sq 13 = x13 at *
   generalize sq 14 = x14 at *
   generalize sq 15 = x15 at *
   obtain rfl := d9
   go_simp
   obtain ⟨q, hq, hD, hO⟩ := hJ
   refine (pick_any g 50 q _ hD.1 (by omega)).mono ?_
   rintro e w2 ⟨u, rfl, a9, b9, hR, hO2⟩
   exact hK' _ _ hO2 ⟨q + 1, by omega, hD.step hR hO2, hO.trans hO2⟩ ⟨_, rfl⟩
  ·cases (show some _ = some oq from hoq)
   have d10 := hd 10 (by kernel_rfl) (by decide)
   have hK' := hK
   simp only [updV, Nat.reduceEqDiff, ↓reduceIte] at hK'
   clear hK hd
   generalize sq 0 = x0 at *
   generalize sq 1 = x1 at *
   generalize sq 2 = x2 at *
   generalize sq 3 = x3 at *
   generalize sq 4 = x4 at *
   generalize sq 5 = x5 at *
   generalize sq 6 = x6 at *
   generalize sq 7 = x7 at *
   generalize sq 8 = x8 at *
   generalize sq 9 = x9 at *
   generalize sq 10 = x10 at *
   generalize sq 11 = x11 at *
   generalize sq 12 = x12 at *
   generalize sq 13 = x13 at *
   generalize sq 14 = x14 at *
   generalize sq 15 = x15 at *
   obtain ⟨z10, rfl⟩ := d10
   go_simp
   exact hK' _ _ (Only.refl _ _) (by obtain ⟨q, hq, hD, hO⟩ := hJ; exact ⟨q, by omega, hD, hO⟩) ⟨_, rfl⟩
  ·cases (show some _ = some oq from hoq)
   have d8 := hd 8 (by kernel_rfl) (by decide)
   have d11 := hd 11 (by kernel_rfl) (by decide)
   have hK' := hK
   simp only [updV, Nat.reduceEqDiff, ↓reduceIte] at hK'
   clear hK hd
   generalize sq 0 = x0 at *
   generalize sq 1 = x1 at *
   generalize sq 2 = x2 at *
   generalize sq 3 = x3 at *
   generalize sq 4 = x4 at *
   generalize sq 5 = x5 at *
   generalize sq 6 = x6 at *
   generalize sq 7 = x7 at *
   generalize sq 8 = x8 at *
   generalize sq 9 = x9 at *
   generalize sq 10 = x10 at *
   generalize sq 11 = x11 at *
   generalize sq 12 = x12 at *
   generalize sq 13 = x13 at *
   generalize sq 14 = x14 at *
   generalize sq 15 = x15 at *
   obtain ⟨z8, rfl⟩ := d8
   obtain ⟨z11, rfl⟩ := d11
   go_simp
   exact hK' _ _ (Only.refl _ _) (by obtain ⟨q, hq, hD, hO⟩ := hJ; exact ⟨q, by omega, hD, hO⟩) ⟨_, rfl⟩
  ·cases (show some _ = some oq from hoq)
   have d6 := hd 6 (by kernel_rfl) (by decide)
   have d12 := hd 12 (by kernel_rfl) (by decide)
   have hK' := hK
   simp only [updV, Nat.reduceEqDiff, ↓reduceIte] at hK'
   clear hK hd
   generalize sq 0 = x0 at *
   generalize sq 1 = x1 at *
   generalize sq 2 = x2 at *
   generalize sq 3 = x3 at *
   generalize sq 4 = x4 at *
   generalize sq 5 = x5 at *
   generalize sq 6 = x6 at *
   generalize sq 7 = x7 at *
   generalize sq 8 = x8 at *
   generalize sq 9 = x9 at *
   generalize sq 10 = x10 at *
   generalize sq 11 = x11 at *
   generalize sq 12 = x12 at *
   generalize sq 13 = x13 at *
   generalize sq 14 = x14 at *
   generalize sq 15 = x15 at *
   obtain ⟨z6, rfl⟩ := d6
   obtain ⟨z12, rfl⟩ := d12
   go_simp
   exact hK' _ _ (Only.refl _ _) (by obtain ⟨q, hq, hD, hO⟩ := hJ; exact ⟨q, by omega, hD, hO⟩) ⟨_, _, rfl⟩
  ·cases (show some _ = some oq from hoq)
   have d0 := hd 0 (by kernel_rfl) (by decide)
   have d13 := hd 13 (by kernel_rfl) (by decide)
   have hK' := hK
   simp only [updV, Nat.reduceEqDiff, ↓reduceIte] at hK'
   clear hK hd
   generalize sq 0 = x0 at *
   generalize sq 1 = x1 at *
   generalize sq 2 = x2 at *
   generalize sq 3 = x3 at *
   generalize sq 4 = x4 at *
   generalize sq 5 = x5 at *
   generalize sq 6 = x6 at *
   generalize sq 7 = x7 at *
   generalize sq 8 = x8 at *
   generalize sq 9 = x9 at *
   generalize sq 10 = x10 at *
   generalize sq 11 = x11 at *
   generalize sq 12 = x12 at *
   generalize sq 13 = x13 at *
   generalize sq 14 = x14 at *
   generalize sq 15 = x15 at *
   obtain ⟨x0, y0, rfl⟩ := d0
   obtain ⟨x13, y13, rfl⟩ := d13
   go_simp
   exact hK' _ _ (Only.refl _ _) (by obtain ⟨q, hq, hD, hO⟩ := hJ; exact ⟨q, by omega, hD, hO⟩) ⟨(_, _, _, _), rfl⟩
  ·cases (show some _ = some oq from hoq)
   have hK' := hK
   simp only [updV, Nat.reduceEqDiff, ↓reduceIte] at hK'
   clear hK hd
   generalize sq 0 = x0 at *
   generalize sq 1 = x1 at *
   generalize sq 2 = x2 at *
   generalize sq 3 = x3 at *
   generalize sq 4 = x4 at *
   generalize sq 5 = x5 at *
   generalize sq 6 = x6 at *
   generalize sq 7 = x7 at *
   generalize sq 8 = x8 at *
   generalize sq 9 = x9 at *
   generalize sq 10 = x10 at *
   generalize sq 11 = x11 at *
   generalize sq 12 = x12 at *
   generalize sq 13 = x13 at *
   generalize sq 14 = x14 at *
   generalize sq 15 = x15 at *
   go_simp
   obtain ⟨q, hq, hD, hO⟩ := hJ
   exact hK' _ _ (Only.of_below (ba (Below.refl _ _)) g) ⟨q, by omega, hD.next (ba (Below.refl _ _)), hO.next (ba (Below.refl _ _))⟩ ⟨_, rfl, hO.size, Blk.new _ _ _⟩
 ·intro sq w' hJ hφ
  simp only [List.drop_succ_cons, List.drop_zero]
  have d14 := hφ 14 (by decide)
  have d15 := hφ 15 (by decide)
  clear hφ
  generalize sq 0 = x0 at *
  generalize sq 1 = x1 at *
  generalize sq 2 = x2 at *
  generalize sq 3 = x3 at *
  generalize sq 4 = x4 at *
  generalize sq 5 = x5 at *
  generalize sq 6 = x6 at *
  generalize sq 7 = x7 at *
  generalize sq 8 = x8 at *
  generalize sq 9 = x9 at *
  generalize sq 10 = x10 at *
  generalize sq 11 = x11 at *
  generalize sq 12 = x12 at *
  generalize sq 13 = x13 at *
  generalize sq 14 = x14 at *
  generalize sq 15 = x15 at *
  obtain ⟨q2, hq2, hD, hO⟩ := hJ
  obtain ⟨bx, rfl⟩ := d14
  obtain ⟨L, rfl, hL, hKL⟩ := d15
  have hneL : L ≠ g := by omega
  have hneR : w.heap.size ≠ L := by omega
  replace HD := Lib.hid hD
  replace KR := Lib.hid (KR.out.only hO hne)
  have KL := Lib.hid hKL
  clear hD hO hKL
  have cl := fun o => KL.out.cell o
  have fl := fun o => KL.out.frozen o
  have zl := KL.out.lt
  go_upto_region 3 with (fail)
  refine into_world (fun Y => Dr w g q2 Y ∧ Blk Y w.heap.size 31 #[.int .i64 0, .int .i64 0, .int .i64 0, .int .i64 0] ∧ Blk Y L 31 #[.int .i64 bx.1, .int .i64 bx.2.1, .int .i64 bx.2.2.1, .int .i64 bx.2.2.2]) ⟨(((HD.out.set (by simp; omega) hg _).set (by simp; omega) hg _).set (by simp; omega) hg _).set (by simp; omega) hg _, (((KR.out.far (p := ⟨L, 0, none⟩) hneR _).far (p := ⟨L, 1, none⟩) hneR _).far (p := ⟨L, 2, none⟩) hneR _).far (p := ⟨L, 3, none⟩) hneR _, (((KL.out.set_ 0 _).set_ 1 _).set_ 2 _).set_ 3 _⟩ ?_
  rintro Y ⟨hD, hKR, hKL⟩
  replace HD := Lib.hid hD
  replace KR := Lib.hid hKR
  replace KL := Lib.hid hKL
  clear hD hKR hKL cl fl zl
  go_wp2_with fail
  refine (pick_any g 16 _ _ HD.out.1 (by omega)).mono ?_
  rintro e w8 ⟨v7, rfl, a7, b7, hR, hO⟩
  replace HD := Lib.hid (HD.out.step hR hO)
  replace KR := Lib.hid (KR.out.only hO hne)
  replace KL := Lib.hid (KL.out.only hO hneL)
  clear b7 hR hO
  by_cases h0 : v7 = 0
  rotate_left
  ·have h0' : (v7 == 0) = false := by simpa using h0
   clear h0
   have cl := fun o => KL.out.cell o
   have fl := fun o => KL.out.frozen o
   have zl := KL.out.lt
   have cr := fun o => KR.out.cell o
   have fr := fun o => KR.out.frozen o
   have zr := KR.out.lt
   go_wp2_with fail
   refine bodyPost_ret (v := .agg #[.int .i64 bx.1, .int .i64 bx.2.1, .int .i64 bx.2.2.1, .int .i64 bx.2.2.2]) (by simp [results, Tryz.results54, go_sem, cr]) rfl ?_
   exact ⟨bx, q2 + 1, rfl, by omega, (((HD.out.set (by simp) hg _).set (by simp) hg _).set (by simp) hg _).set (by simp) hg _⟩
  have h0' : (v7 == 0) = true := by simpa using h0
  clear h0
  go_upto_region 4 with (fail)
  refine wp_region_grow 6 (by kernel_rfl) (by kernel_rfl) (by kernel_rfl) (fun a b => Only g a b) (fun mq w' => ∃ q, q ≤ p + 26 + mq ∧ Dr w g q w' ∧ Only g w8 w') (fun iq v w' => match iq with | 0 => (v = .pointer (some ⟨L, 0, none⟩)) | 1 => (v = .pointer (some ⟨L, 0, none⟩)) | 2 => (∃ z : Int, v = .int .i64 z) | 3 => (v = .pointer (some ⟨g, 0, none⟩)) | 4 => (∃ z : Int, v = .int .i64 z) | 5 => (∃ z : Int, v = .int .i64 z) | _ => True) (fun sq => { tmps := #[Value.pointer (some (⟨g, 0, none⟩ : Addr)), undef, Value.pointer (some (⟨w.heap.size, 0, none⟩ : Addr)), Value.pointer (some (⟨w1.heap.size, 0, none⟩ : Addr)), Value.pointer (some (⟨L, 0, none⟩ : Addr)), Value.pointer (some (⟨g, 0, none⟩ : Addr)), Value.agg #[Value.int .i64 a1, Value.int .i64 b1], x0, x1, x2, x3, x4, x5, x6, x7, x8, x9, x10, x11, x12, x13, Value.agg #[Value.int .i64 bx.fst, Value.int .i64 bx.snd.fst, Value.int .i64 bx.snd.snd.fst, Value.int .i64 bx.snd.snd.snd], Value.pointer (some (⟨g, 0, none⟩ : Addr)), Value.int .i64 v7, Value.bool true, sq 0, sq 1, sq 2, sq 3, sq 4, sq 5, undef, undef, undef], defers := [] }) (fun _ => undef) ?_ ?_ ?_ ?_
  ·rintro iq v a b hg h
   match iq, h with
   | 0, h => exact h
   | 1, h => exact h
   | 2, h => exact h
   | 3, h => exact h
   | 4, h => exact h
   | 5, h => exact h
   | (kq + 6), _ => exact trivial
  ·exact ⟨_, by omega, HD.out.next ⟨rfl, rfl, rfl, Nat.le_refl _, fun _ _ => rfl⟩, (show Only g w8 w8.drew from ⟨rfl, rfl, rfl, Nat.le_refl _, fun _ _ _ => rfl⟩)⟩
  ·intro mq sq w' iq oq hmq hiq hoq hJ hd Kq hK
   have hiq' : iq = 0 ∨ iq = 1 ∨ iq = 2 ∨ iq = 3 ∨ iq = 4 ∨ iq = 5 := by omega
   rcases hiq' with rfl | rfl | rfl | rfl | rfl | rfl
   ·cases (show some _ = some oq from hoq)
    have hK' := hK
    simp only [updV, Nat.reduceEqDiff, ↓reduceIte] at hK'
    clear hK hd
    generalize sq 0 = x0 at *
    generalize sq 1 = x1 at *
    generalize sq 2 = x2 at *
    generalize sq 3 = x3 at *
    generalize sq 4 = x4 at *
    generalize sq 5 = x5 at *
    go_simp
    exact hK' _ _ (Only.refl _ _) (by obtain ⟨q, hq, hD, hO⟩ := hJ; exact ⟨q, by omega, hD, hO⟩) rfl
   ·cases (show some _ = some oq from hoq)
    have d0 := hd 0 (by kernel_rfl) (by decide)
    have hK' := hK
    simp only [updV, Nat.reduceEqDiff, ↓reduceIte] at hK'
    clear hK hd
    generalize sq 0 = x0 at *
    generalize sq 1 = x1 at *
    generalize sq 2 = x2 at *
    generalize sq 3 = x3 at *
    generalize sq 4 = x4 at *
    generalize sq 5 = x5 at *
    obtain rfl := d0
    go_simp
    exact hK' _ _ (Only.refl _ _) (by obtain ⟨q, hq, hD, hO⟩ := hJ; exact ⟨q, by omega, hD, hO⟩) rfl
   ·cases (show some _ = some oq from hoq)
    have d1 := hd 1 (by kernel_rfl) (by decide)
    have hK' := hK
    simp only [updV, Nat.reduceEqDiff, ↓reduceIte] at hK'
    clear hK hd
    generalize sq 0 = x0 at *
    generalize sq 1 = x1 at *
    generalize sq 2 = x2 at *
    generalize sq 3 = x3 at *
    generalize sq 4 = x4 at *
    generalize sq 5 = x5 at *
    obtain rfl := d1
    have hcc := (KL.out.only (by obtain ⟨q, hq, hD, hO⟩ := hJ; exact hO) hneL).cell 0
    go_simp
    exact hK' _ _ (Only.refl _ _) (by obtain ⟨q, hq, hD, hO⟩ := hJ; exact ⟨q, by omega, hD, hO⟩) ⟨_, rfl⟩
   ·cases (show some _ = some oq from hoq)
    have hK' := hK
    simp only [updV, Nat.reduceEqDiff, ↓reduceIte] at hK'
    clear hK hd
    generalize sq 0 = x0 at *
    generalize sq 1 = x1 at *
    generalize sq 2 = x2 at *
    generalize sq 3 = x3 at *
    generalize sq 4 = x4 at *
    generalize sq 5 = x5 at *
    go_simp
    exact hK' _ _ (Only.refl _ _) (by obtain ⟨q, hq, hD, hO⟩ := hJ; exact ⟨q, by omega, hD, hO⟩) rfl
   ·cases (show some _ = some oq from hoq)
    have d3 := hd 3 (by kernel_rfl) (by decide)
    have hK' := hK
    simp only [updV, Nat.reduceEqDiff, ↓reduceIte] at hK'
    clear hK hd
    generalize sq 0 = x0 at *
    generalize sq 1 = x1 at *
    generalize sq 2 = x2 at *
    generalize sq 3 = x3 at *
    generalize sq 4 = x4 at *
    generalize sq 5 = x5 at *
    obtain rfl := d3
    go_simp
    obtain ⟨q, hq, hD, hO⟩ := hJ
    refine (pick_any g 3 q _ hD.1 (by omega)).mono ?_
    rintro e w2 ⟨u, rfl, a9, b9, hR, hO2⟩
    exact hK' _ _ hO2 ⟨q + 1, by omega, hD.step hR hO2, hO.trans hO2⟩ ⟨_, rfl⟩
   ·cases (show some _ = some oq from hoq)
    have d2 := hd 2 (by kernel_rfl) (by decide)
    have d4 := hd 4 (by kernel_rfl) (by decide)
    have hK' := hK
    simp only [updV, Nat.reduceEqDiff, ↓reduceIte] at hK'
    clear hK hd
    generalize sq 0 = x0 at *
    generalize sq 1 = x1 at *
    generalize sq 2 = x2 at *
    generalize sq 3 = x3 at *
    generalize sq 4 = x4 at *
    generalize sq 5 = x5 at *
    obtain ⟨z2, rfl⟩ := d2
    obtain ⟨z4, rfl⟩ := d4
    go_simp
    exact hK' _ _ (Only.refl _ _) (by obtain ⟨q, hq, hD, hO⟩ := hJ; exact ⟨q, by omega, hD, hO⟩) ⟨_, rfl⟩
  ·intro sq w' hJ hφ
   simp only [List.drop_succ_cons, List.drop_zero]
   have d5 := hφ 5 (by decide)
   clear hφ
   generalize sq 0 = x0 at *
   generalize sq 1 = x1 at *
   generalize sq 2 = x2 at *
   generalize sq 3 = x3 at *
   generalize sq 4 = x4 at *
   generalize sq 5 = x5 at *
   obtain ⟨q3, hq3, hD, hO⟩ := hJ
   obtain ⟨zz, rfl⟩ := d5
   replace HD := Lib.hid hD
   replace KR := Lib.hid (KR.out.only hO hne)
   replace KL := Lib.hid (KL.out.only hO hneL)
   clear hD hO
   have cl := fun o => KL.out.cell o
   have fl := fun o => KL.out.frozen o
   have zl := KL.out.lt
   go_upto_region 5 with (fail)
   refine into_world (fun Y => Dr w g q3 Y ∧ Blk Y w.heap.size 31 #[.int .i64 0, .int .i64 0, .int .i64 0, .int .i64 0] ∧ Blk Y L 31 #[.int .i64 bx.1, .int .i64 bx.2.1, .int .i64 zz, .int .i64 bx.2.2.2]) ⟨HD.out.set (by simp; omega) hg _, KR.out.far (p := ⟨L, 2, none⟩) hneR _, KL.out.set_ 2 _⟩ ?_
   rintro Y2 ⟨hD, hKR, hKL⟩
   replace HD := Lib.hid hD
   replace KR := Lib.hid hKR
   replace KL := Lib.hid hKL
   clear hD hKR hKL cl fl zl
   have cl := fun o => KL.out.cell o
   have fl := fun o => KL.out.frozen o
   have zl := KL.out.lt
   have cr := fun o => KR.out.cell o
   have fr := fun o => KR.out.frozen o
   have zr := KR.out.lt
   go_wp2_with fail
   refine bodyPost_ret (v := .agg #[.int .i64 bx.1, .int .i64 bx.2.1, .int .i64 zz, .int .i64 bx.2.2.2]) (by simp [results, Tryz.results54, go_sem, cr]) rfl ?_
   exact ⟨(bx.1, bx.2.1, zz, bx.2.2.2), q3, rfl, by omega, (((HD.out.set (by simp) hg _).set (by simp) hg _).set (by simp) hg _).set (by simp) hg _⟩
end Go.Proofs.YtemnlheidghbmaaGreat

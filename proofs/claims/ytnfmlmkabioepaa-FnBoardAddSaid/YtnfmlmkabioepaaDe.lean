/-
  The reference's l92Entry: whatever the code, it gives some entry and leaves the reader further on.
-/
import Derived.Test.YtnfmlmkabioepaaDr
import Derived.Test.YtnfmlmkabioepaaBa
namespace Go.Proofs.Ytnfmlmkabioepaa
open Go.RowKit Go.Sort

def DrawPost (g p K : Nat) (R : Value → World → Prop) (w : World) (e : Ending) (w' : World) : Prop :=
  ∃ (v : Value) (p' : Nat), e = .returned v ∧ R v w' ∧ p' ≤ p + K ∧ Rdr w' g p' ∧ Only g w w'

set_option maxRecDepth 100000 in
set_option maxHeartbeats 2000000 in
theorem l92Entry_any (g p : Nat) (w : World) (h : Rdr w g p) (hp : p ≤ 1000000000) :
    Calls Try.prog 45 #[.pointer (some ⟨g, 0, none⟩)] w (DrawPost g p 4 (fun v _ => ∃ x : Ent, v = .agg #[.int .i64 x.1, .int .i64 x.2]) w) := by
  have hg := h.lt
  have hW0 : Below w.heap.size w (w.alloc (.cells #[.int .i64 0, .int .i64 0] 25)) := (Below.refl _ _).alloc (Nat.le_refl _) _
  have hR0 := h.next hW0
  have hb0 : Blk (w.alloc (.cells #[.int .i64 0, .int .i64 0] 25)) w.heap.size 25 #[.int .i64 0, .int .i64 0] := Blk.new _ _ _
  have HR0 := Lib.hid hR0
  have HB0 := Lib.hid hb0
  have HW0 := Lib.hid hW0
  clear h hR0 hb0 hW0
  go_enter Try.func45, Try.ntmps45
  go_wp2_with fail
  refine (pick_any g 7 p _ HR0.out (by omega)).mono ?_
  rintro e w1 ⟨v1, rfl, a1, b1, hR1, hO1⟩
  have c1 := b1 (by omega)
  have HB1 := Lib.hid (HB0.out.only hO1 (by omega))
  have HO1 := Lib.hid ((Only.of_below HW0.out g).trans hO1)
  have HR1 := Lib.hid hR1
  have hs1 := hO1.size
  simp only [World.size_alloc] at hs1
  clear b1 hO1 hR1
  go_wp2_with fail
  refine (pick_any g 8 _ _ HR1.out (by omega)).mono ?_
  rintro e w2 ⟨v2, rfl, a2, b2, hR2, hO2⟩
  have c2 := b2 (by omega)
  have hs2 := hO2.size
  have HB2 := Lib.hid (HB1.out.only hO2 (by omega))
  have HO2 := Lib.hid (HO1.out.trans hO2)
  have HR2 := Lib.hid hR2
  have hW3 : Below w2.heap.size w2 (w2.alloc (.cells #[.int .i64 v1, .int .i64 (5 + v2)] 25)) := (Below.refl _ _).alloc (Nat.le_refl _) _
  have HB3 := Lib.hid (HB2.out.next hW3)
  have HO3 := Lib.hid (HO2.out.trans (Only.of_below hW3 g))
  have HR3 := Lib.hid (hR2.next hW3)
  have HE3 := Lib.hid (Blk.new w2 25 #[.int .i64 v1, .int .i64 (5 + v2)])
  clear b2 hO2 hR2 hW3
  go_wp2_with fail
  refine (pick_any g 24 _ _ HR3.out (by omega)).mono ?_
  rintro e w4 ⟨v4, rfl, a4, b4, hR4, hO4⟩
  have HB4 := Lib.hid (HB3.out.only hO4 (by omega))
  have HE4 := Lib.hid (HE3.out.only hO4 (by omega))
  have HO4 := Lib.hid (HO3.out.trans hO4)
  have HR4 := Lib.hid hR4
  have hs4 := hO4.size
  simp only [World.size_alloc] at hs4
  clear b4 hO4 hR4
  -- the end: the entry in block 'w2.heap.size' is copied into the result's cell
  by_cases h0 : v4 = 0
  · have h0' : (v4 == 0) = true := by simpa using h0
    clear h0
    go_wp2_with fail
    refine (pick_any g 2 _ _ HR4.out (by omega)).mono ?_
    rintro e w5 ⟨v5, rfl, a5, b5, hR5, hO5⟩
    have c5 := b5 (by omega)
    have hB5 := HB4.out.only hO5 (by omega)
    have hE5 := HE4.out.only hO5 (by omega)
    have HO5 := Lib.hid (HO4.out.trans hO5)
    have HR5 := Lib.hid hR5
    have e0 := hE5.cell 0
    have e1 := hE5.cell 1
    have e2 := hE5.frozen 0
    have r0 := hB5.cell 0
    have r1 := hB5.cell 1
    have r2 := hB5.frozen 0
    have r3 := hB5.frozen 1
    have hne : w.heap.size ≠ w2.heap.size := by omega
    have hgl := HR5.out.lt
    simp at e0 e1 r0 r1
    clear b5 hR5 hB5 hE5 hO5
    go_wp2
    refine bodyPost_ret (v := .agg #[.int .i64 (v5 * 11 - 1), .int .i64 (5 + v2)]) (by simp [results, Try.results45, go_sem, r0, r1]) rfl ?_
    exact ⟨_, p + 4, rfl, ⟨(v5 * 11 - 1, 5 + v2), rfl⟩, Nat.le_refl _, ((HR5.out.set_ (by simp; omega) _).set_ (by simp; omega) _).set_ (by simp; omega) _, ((HO5.out.set_ (.inr (by simp; omega)) _).set_ (.inr (by simp)) _).set_ (.inr (by simp)) _⟩
  · have h0' : (v4 == 0) = false := by simpa using h0
    by_cases h1 : v4 = 1
    · have h1' : (v4 == 1) = true := by simpa using h1
      clear h0 h1
      have hW5 : Below w4.heap.size w4 (w4.alloc (.cells #[.int .i64 (-1), .int .i64 0, .int .i64 60, .int .i64 61] 3)) := (Below.refl _ _).alloc (Nat.le_refl _) _
      have HB5 := Lib.hid (HB4.out.next hW5)
      have HE5 := Lib.hid (HE4.out.next hW5)
      have HO5 := Lib.hid (HO4.out.trans (Only.of_below hW5 g))
      have HR5 := Lib.hid (HR4.out.next hW5)
      have HL5 := Lib.hid (Blk.new w4 3 #[.int .i64 (-1), .int .i64 0, .int .i64 60, .int .i64 61])
      clear hW5
      go_wp2_with fail
      refine (pick_any g 4 _ _ HR5.out (by omega)).mono ?_
      rintro e w6 ⟨v6, rfl, a6, b6, hR6, hO6⟩
      have c6 := b6 (by omega)
      have hB6 := HB5.out.only hO6 (by omega)
      have hE6 := HE5.out.only hO6 (by omega)
      have hL6 := HL5.out.only hO6 (by have := HR4.out.lt; omega)
      have HO6 := Lib.hid (HO5.out.trans hO6)
      have HR6 := Lib.hid hR6
      have e0 := hE6.cell 0
      have e1 := hE6.cell 1
      have e3 := hE6.frozen 1
      have r0 := hB6.cell 0
      have r1 := hB6.cell 1
      have r2 := hB6.frozen 0
      have r3 := hB6.frozen 1
      have hne : w.heap.size ≠ w2.heap.size := by omega
      obtain ⟨u, hu⟩ : ∃ u : Int, w6.cell? ⟨w4.heap.size, v6.toNat, none⟩ = some (.int .i64 u) := by
        rw [hL6.cell]
        have : v6 = 0 ∨ v6 = 1 ∨ v6 = 2 ∨ v6 = 3 := by omega
        rcases this with rfl | rfl | rfl | rfl
        · exact ⟨-1, rfl⟩
        · exact ⟨0, rfl⟩
        · exact ⟨60, rfl⟩
        · exact ⟨61, rfl⟩
      simp at e0 e1 r0 r1
      clear b6 hR6 hB6 hE6 hO6 hL6
      go_wp2
      refine bodyPost_ret (v := .agg #[.int .i64 v1, .int .i64 u]) (by simp [results, Try.results45, go_sem, r0, r1]) rfl ?_
      exact ⟨_, p + 4, rfl, ⟨(v1, u), rfl⟩, Nat.le_refl _, ((HR6.out.set_ (by simp; omega) _).set_ (by simp; omega) _).set_ (by simp; omega) _, ((HO6.out.set_ (.inr (by simp; omega)) _).set_ (.inr (by simp)) _).set_ (.inr (by simp)) _⟩
    · have h1' : (v4 == 1) = false := by simpa using h1
      clear h0 h1
      have e0 := HE4.out.cell 0
      have e1 := HE4.out.cell 1
      have r0 := HB4.out.cell 0
      have r1 := HB4.out.cell 1
      have r2 := HB4.out.frozen 0
      have r3 := HB4.out.frozen 1
      have hne : w.heap.size ≠ w2.heap.size := by omega
      simp at e0 e1 r0 r1
      go_wp2
      refine bodyPost_ret (v := .agg #[.int .i64 v1, .int .i64 (5 + v2)]) (by simp [results, Try.results45, go_sem, r0, r1]) rfl ?_
      exact ⟨_, p + 3, rfl, ⟨(v1, 5 + v2), rfl⟩, by omega, (HR4.out.set_ (by simp; omega) _).set_ (by simp; omega) _, (HO4.out.set_ (.inr (by simp)) _).set_ (.inr (by simp)) _⟩
end Go.Proofs.Ytnfmlmkabioepaa

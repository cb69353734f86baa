/-
  The invariant of the first region of l41Copy: what each of its operations has left, in whatever order they come. No condition: lemmas.
-/
import Derived.Test.YtnfmlmkabioepaaAn
import Derived.Test.YtnfmlmkabioepaaCr
namespace Go.Proofs.Ytnfmlmkabioepaa
open Go.RowKit Go.Sort
set_option linter.unusedVariables false

def upd (D : Nat → Bool) (i : Nat) : Nat → Bool := fun j => if j = i then true else D j
def Dl (listed : Array Bool) : Nat → Bool := fun j => listed.getD j true
theorem Dl_set {listed : Array Bool} {i : Nat} (h : i < listed.size) : Dl (listed.setIfInBounds i true) = upd (Dl listed) i := by
  funext j
  unfold Dl upd
  by_cases e : j = i
  · subst e; rw [getD_set_self h, if_pos rfl]
  · rw [getD_set_other (fun h' => e h'.symm), if_neg e]
theorem upd_self (D : Nat → Bool) (i : Nat) : upd D i i = true := by simp [upd]
theorem upd_ne (D : Nat → Bool) {i j : Nat} (h : j ≠ i) : upd D i j = D j := by simp [upd, h]

structure C1 (k g : Sl) (S : Svc) (W : World) (B : Nat) (D : Nat → Bool) (s3 s5 s6 s7 s8 s9 s10 s11 s12 s13 s14 : Value) (w : World) : Prop where
  bel : Below W.heap.size W w
  f0 : D 0 = true → ∃ A, s5 = .slice A 0 0
  f1 : D 1 = true → ∃ A, s6 = .slice A 0 0
  f2 : D 2 = true → s7 = .pointer (some ⟨B, 1, none⟩)
  f3 : D 3 = true → s8 = .slice k.a k.n k.c
  f4 : D 4 = true → ∃ A c, s9 = .slice A k.n c ∧ OwZ W.heap.size w.heap.size w ⟨A, k.n, c⟩ S.keys
  f5 : D 5 = true → ∃ A, s10 = .slice A 0 0
  f6 : D 6 = true → s11 = .pointer (some ⟨B, 2, none⟩)
  f7 : D 7 = true → s12 = .slice g.a g.n g.c
  f8 : D 8 = true → ∃ A c, s13 = .slice A g.n c ∧ OwZ W.heap.size w.heap.size w ⟨A, g.n, c⟩ S.tags
  f9 : D 9 = true → D 0 = true ∧ D 4 = true ∧ D 8 = true ∧ s14 = .agg #[s5, s9, s13]
  f10 : D 10 = true → ∃ o, s3 = .pointer (some ⟨o, 0, none⟩) ∧ W.heap.size ≤ o ∧ o < w.heap.size ∧ (D 11 = false → Blk w o 41 #[.slice none 0 0, .slice none 0 0, .slice none 0 0])
  f11 : D 11 = true → D 9 = true ∧ D 10 = true ∧ ∃ o, s3 = .pointer (some ⟨o, 0, none⟩) ∧ Blk w o 41 #[s5, s9, s13]
  nd : D 4 = true → D 8 = true → ∀ A c A' c', s9 = .slice A k.n c → s13 = .slice A' g.n c' → (blkOf ⟨A, k.n, c⟩ ++ blkOf ⟨A', g.n, c'⟩).Nodup
section
variable {k g : Sl} {S : Svc} {W w w' : World} {B : Nat} {D : Nat → Bool} {s3 s5 s6 s7 s8 s9 s10 s11 s12 s13 s14 : Value}
theorem C1.next (h : C1 k g S W B D s3 s5 s6 s7 s8 s9 s10 s11 s12 s13 s14 w) (hb : Below w.heap.size w w') : C1 k g S W B D s3 s5 s6 s7 s8 s9 s10 s11 s12 s13 s14 w' :=
  { bel := below_next h.bel hb
    f0 := h.f0, f1 := h.f1, f2 := h.f2, f3 := h.f3, f5 := h.f5, f6 := h.f6, f7 := h.f7, f9 := h.f9, nd := h.nd
    f4 := fun q => by obtain ⟨A, c, e, ho⟩ := h.f4 q; exact ⟨A, c, e, (OwI.next ho hb).mono (Nat.le_refl _) hb.size⟩
    f8 := fun q => by obtain ⟨A, c, e, ho⟩ := h.f8 q; exact ⟨A, c, e, (OwI.next ho hb).mono (Nat.le_refl _) hb.size⟩
    f10 := fun q => by obtain ⟨o, e, h1, h2, h3⟩ := h.f10 q; exact ⟨o, e, h1, Nat.lt_of_lt_of_le h2 hb.size, fun q' => (h3 q').next hb⟩
    f11 := fun q => by obtain ⟨h1, h2, o, e, h3⟩ := h.f11 q; exact ⟨h1, h2, o, e, h3.next hb⟩ }

theorem C1.u0 (h : C1 k g S W B D s3 s5 s6 s7 s8 s9 s10 s11 s12 s13 s14 w) (hi : D 0 = false) (A : Option Addr) : C1 k g S W B (upd D 0) s3 (.slice A 0 0) s6 s7 s8 s9 s10 s11 s12 s13 s14 w :=
  { bel := h.bel
    f0 := fun _ => ⟨A, rfl⟩
    f1 := fun q => h.f1 (by rw [upd_ne _ (by decide)] at q; exact q)
    f2 := fun q => h.f2 (by rw [upd_ne _ (by decide)] at q; exact q)
    f3 := fun q => h.f3 (by rw [upd_ne _ (by decide)] at q; exact q)
    f4 := fun q => h.f4 (by rw [upd_ne _ (by decide)] at q; exact q)
    f5 := fun q => h.f5 (by rw [upd_ne _ (by decide)] at q; exact q)
    f6 := fun q => h.f6 (by rw [upd_ne _ (by decide)] at q; exact q)
    f7 := fun q => h.f7 (by rw [upd_ne _ (by decide)] at q; exact q)
    f8 := fun q => h.f8 (by rw [upd_ne _ (by decide)] at q; exact q)
    f9 := fun q => absurd ((h.f9 (by rw [upd_ne _ (by decide)] at q; exact q)).1) (by rw [hi]; exact Bool.false_ne_true)
    f10 := fun q => by
      obtain ⟨o, a, b, c, d⟩ := h.f10 (by rw [upd_ne _ (by decide)] at q; exact q)
      exact ⟨o, a, b, c, fun q' => d (by rw [upd_ne _ (by decide)] at q'; exact q')⟩
    f11 := fun q => absurd ((h.f9 (h.f11 (by rw [upd_ne _ (by decide)] at q; exact q)).1).1) (by rw [hi]; exact Bool.false_ne_true)
    nd := fun q q' => h.nd (by rw [upd_ne _ (by decide)] at q; exact q) (by rw [upd_ne _ (by decide)] at q'; exact q') }
theorem C1.u1 (h : C1 k g S W B D s3 s5 s6 s7 s8 s9 s10 s11 s12 s13 s14 w) (hi : D 1 = false) (A : Option Addr) : C1 k g S W B (upd D 1) s3 s5 (.slice A 0 0) s7 s8 s9 s10 s11 s12 s13 s14 w :=
  { bel := h.bel
    f0 := fun q => h.f0 (by rw [upd_ne _ (by decide)] at q; exact q)
    f1 := fun _ => ⟨A, rfl⟩
    f2 := fun q => h.f2 (by rw [upd_ne _ (by decide)] at q; exact q)
    f3 := fun q => h.f3 (by rw [upd_ne _ (by decide)] at q; exact q)
    f4 := fun q => h.f4 (by rw [upd_ne _ (by decide)] at q; exact q)
    f5 := fun q => h.f5 (by rw [upd_ne _ (by decide)] at q; exact q)
    f6 := fun q => h.f6 (by rw [upd_ne _ (by decide)] at q; exact q)
    f7 := fun q => h.f7 (by rw [upd_ne _ (by decide)] at q; exact q)
    f8 := fun q => h.f8 (by rw [upd_ne _ (by decide)] at q; exact q)
    f9 := fun q => by
      obtain ⟨a, b, c, d⟩ := h.f9 (by rw [upd_ne _ (by decide)] at q; exact q)
      exact ⟨by rw [upd_ne _ (by decide)]; exact a, by rw [upd_ne _ (by decide)]; exact b, by rw [upd_ne _ (by decide)]; exact c, d⟩
    f10 := fun q => by
      obtain ⟨o, a, b, c, d⟩ := h.f10 (by rw [upd_ne _ (by decide)] at q; exact q)
      exact ⟨o, a, b, c, fun q' => d (by rw [upd_ne _ (by decide)] at q'; exact q')⟩
    f11 := fun q => by
      obtain ⟨a, b, o, c, d⟩ := h.f11 (by rw [upd_ne _ (by decide)] at q; exact q)
      exact ⟨by rw [upd_ne _ (by decide)]; exact a, by rw [upd_ne _ (by decide)]; exact b, o, c, d⟩
    nd := fun q q' => h.nd (by rw [upd_ne _ (by decide)] at q; exact q) (by rw [upd_ne _ (by decide)] at q'; exact q') }
theorem C1.u2 (h : C1 k g S W B D s3 s5 s6 s7 s8 s9 s10 s11 s12 s13 s14 w) (hi : D 2 = false)  : C1 k g S W B (upd D 2) s3 s5 s6 (.pointer (some ⟨B, 1, none⟩)) s8 s9 s10 s11 s12 s13 s14 w :=
  { bel := h.bel
    f0 := fun q => h.f0 (by rw [upd_ne _ (by decide)] at q; exact q)
    f1 := fun q => h.f1 (by rw [upd_ne _ (by decide)] at q; exact q)
    f2 := fun _ => rfl
    f3 := fun q => h.f3 (by rw [upd_ne _ (by decide)] at q; exact q)
    f4 := fun q => h.f4 (by rw [upd_ne _ (by decide)] at q; exact q)
    f5 := fun q => h.f5 (by rw [upd_ne _ (by decide)] at q; exact q)
    f6 := fun q => h.f6 (by rw [upd_ne _ (by decide)] at q; exact q)
    f7 := fun q => h.f7 (by rw [upd_ne _ (by decide)] at q; exact q)
    f8 := fun q => h.f8 (by rw [upd_ne _ (by decide)] at q; exact q)
    f9 := fun q => by
      obtain ⟨a, b, c, d⟩ := h.f9 (by rw [upd_ne _ (by decide)] at q; exact q)
      exact ⟨by rw [upd_ne _ (by decide)]; exact a, by rw [upd_ne _ (by decide)]; exact b, by rw [upd_ne _ (by decide)]; exact c, d⟩
    f10 := fun q => by
      obtain ⟨o, a, b, c, d⟩ := h.f10 (by rw [upd_ne _ (by decide)] at q; exact q)
      exact ⟨o, a, b, c, fun q' => d (by rw [upd_ne _ (by decide)] at q'; exact q')⟩
    f11 := fun q => by
      obtain ⟨a, b, o, c, d⟩ := h.f11 (by rw [upd_ne _ (by decide)] at q; exact q)
      exact ⟨by rw [upd_ne _ (by decide)]; exact a, by rw [upd_ne _ (by decide)]; exact b, o, c, d⟩
    nd := fun q q' => h.nd (by rw [upd_ne _ (by decide)] at q; exact q) (by rw [upd_ne _ (by decide)] at q'; exact q') }
theorem C1.u3 (h : C1 k g S W B D s3 s5 s6 s7 s8 s9 s10 s11 s12 s13 s14 w) (hi : D 3 = false)  : C1 k g S W B (upd D 3) s3 s5 s6 s7 (.slice k.a k.n k.c) s9 s10 s11 s12 s13 s14 w :=
  { bel := h.bel
    f0 := fun q => h.f0 (by rw [upd_ne _ (by decide)] at q; exact q)
    f1 := fun q => h.f1 (by rw [upd_ne _ (by decide)] at q; exact q)
    f2 := fun q => h.f2 (by rw [upd_ne _ (by decide)] at q; exact q)
    f3 := fun _ => rfl
    f4 := fun q => h.f4 (by rw [upd_ne _ (by decide)] at q; exact q)
    f5 := fun q => h.f5 (by rw [upd_ne _ (by decide)] at q; exact q)
    f6 := fun q => h.f6 (by rw [upd_ne _ (by decide)] at q; exact q)
    f7 := fun q => h.f7 (by rw [upd_ne _ (by decide)] at q; exact q)
    f8 := fun q => h.f8 (by rw [upd_ne _ (by decide)] at q; exact q)
    f9 := fun q => by
      obtain ⟨a, b, c, d⟩ := h.f9 (by rw [upd_ne _ (by decide)] at q; exact q)
      exact ⟨by rw [upd_ne _ (by decide)]; exact a, by rw [upd_ne _ (by decide)]; exact b, by rw [upd_ne _ (by decide)]; exact c, d⟩
    f10 := fun q => by
      obtain ⟨o, a, b, c, d⟩ := h.f10 (by rw [upd_ne _ (by decide)] at q; exact q)
      exact ⟨o, a, b, c, fun q' => d (by rw [upd_ne _ (by decide)] at q'; exact q')⟩
    f11 := fun q => by
      obtain ⟨a, b, o, c, d⟩ := h.f11 (by rw [upd_ne _ (by decide)] at q; exact q)
      exact ⟨by rw [upd_ne _ (by decide)]; exact a, by rw [upd_ne _ (by decide)]; exact b, o, c, d⟩
    nd := fun q q' => h.nd (by rw [upd_ne _ (by decide)] at q; exact q) (by rw [upd_ne _ (by decide)] at q'; exact q') }
theorem C1.u4 (h : C1 k g S W B D s3 s5 s6 s7 s8 s9 s10 s11 s12 s13 s14 w) (hi : D 4 = false) (A : Option Addr) (c : Nat) (ho : OwZ W.heap.size w.heap.size w ⟨A, k.n, c⟩ S.keys) (hnd : D 8 = true → ∀ A' c', s13 = .slice A' g.n c' → (blkOf ⟨A, k.n, c⟩ ++ blkOf ⟨A', g.n, c'⟩).Nodup) : C1 k g S W B (upd D 4) s3 s5 s6 s7 s8 (.slice A k.n c) s10 s11 s12 s13 s14 w :=
  { bel := h.bel
    f0 := fun q => h.f0 (by rw [upd_ne _ (by decide)] at q; exact q)
    f1 := fun q => h.f1 (by rw [upd_ne _ (by decide)] at q; exact q)
    f2 := fun q => h.f2 (by rw [upd_ne _ (by decide)] at q; exact q)
    f3 := fun q => h.f3 (by rw [upd_ne _ (by decide)] at q; exact q)
    f4 := fun _ => ⟨A, c, rfl, ho⟩
    f5 := fun q => h.f5 (by rw [upd_ne _ (by decide)] at q; exact q)
    f6 := fun q => h.f6 (by rw [upd_ne _ (by decide)] at q; exact q)
    f7 := fun q => h.f7 (by rw [upd_ne _ (by decide)] at q; exact q)
    f8 := fun q => h.f8 (by rw [upd_ne _ (by decide)] at q; exact q)
    f9 := fun q => absurd ((h.f9 (by rw [upd_ne _ (by decide)] at q; exact q)).2.1) (by rw [hi]; exact Bool.false_ne_true)
    f10 := fun q => by
      obtain ⟨o, a, b, c, d⟩ := h.f10 (by rw [upd_ne _ (by decide)] at q; exact q)
      exact ⟨o, a, b, c, fun q' => d (by rw [upd_ne _ (by decide)] at q'; exact q')⟩
    f11 := fun q => absurd ((h.f9 (h.f11 (by rw [upd_ne _ (by decide)] at q; exact q)).1).2.1) (by rw [hi]; exact Bool.false_ne_true)
    nd := fun _ q A1 c1 A' c' e e' => by
      injection e with e1 _ e3
      subst e1 e3
      exact hnd (by rw [upd_ne _ (by decide)] at q; exact q) A' c' e' }
theorem C1.u5 (h : C1 k g S W B D s3 s5 s6 s7 s8 s9 s10 s11 s12 s13 s14 w) (hi : D 5 = false) (A : Option Addr) : C1 k g S W B (upd D 5) s3 s5 s6 s7 s8 s9 (.slice A 0 0) s11 s12 s13 s14 w :=
  { bel := h.bel
    f0 := fun q => h.f0 (by rw [upd_ne _ (by decide)] at q; exact q)
    f1 := fun q => h.f1 (by rw [upd_ne _ (by decide)] at q; exact q)
    f2 := fun q => h.f2 (by rw [upd_ne _ (by decide)] at q; exact q)
    f3 := fun q => h.f3 (by rw [upd_ne _ (by decide)] at q; exact q)
    f4 := fun q => h.f4 (by rw [upd_ne _ (by decide)] at q; exact q)
    f5 := fun _ => ⟨A, rfl⟩
    f6 := fun q => h.f6 (by rw [upd_ne _ (by decide)] at q; exact q)
    f7 := fun q => h.f7 (by rw [upd_ne _ (by decide)] at q; exact q)
    f8 := fun q => h.f8 (by rw [upd_ne _ (by decide)] at q; exact q)
    f9 := fun q => by
      obtain ⟨a, b, c, d⟩ := h.f9 (by rw [upd_ne _ (by decide)] at q; exact q)
      exact ⟨by rw [upd_ne _ (by decide)]; exact a, by rw [upd_ne _ (by decide)]; exact b, by rw [upd_ne _ (by decide)]; exact c, d⟩
    f10 := fun q => by
      obtain ⟨o, a, b, c, d⟩ := h.f10 (by rw [upd_ne _ (by decide)] at q; exact q)
      exact ⟨o, a, b, c, fun q' => d (by rw [upd_ne _ (by decide)] at q'; exact q')⟩
    f11 := fun q => by
      obtain ⟨a, b, o, c, d⟩ := h.f11 (by rw [upd_ne _ (by decide)] at q; exact q)
      exact ⟨by rw [upd_ne _ (by decide)]; exact a, by rw [upd_ne _ (by decide)]; exact b, o, c, d⟩
    nd := fun q q' => h.nd (by rw [upd_ne _ (by decide)] at q; exact q) (by rw [upd_ne _ (by decide)] at q'; exact q') }
theorem C1.u6 (h : C1 k g S W B D s3 s5 s6 s7 s8 s9 s10 s11 s12 s13 s14 w) (hi : D 6 = false)  : C1 k g S W B (upd D 6) s3 s5 s6 s7 s8 s9 s10 (.pointer (some ⟨B, 2, none⟩)) s12 s13 s14 w :=
  { bel := h.bel
    f0 := fun q => h.f0 (by rw [upd_ne _ (by decide)] at q; exact q)
    f1 := fun q => h.f1 (by rw [upd_ne _ (by decide)] at q; exact q)
    f2 := fun q => h.f2 (by rw [upd_ne _ (by decide)] at q; exact q)
    f3 := fun q => h.f3 (by rw [upd_ne _ (by decide)] at q; exact q)
    f4 := fun q => h.f4 (by rw [upd_ne _ (by decide)] at q; exact q)
    f5 := fun q => h.f5 (by rw [upd_ne _ (by decide)] at q; exact q)
    f6 := fun _ => rfl
    f7 := fun q => h.f7 (by rw [upd_ne _ (by decide)] at q; exact q)
    f8 := fun q => h.f8 (by rw [upd_ne _ (by decide)] at q; exact q)
    f9 := fun q => by
      obtain ⟨a, b, c, d⟩ := h.f9 (by rw [upd_ne _ (by decide)] at q; exact q)
      exact ⟨by rw [upd_ne _ (by decide)]; exact a, by rw [upd_ne _ (by decide)]; exact b, by rw [upd_ne _ (by decide)]; exact c, d⟩
    f10 := fun q => by
      obtain ⟨o, a, b, c, d⟩ := h.f10 (by rw [upd_ne _ (by decide)] at q; exact q)
      exact ⟨o, a, b, c, fun q' => d (by rw [upd_ne _ (by decide)] at q'; exact q')⟩
    f11 := fun q => by
      obtain ⟨a, b, o, c, d⟩ := h.f11 (by rw [upd_ne _ (by decide)] at q; exact q)
      exact ⟨by rw [upd_ne _ (by decide)]; exact a, by rw [upd_ne _ (by decide)]; exact b, o, c, d⟩
    nd := fun q q' => h.nd (by rw [upd_ne _ (by decide)] at q; exact q) (by rw [upd_ne _ (by decide)] at q'; exact q') }
theorem C1.u7 (h : C1 k g S W B D s3 s5 s6 s7 s8 s9 s10 s11 s12 s13 s14 w) (hi : D 7 = false)  : C1 k g S W B (upd D 7) s3 s5 s6 s7 s8 s9 s10 s11 (.slice g.a g.n g.c) s13 s14 w :=
  { bel := h.bel
    f0 := fun q => h.f0 (by rw [upd_ne _ (by decide)] at q; exact q)
    f1 := fun q => h.f1 (by rw [upd_ne _ (by decide)] at q; exact q)
    f2 := fun q => h.f2 (by rw [upd_ne _ (by decide)] at q; exact q)
    f3 := fun q => h.f3 (by rw [upd_ne _ (by decide)] at q; exact q)
    f4 := fun q => h.f4 (by rw [upd_ne _ (by decide)] at q; exact q)
    f5 := fun q => h.f5 (by rw [upd_ne _ (by decide)] at q; exact q)
    f6 := fun q => h.f6 (by rw [upd_ne _ (by decide)] at q; exact q)
    f7 := fun _ => rfl
    f8 := fun q => h.f8 (by rw [upd_ne _ (by decide)] at q; exact q)
    f9 := fun q => by
      obtain ⟨a, b, c, d⟩ := h.f9 (by rw [upd_ne _ (by decide)] at q; exact q)
      exact ⟨by rw [upd_ne _ (by decide)]; exact a, by rw [upd_ne _ (by decide)]; exact b, by rw [upd_ne _ (by decide)]; exact c, d⟩
    f10 := fun q => by
      obtain ⟨o, a, b, c, d⟩ := h.f10 (by rw [upd_ne _ (by decide)] at q; exact q)
      exact ⟨o, a, b, c, fun q' => d (by rw [upd_ne _ (by decide)] at q'; exact q')⟩
    f11 := fun q => by
      obtain ⟨a, b, o, c, d⟩ := h.f11 (by rw [upd_ne _ (by decide)] at q; exact q)
      exact ⟨by rw [upd_ne _ (by decide)]; exact a, by rw [upd_ne _ (by decide)]; exact b, o, c, d⟩
    nd := fun q q' => h.nd (by rw [upd_ne _ (by decide)] at q; exact q) (by rw [upd_ne _ (by decide)] at q'; exact q') }
theorem C1.u8 (h : C1 k g S W B D s3 s5 s6 s7 s8 s9 s10 s11 s12 s13 s14 w) (hi : D 8 = false) (A : Option Addr) (c : Nat) (ho : OwZ W.heap.size w.heap.size w ⟨A, g.n, c⟩ S.tags) (hnd : D 4 = true → ∀ A' c', s9 = .slice A' k.n c' → (blkOf ⟨A', k.n, c'⟩ ++ blkOf ⟨A, g.n, c⟩).Nodup) : C1 k g S W B (upd D 8) s3 s5 s6 s7 s8 s9 s10 s11 s12 (.slice A g.n c) s14 w :=
  { bel := h.bel
    f0 := fun q => h.f0 (by rw [upd_ne _ (by decide)] at q; exact q)
    f1 := fun q => h.f1 (by rw [upd_ne _ (by decide)] at q; exact q)
    f2 := fun q => h.f2 (by rw [upd_ne _ (by decide)] at q; exact q)
    f3 := fun q => h.f3 (by rw [upd_ne _ (by decide)] at q; exact q)
    f4 := fun q => h.f4 (by rw [upd_ne _ (by decide)] at q; exact q)
    f5 := fun q => h.f5 (by rw [upd_ne _ (by decide)] at q; exact q)
    f6 := fun q => h.f6 (by rw [upd_ne _ (by decide)] at q; exact q)
    f7 := fun q => h.f7 (by rw [upd_ne _ (by decide)] at q; exact q)
    f8 := fun _ => ⟨A, c, rfl, ho⟩
    f9 := fun q => absurd ((h.f9 (by rw [upd_ne _ (by decide)] at q; exact q)).2.2.1) (by rw [hi]; exact Bool.false_ne_true)
    f10 := fun q => by
      obtain ⟨o, a, b, c, d⟩ := h.f10 (by rw [upd_ne _ (by decide)] at q; exact q)
      exact ⟨o, a, b, c, fun q' => d (by rw [upd_ne _ (by decide)] at q'; exact q')⟩
    f11 := fun q => absurd ((h.f9 (h.f11 (by rw [upd_ne _ (by decide)] at q; exact q)).1).2.2.1) (by rw [hi]; exact Bool.false_ne_true)
    nd := fun q _ A' c' A1 c1 e' e => by
      injection e with e1 _ e3
      subst e1 e3
      exact hnd (by rw [upd_ne _ (by decide)] at q; exact q) A' c' e' }
theorem C1.u9 (h : C1 k g S W B D s3 s5 s6 s7 s8 s9 s10 s11 s12 s13 s14 w) (hi : D 9 = false) (d0 : D 0 = true) (d4 : D 4 = true) (d8 : D 8 = true) : C1 k g S W B (upd D 9) s3 s5 s6 s7 s8 s9 s10 s11 s12 s13 (.agg #[s5, s9, s13]) w :=
  { bel := h.bel
    f0 := fun q => h.f0 (by rw [upd_ne _ (by decide)] at q; exact q)
    f1 := fun q => h.f1 (by rw [upd_ne _ (by decide)] at q; exact q)
    f2 := fun q => h.f2 (by rw [upd_ne _ (by decide)] at q; exact q)
    f3 := fun q => h.f3 (by rw [upd_ne _ (by decide)] at q; exact q)
    f4 := fun q => h.f4 (by rw [upd_ne _ (by decide)] at q; exact q)
    f5 := fun q => h.f5 (by rw [upd_ne _ (by decide)] at q; exact q)
    f6 := fun q => h.f6 (by rw [upd_ne _ (by decide)] at q; exact q)
    f7 := fun q => h.f7 (by rw [upd_ne _ (by decide)] at q; exact q)
    f8 := fun q => h.f8 (by rw [upd_ne _ (by decide)] at q; exact q)
    f9 := fun _ => ⟨by rw [upd_ne _ (by decide)]; exact d0, by rw [upd_ne _ (by decide)]; exact d4, by rw [upd_ne _ (by decide)]; exact d8, rfl⟩
    f10 := fun q => by
      obtain ⟨o, a, b, c, d⟩ := h.f10 (by rw [upd_ne _ (by decide)] at q; exact q)
      exact ⟨o, a, b, c, fun q' => d (by rw [upd_ne _ (by decide)] at q'; exact q')⟩
    f11 := fun q => absurd (h.f11 (by rw [upd_ne _ (by decide)] at q; exact q)).1 (by rw [hi]; exact Bool.false_ne_true)
    nd := fun q q' => h.nd (by rw [upd_ne _ (by decide)] at q; exact q) (by rw [upd_ne _ (by decide)] at q'; exact q') }
theorem C1.u10 (h : C1 k g S W B D s3 s5 s6 s7 s8 s9 s10 s11 s12 s13 s14 w) (hi : D 10 = false) (o : Nat) (h1 : W.heap.size ≤ o) (h2 : o < w.heap.size) (h3 : Blk w o 41 #[.slice none 0 0, .slice none 0 0, .slice none 0 0]) : C1 k g S W B (upd D 10) (.pointer (some ⟨o, 0, none⟩)) s5 s6 s7 s8 s9 s10 s11 s12 s13 s14 w :=
  { bel := h.bel
    f0 := fun q => h.f0 (by rw [upd_ne _ (by decide)] at q; exact q)
    f1 := fun q => h.f1 (by rw [upd_ne _ (by decide)] at q; exact q)
    f2 := fun q => h.f2 (by rw [upd_ne _ (by decide)] at q; exact q)
    f3 := fun q => h.f3 (by rw [upd_ne _ (by decide)] at q; exact q)
    f4 := fun q => h.f4 (by rw [upd_ne _ (by decide)] at q; exact q)
    f5 := fun q => h.f5 (by rw [upd_ne _ (by decide)] at q; exact q)
    f6 := fun q => h.f6 (by rw [upd_ne _ (by decide)] at q; exact q)
    f7 := fun q => h.f7 (by rw [upd_ne _ (by decide)] at q; exact q)
    f8 := fun q => h.f8 (by rw [upd_ne _ (by decide)] at q; exact q)
    f9 := fun q => by
      obtain ⟨a, b, c, d⟩ := h.f9 (by rw [upd_ne _ (by decide)] at q; exact q)
      exact ⟨by rw [upd_ne _ (by decide)]; exact a, by rw [upd_ne _ (by decide)]; exact b, by rw [upd_ne _ (by decide)]; exact c, d⟩
    f10 := fun _ => ⟨o, rfl, h1, h2, fun _ => h3⟩
    f11 := fun q => absurd (h.f11 (by rw [upd_ne _ (by decide)] at q; exact q)).2.1 (by rw [hi]; exact Bool.false_ne_true)
    nd := fun q q' => h.nd (by rw [upd_ne _ (by decide)] at q; exact q) (by rw [upd_ne _ (by decide)] at q'; exact q') }
theorem C1.u11 (h : C1 k g S W B D s3 s5 s6 s7 s8 s9 s10 s11 s12 s13 s14 w) (hi : D 11 = false) (d9 : D 9 = true) (d10 : D 10 = true) (o : Nat) (e3 : s3 = .pointer (some ⟨o, 0, none⟩)) (ho : W.heap.size ≤ o) (hB : Blk w o 41 #[.slice none 0 0, .slice none 0 0, .slice none 0 0]) : C1 k g S W B (upd D 11) s3 s5 s6 s7 s8 s9 s10 s11 s12 s13 s14 (((w.setCell ⟨o, 0, none⟩ s5).setCell ⟨o, 1, none⟩ s9).setCell ⟨o, 2, none⟩ s13) :=
  have hk : KeepI w (((w.setCell ⟨o, 0, none⟩ s5).setCell ⟨o, 1, none⟩ s9).setCell ⟨o, 2, none⟩ s13) := KeepI.only hB (by decide) (Only.set_ (p := ⟨o, 2, none⟩) (Only.set_ (p := ⟨o, 1, none⟩) (Only.set_ (p := ⟨o, 0, none⟩) (Only.refl o w) (.inl rfl) s5) (.inl rfl) s9) (.inl rfl) s13)
  have hs : (((w.setCell ⟨o, 0, none⟩ s5).setCell ⟨o, 1, none⟩ s9).setCell ⟨o, 2, none⟩ s13).heap.size = w.heap.size := by simp [World.setCell]
  { bel := ((h.bel.setCell (p := ⟨o, 0, none⟩) ho _).setCell (p := ⟨o, 1, none⟩) ho _).setCell (p := ⟨o, 2, none⟩) ho _
    f0 := fun q => h.f0 (by rw [upd_ne _ (by decide)] at q; exact q), f1 := fun q => h.f1 (by rw [upd_ne _ (by decide)] at q; exact q), f2 := fun q => h.f2 (by rw [upd_ne _ (by decide)] at q; exact q), f3 := fun q => h.f3 (by rw [upd_ne _ (by decide)] at q; exact q), f5 := fun q => h.f5 (by rw [upd_ne _ (by decide)] at q; exact q), f6 := fun q => h.f6 (by rw [upd_ne _ (by decide)] at q; exact q), f7 := fun q => h.f7 (by rw [upd_ne _ (by decide)] at q; exact q)
    f4 := fun q => by obtain ⟨A, c, e, ho⟩ := h.f4 (by rw [upd_ne _ (by decide)] at q; exact q); exact ⟨A, c, e, by rw [hs]; exact keepZ ho hk⟩
    f8 := fun q => by obtain ⟨A, c, e, ho⟩ := h.f8 (by rw [upd_ne _ (by decide)] at q; exact q); exact ⟨A, c, e, by rw [hs]; exact keepZ ho hk⟩
    f9 := fun q => by
      obtain ⟨a, b, c, d⟩ := h.f9 (by rw [upd_ne _ (by decide)] at q; exact q)
      exact ⟨by rw [upd_ne _ (by decide)]; exact a, by rw [upd_ne _ (by decide)]; exact b, by rw [upd_ne _ (by decide)]; exact c, d⟩
    f10 := fun q => by
      obtain ⟨o', a, b, c, d⟩ := h.f10 (by rw [upd_ne _ (by decide)] at q; exact q)
      exact ⟨o', a, b, by rw [hs]; exact c, fun q' => absurd q' (by rw [upd_self]; decide)⟩
    f11 := fun _ => ⟨by rw [upd_ne _ (by decide)]; exact d9, by rw [upd_ne _ (by decide)]; exact d10, o, e3, ((hB.set_ 0 s5).set_ 1 s9).set_ 2 s13⟩
    nd := fun q q' => h.nd (by rw [upd_ne _ (by decide)] at q; exact q) (by rw [upd_ne _ (by decide)] at q'; exact q') }
theorem nodup_comm {a b : List Nat} (h : (a ++ b).Nodup) : (b ++ a).Nodup := by
  obtain ⟨n1, n2, d⟩ := List.nodup_append.1 h
  exact List.nodup_append.2 ⟨n2, n1, fun x hx y hy e => d y hy x hx e.symm⟩

end
end Go.Proofs.Ytnfmlmkabioepaa

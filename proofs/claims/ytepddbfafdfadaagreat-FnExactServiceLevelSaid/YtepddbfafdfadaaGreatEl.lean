/-
  The invariant of a law's region that copies a service and a level, calls ServiceLevel and keeps the service it returns. No condition: lemmas.
-/
import Derived.Test.YtepddbfafdfadaaGreatL1
import Derived.Test.YtepddbfafdfadaaGreatCo
namespace Go.Proofs.YtepddbfafdfadaaGreat
open Go.RowKit Go.Sort
set_option linter.unusedVariables false

theorem OwS.apartS {lo hi : Nat} {w w' : World} {t k g : Sl} {S : Svc} {o : Nat} {c0 c1 c2 : Value} (h : OwS lo hi w t k g S) (hk : Blk w o 37 #[c0, c1, c2]) (hg : w.grownBy w' (ownB (some ⟨o, 0, none⟩) 1)) : OwS lo hi w' t k g S := by
  obtain ⟨⟨xs, h1, h2⟩, h3, h4, h5⟩ := h
  have hO : Ow 0 w 37 3 (some ⟨o, 0, none⟩) 1 1 [c0, c1, c2] := Ow.of_blk hk rfl (by decide) (Nat.zero_le _)
  refine ⟨⟨xs, h1, ⟨h2.1.apart hO (by decide) hg, fun x hx => ?_, h2.2.2⟩⟩, h3.apart hO (by decide) hg, h4.apart hO (by decide) hg, h5⟩
  obtain ⟨⟨q1, q2, q3⟩, q4, q5⟩ := h2.2.1 x hx
  exact ⟨⟨q1.apart hO (by decide) hg, q2.apart hO (by decide) hg, q3⟩, q4.apart hO (by decide) hg, q5⟩

structure EL (t k g : Sl) (S : Svc) (l : Lvl) (ws gs : Sl) (r : Svc × Bool) (wr : World) (D : Nat → Bool) (s0 s1 s2 s3 s4 s5 s6 s7 s8 s10 : Value) (t1 k1 g1 a b t3 k3 g3 : Sl) (o : Nat) (w : World) : Prop where
  bel : Below wr.heap.size wr w
  f0 : D 0 = true → s0 = svV t k g
  f1 : D 1 = true → s1 = svV t1 k1 g1 ∧ (D 4 = false → RdS w t1 k1 g1 S)
  f2 : D 2 = true → s2 = lvlV l ws gs
  f3 : D 3 = true → s3 = lvlV l a b ∧ (D 4 = false → RdL w l a b)
  f4 : D 4 = true → s4 = .tuple #[svV t3 k3 g3, .bool r.2] ∧ OwS wr.heap.size w.heap.size w t3 k3 g3 r.1
  f5 : D 5 = true → D 4 = true ∧ s5 = .tuple #[svV t3 k3 g3, .bool r.2]
  f6 : D 6 = true → D 4 = true ∧ s6 = svV t3 k3 g3
  f7 : D 7 = true → s7 = .bool r.2
  f8 : D 8 = true → s8 = .pointer (some ⟨o, 0, none⟩) ∧ wr.heap.size ≤ o ∧ (D 9 = false → Blk w o 37 #[.slice none 0 0, .slice none 0 0, .slice none 0 0])
  f9 : D 9 = true → D 4 = true ∧ D 8 = true ∧ Blk w o 37 #[.slice t3.a t3.n t3.c, .slice k3.a k3.n k3.c, .slice g3.a g3.n g3.c]
  f10 : D 10 = true → s10 = .bool r.2
section
variable {t k g : Sl} {S : Svc} {l : Lvl} {ws gs : Sl} {r : Svc × Bool} {wr : World} {D : Nat → Bool} {s0 s1 s2 s3 s4 s5 s6 s7 s8 s10 : Value} {t1 k1 g1 a b t3 k3 g3 : Sl} {o : Nat} {w w' : World}
theorem EL.next (h : EL t k g S l ws gs r wr D s0 s1 s2 s3 s4 s5 s6 s7 s8 s10 t1 k1 g1 a b t3 k3 g3 o w) (hb : Below w.heap.size w w') : EL t k g S l ws gs r wr D s0 s1 s2 s3 s4 s5 s6 s7 s8 s10 t1 k1 g1 a b t3 k3 g3 o w' :=
  { h with
    bel := below_next h.bel hb
    f1 := fun q' => by obtain ⟨e, h1⟩ := h.f1 q'; exact ⟨e, fun q4 => (h1 q4).below hb⟩
    f3 := fun q' => by obtain ⟨e, h1⟩ := h.f3 q'; exact ⟨e, fun q4 => (h1 q4).below hb⟩
    f4 := fun q' => by obtain ⟨e, h1⟩ := h.f4 q'; exact ⟨e, (h1.next hb).mono (Nat.le_refl _) hb.size⟩
    f8 := fun q' => by obtain ⟨e, h1, h2⟩ := h.f8 q'; exact ⟨e, h1, fun q9 => (h2 q9).next hb⟩
    f9 := fun q' => by obtain ⟨h0, h1, h2⟩ := h.f9 q'; exact ⟨h0, h1, h2.next hb⟩ }

theorem EL.u0 (h : EL t k g S l ws gs r wr D s0 s1 s2 s3 s4 s5 s6 s7 s8 s10 t1 k1 g1 a b t3 k3 g3 o w) (hi : D 0 = false)  : EL t k g S l ws gs r wr (upd D 0) (svV t k g) s1 s2 s3 s4 s5 s6 s7 s8 s10 t1 k1 g1 a b t3 k3 g3 o w :=
  { bel := h.bel
    f0 := fun _ => rfl
    f1 := fun q' => ⟨(h.f1 (by rw [upd_ne _ (by decide)] at q'; exact q')).1, fun q4 => (h.f1 (by rw [upd_ne _ (by decide)] at q'; exact q')).2 (by rw [upd_ne _ (by decide)] at q4; exact q4)⟩
    f2 := fun q' => h.f2 (by rw [upd_ne _ (by decide)] at q'; exact q')
    f3 := fun q' => ⟨(h.f3 (by rw [upd_ne _ (by decide)] at q'; exact q')).1, fun q4 => (h.f3 (by rw [upd_ne _ (by decide)] at q'; exact q')).2 (by rw [upd_ne _ (by decide)] at q4; exact q4)⟩
    f4 := fun q' => ⟨(h.f4 (by rw [upd_ne _ (by decide)] at q'; exact q')).1, (h.f4 (by rw [upd_ne _ (by decide)] at q'; exact q')).2⟩
    f5 := fun q' => ⟨by rw [upd_ne _ (by decide)]; exact (h.f5 (by rw [upd_ne _ (by decide)] at q'; exact q')).1, (h.f5 (by rw [upd_ne _ (by decide)] at q'; exact q')).2⟩
    f6 := fun q' => ⟨by rw [upd_ne _ (by decide)]; exact (h.f6 (by rw [upd_ne _ (by decide)] at q'; exact q')).1, (h.f6 (by rw [upd_ne _ (by decide)] at q'; exact q')).2⟩
    f7 := fun q' => h.f7 (by rw [upd_ne _ (by decide)] at q'; exact q')
    f8 := fun q' => ⟨(h.f8 (by rw [upd_ne _ (by decide)] at q'; exact q')).1, (h.f8 (by rw [upd_ne _ (by decide)] at q'; exact q')).2.1, fun q9 => (h.f8 (by rw [upd_ne _ (by decide)] at q'; exact q')).2.2 (by rw [upd_ne _ (by decide)] at q9; exact q9)⟩
    f9 := fun q' => ⟨by rw [upd_ne _ (by decide)]; exact (h.f9 (by rw [upd_ne _ (by decide)] at q'; exact q')).1, by rw [upd_ne _ (by decide)]; exact (h.f9 (by rw [upd_ne _ (by decide)] at q'; exact q')).2.1, (h.f9 (by rw [upd_ne _ (by decide)] at q'; exact q')).2.2⟩
    f10 := fun q' => h.f10 (by rw [upd_ne _ (by decide)] at q'; exact q') }
theorem EL.u1 (h : EL t k g S l ws gs r wr D s0 s1 s2 s3 s4 s5 s6 s7 s8 s10 t1 k1 g1 a b t3 k3 g3 o w) (hi : D 1 = false) (t2 k2 g2 : Sl) (hr : RdS w t2 k2 g2 S) : EL t k g S l ws gs r wr (upd D 1) s0 (svV t2 k2 g2) s2 s3 s4 s5 s6 s7 s8 s10 t2 k2 g2 a b t3 k3 g3 o w :=
  { bel := h.bel
    f0 := fun q' => h.f0 (by rw [upd_ne _ (by decide)] at q'; exact q')
    f1 := fun _ => ⟨rfl, fun _ => hr⟩
    f2 := fun q' => h.f2 (by rw [upd_ne _ (by decide)] at q'; exact q')
    f3 := fun q' => ⟨(h.f3 (by rw [upd_ne _ (by decide)] at q'; exact q')).1, fun q4 => (h.f3 (by rw [upd_ne _ (by decide)] at q'; exact q')).2 (by rw [upd_ne _ (by decide)] at q4; exact q4)⟩
    f4 := fun q' => ⟨(h.f4 (by rw [upd_ne _ (by decide)] at q'; exact q')).1, (h.f4 (by rw [upd_ne _ (by decide)] at q'; exact q')).2⟩
    f5 := fun q' => ⟨by rw [upd_ne _ (by decide)]; exact (h.f5 (by rw [upd_ne _ (by decide)] at q'; exact q')).1, (h.f5 (by rw [upd_ne _ (by decide)] at q'; exact q')).2⟩
    f6 := fun q' => ⟨by rw [upd_ne _ (by decide)]; exact (h.f6 (by rw [upd_ne _ (by decide)] at q'; exact q')).1, (h.f6 (by rw [upd_ne _ (by decide)] at q'; exact q')).2⟩
    f7 := fun q' => h.f7 (by rw [upd_ne _ (by decide)] at q'; exact q')
    f8 := fun q' => ⟨(h.f8 (by rw [upd_ne _ (by decide)] at q'; exact q')).1, (h.f8 (by rw [upd_ne _ (by decide)] at q'; exact q')).2.1, fun q9 => (h.f8 (by rw [upd_ne _ (by decide)] at q'; exact q')).2.2 (by rw [upd_ne _ (by decide)] at q9; exact q9)⟩
    f9 := fun q' => ⟨by rw [upd_ne _ (by decide)]; exact (h.f9 (by rw [upd_ne _ (by decide)] at q'; exact q')).1, by rw [upd_ne _ (by decide)]; exact (h.f9 (by rw [upd_ne _ (by decide)] at q'; exact q')).2.1, (h.f9 (by rw [upd_ne _ (by decide)] at q'; exact q')).2.2⟩
    f10 := fun q' => h.f10 (by rw [upd_ne _ (by decide)] at q'; exact q') }
theorem EL.u2 (h : EL t k g S l ws gs r wr D s0 s1 s2 s3 s4 s5 s6 s7 s8 s10 t1 k1 g1 a b t3 k3 g3 o w) (hi : D 2 = false)  : EL t k g S l ws gs r wr (upd D 2) s0 s1 (lvlV l ws gs) s3 s4 s5 s6 s7 s8 s10 t1 k1 g1 a b t3 k3 g3 o w :=
  { bel := h.bel
    f0 := fun q' => h.f0 (by rw [upd_ne _ (by decide)] at q'; exact q')
    f1 := fun q' => ⟨(h.f1 (by rw [upd_ne _ (by decide)] at q'; exact q')).1, fun q4 => (h.f1 (by rw [upd_ne _ (by decide)] at q'; exact q')).2 (by rw [upd_ne _ (by decide)] at q4; exact q4)⟩
    f2 := fun _ => rfl
    f3 := fun q' => ⟨(h.f3 (by rw [upd_ne _ (by decide)] at q'; exact q')).1, fun q4 => (h.f3 (by rw [upd_ne _ (by decide)] at q'; exact q')).2 (by rw [upd_ne _ (by decide)] at q4; exact q4)⟩
    f4 := fun q' => ⟨(h.f4 (by rw [upd_ne _ (by decide)] at q'; exact q')).1, (h.f4 (by rw [upd_ne _ (by decide)] at q'; exact q')).2⟩
    f5 := fun q' => ⟨by rw [upd_ne _ (by decide)]; exact (h.f5 (by rw [upd_ne _ (by decide)] at q'; exact q')).1, (h.f5 (by rw [upd_ne _ (by decide)] at q'; exact q')).2⟩
    f6 := fun q' => ⟨by rw [upd_ne _ (by decide)]; exact (h.f6 (by rw [upd_ne _ (by decide)] at q'; exact q')).1, (h.f6 (by rw [upd_ne _ (by decide)] at q'; exact q')).2⟩
    f7 := fun q' => h.f7 (by rw [upd_ne _ (by decide)] at q'; exact q')
    f8 := fun q' => ⟨(h.f8 (by rw [upd_ne _ (by decide)] at q'; exact q')).1, (h.f8 (by rw [upd_ne _ (by decide)] at q'; exact q')).2.1, fun q9 => (h.f8 (by rw [upd_ne _ (by decide)] at q'; exact q')).2.2 (by rw [upd_ne _ (by decide)] at q9; exact q9)⟩
    f9 := fun q' => ⟨by rw [upd_ne _ (by decide)]; exact (h.f9 (by rw [upd_ne _ (by decide)] at q'; exact q')).1, by rw [upd_ne _ (by decide)]; exact (h.f9 (by rw [upd_ne _ (by decide)] at q'; exact q')).2.1, (h.f9 (by rw [upd_ne _ (by decide)] at q'; exact q')).2.2⟩
    f10 := fun q' => h.f10 (by rw [upd_ne _ (by decide)] at q'; exact q') }
theorem EL.u3 (h : EL t k g S l ws gs r wr D s0 s1 s2 s3 s4 s5 s6 s7 s8 s10 t1 k1 g1 a b t3 k3 g3 o w) (hi : D 3 = false) (a2 b2 : Sl) (hr : RdL w l a2 b2) : EL t k g S l ws gs r wr (upd D 3) s0 s1 s2 (lvlV l a2 b2) s4 s5 s6 s7 s8 s10 t1 k1 g1 a2 b2 t3 k3 g3 o w :=
  { bel := h.bel
    f0 := fun q' => h.f0 (by rw [upd_ne _ (by decide)] at q'; exact q')
    f1 := fun q' => ⟨(h.f1 (by rw [upd_ne _ (by decide)] at q'; exact q')).1, fun q4 => (h.f1 (by rw [upd_ne _ (by decide)] at q'; exact q')).2 (by rw [upd_ne _ (by decide)] at q4; exact q4)⟩
    f2 := fun q' => h.f2 (by rw [upd_ne _ (by decide)] at q'; exact q')
    f3 := fun _ => ⟨rfl, fun _ => hr⟩
    f4 := fun q' => ⟨(h.f4 (by rw [upd_ne _ (by decide)] at q'; exact q')).1, (h.f4 (by rw [upd_ne _ (by decide)] at q'; exact q')).2⟩
    f5 := fun q' => ⟨by rw [upd_ne _ (by decide)]; exact (h.f5 (by rw [upd_ne _ (by decide)] at q'; exact q')).1, (h.f5 (by rw [upd_ne _ (by decide)] at q'; exact q')).2⟩
    f6 := fun q' => ⟨by rw [upd_ne _ (by decide)]; exact (h.f6 (by rw [upd_ne _ (by decide)] at q'; exact q')).1, (h.f6 (by rw [upd_ne _ (by decide)] at q'; exact q')).2⟩
    f7 := fun q' => h.f7 (by rw [upd_ne _ (by decide)] at q'; exact q')
    f8 := fun q' => ⟨(h.f8 (by rw [upd_ne _ (by decide)] at q'; exact q')).1, (h.f8 (by rw [upd_ne _ (by decide)] at q'; exact q')).2.1, fun q9 => (h.f8 (by rw [upd_ne _ (by decide)] at q'; exact q')).2.2 (by rw [upd_ne _ (by decide)] at q9; exact q9)⟩
    f9 := fun q' => ⟨by rw [upd_ne _ (by decide)]; exact (h.f9 (by rw [upd_ne _ (by decide)] at q'; exact q')).1, by rw [upd_ne _ (by decide)]; exact (h.f9 (by rw [upd_ne _ (by decide)] at q'; exact q')).2.1, (h.f9 (by rw [upd_ne _ (by decide)] at q'; exact q')).2.2⟩
    f10 := fun q' => h.f10 (by rw [upd_ne _ (by decide)] at q'; exact q') }
theorem EL.u4 (h : EL t k g S l ws gs r wr D s0 s1 s2 s3 s4 s5 s6 s7 s8 s10 t1 k1 g1 a b t3 k3 g3 o w) (hi : D 4 = false) (t4 k4 g4 : Sl) (ho : OwS wr.heap.size w.heap.size w t4 k4 g4 r.1) : EL t k g S l ws gs r wr (upd D 4) s0 s1 s2 s3 (.tuple #[svV t4 k4 g4, .bool r.2]) s5 s6 s7 s8 s10 t1 k1 g1 a b t4 k4 g4 o w :=
  { bel := h.bel
    f0 := fun q' => h.f0 (by rw [upd_ne _ (by decide)] at q'; exact q')
    f1 := fun q' => ⟨(h.f1 (by rw [upd_ne _ (by decide)] at q'; exact q')).1, fun q4 => by rw [upd_self] at q4; cases q4⟩
    f2 := fun q' => h.f2 (by rw [upd_ne _ (by decide)] at q'; exact q')
    f3 := fun q' => ⟨(h.f3 (by rw [upd_ne _ (by decide)] at q'; exact q')).1, fun q4 => by rw [upd_self] at q4; cases q4⟩
    f4 := fun _ => ⟨rfl, ho⟩
    f5 := fun q' => absurd (h.f5 (by rw [upd_ne _ (by decide)] at q'; exact q')).1 (by rw [hi]; exact Bool.false_ne_true)
    f6 := fun q' => absurd (h.f6 (by rw [upd_ne _ (by decide)] at q'; exact q')).1 (by rw [hi]; exact Bool.false_ne_true)
    f7 := fun q' => h.f7 (by rw [upd_ne _ (by decide)] at q'; exact q')
    f8 := fun q' => ⟨(h.f8 (by rw [upd_ne _ (by decide)] at q'; exact q')).1, (h.f8 (by rw [upd_ne _ (by decide)] at q'; exact q')).2.1, fun q9 => (h.f8 (by rw [upd_ne _ (by decide)] at q'; exact q')).2.2 (by rw [upd_ne _ (by decide)] at q9; exact q9)⟩
    f9 := fun q' => absurd (h.f9 (by rw [upd_ne _ (by decide)] at q'; exact q')).1 (by rw [hi]; exact Bool.false_ne_true)
    f10 := fun q' => h.f10 (by rw [upd_ne _ (by decide)] at q'; exact q') }
theorem EL.u5 (h : EL t k g S l ws gs r wr D s0 s1 s2 s3 s4 s5 s6 s7 s8 s10 t1 k1 g1 a b t3 k3 g3 o w) (hi : D 5 = false) (d4 : D 4 = true) : EL t k g S l ws gs r wr (upd D 5) s0 s1 s2 s3 s4 (.tuple #[svV t3 k3 g3, .bool r.2]) s6 s7 s8 s10 t1 k1 g1 a b t3 k3 g3 o w :=
  { bel := h.bel
    f0 := fun q' => h.f0 (by rw [upd_ne _ (by decide)] at q'; exact q')
    f1 := fun q' => ⟨(h.f1 (by rw [upd_ne _ (by decide)] at q'; exact q')).1, fun q4 => (h.f1 (by rw [upd_ne _ (by decide)] at q'; exact q')).2 (by rw [upd_ne _ (by decide)] at q4; exact q4)⟩
    f2 := fun q' => h.f2 (by rw [upd_ne _ (by decide)] at q'; exact q')
    f3 := fun q' => ⟨(h.f3 (by rw [upd_ne _ (by decide)] at q'; exact q')).1, fun q4 => (h.f3 (by rw [upd_ne _ (by decide)] at q'; exact q')).2 (by rw [upd_ne _ (by decide)] at q4; exact q4)⟩
    f4 := fun q' => ⟨(h.f4 (by rw [upd_ne _ (by decide)] at q'; exact q')).1, (h.f4 (by rw [upd_ne _ (by decide)] at q'; exact q')).2⟩
    f5 := fun _ => ⟨by rw [upd_ne _ (by decide)]; exact d4, rfl⟩
    f6 := fun q' => ⟨by rw [upd_ne _ (by decide)]; exact (h.f6 (by rw [upd_ne _ (by decide)] at q'; exact q')).1, (h.f6 (by rw [upd_ne _ (by decide)] at q'; exact q')).2⟩
    f7 := fun q' => h.f7 (by rw [upd_ne _ (by decide)] at q'; exact q')
    f8 := fun q' => ⟨(h.f8 (by rw [upd_ne _ (by decide)] at q'; exact q')).1, (h.f8 (by rw [upd_ne _ (by decide)] at q'; exact q')).2.1, fun q9 => (h.f8 (by rw [upd_ne _ (by decide)] at q'; exact q')).2.2 (by rw [upd_ne _ (by decide)] at q9; exact q9)⟩
    f9 := fun q' => ⟨by rw [upd_ne _ (by decide)]; exact (h.f9 (by rw [upd_ne _ (by decide)] at q'; exact q')).1, by rw [upd_ne _ (by decide)]; exact (h.f9 (by rw [upd_ne _ (by decide)] at q'; exact q')).2.1, (h.f9 (by rw [upd_ne _ (by decide)] at q'; exact q')).2.2⟩
    f10 := fun q' => h.f10 (by rw [upd_ne _ (by decide)] at q'; exact q') }
theorem EL.u6 (h : EL t k g S l ws gs r wr D s0 s1 s2 s3 s4 s5 s6 s7 s8 s10 t1 k1 g1 a b t3 k3 g3 o w) (hi : D 6 = false) (d4 : D 4 = true) : EL t k g S l ws gs r wr (upd D 6) s0 s1 s2 s3 s4 s5 (svV t3 k3 g3) s7 s8 s10 t1 k1 g1 a b t3 k3 g3 o w :=
  { bel := h.bel
    f0 := fun q' => h.f0 (by rw [upd_ne _ (by decide)] at q'; exact q')
    f1 := fun q' => ⟨(h.f1 (by rw [upd_ne _ (by decide)] at q'; exact q')).1, fun q4 => (h.f1 (by rw [upd_ne _ (by decide)] at q'; exact q')).2 (by rw [upd_ne _ (by decide)] at q4; exact q4)⟩
    f2 := fun q' => h.f2 (by rw [upd_ne _ (by decide)] at q'; exact q')
    f3 := fun q' => ⟨(h.f3 (by rw [upd_ne _ (by decide)] at q'; exact q')).1, fun q4 => (h.f3 (by rw [upd_ne _ (by decide)] at q'; exact q')).2 (by rw [upd_ne _ (by decide)] at q4; exact q4)⟩
    f4 := fun q' => ⟨(h.f4 (by rw [upd_ne _ (by decide)] at q'; exact q')).1, (h.f4 (by rw [upd_ne _ (by decide)] at q'; exact q')).2⟩
    f5 := fun q' => ⟨by rw [upd_ne _ (by decide)]; exact (h.f5 (by rw [upd_ne _ (by decide)] at q'; exact q')).1, (h.f5 (by rw [upd_ne _ (by decide)] at q'; exact q')).2⟩
    f6 := fun _ => ⟨by rw [upd_ne _ (by decide)]; exact d4, rfl⟩
    f7 := fun q' => h.f7 (by rw [upd_ne _ (by decide)] at q'; exact q')
    f8 := fun q' => ⟨(h.f8 (by rw [upd_ne _ (by decide)] at q'; exact q')).1, (h.f8 (by rw [upd_ne _ (by decide)] at q'; exact q')).2.1, fun q9 => (h.f8 (by rw [upd_ne _ (by decide)] at q'; exact q')).2.2 (by rw [upd_ne _ (by decide)] at q9; exact q9)⟩
    f9 := fun q' => ⟨by rw [upd_ne _ (by decide)]; exact (h.f9 (by rw [upd_ne _ (by decide)] at q'; exact q')).1, by rw [upd_ne _ (by decide)]; exact (h.f9 (by rw [upd_ne _ (by decide)] at q'; exact q')).2.1, (h.f9 (by rw [upd_ne _ (by decide)] at q'; exact q')).2.2⟩
    f10 := fun q' => h.f10 (by rw [upd_ne _ (by decide)] at q'; exact q') }
theorem EL.u7 (h : EL t k g S l ws gs r wr D s0 s1 s2 s3 s4 s5 s6 s7 s8 s10 t1 k1 g1 a b t3 k3 g3 o w) (hi : D 7 = false)  : EL t k g S l ws gs r wr (upd D 7) s0 s1 s2 s3 s4 s5 s6 (.bool r.2) s8 s10 t1 k1 g1 a b t3 k3 g3 o w :=
  { bel := h.bel
    f0 := fun q' => h.f0 (by rw [upd_ne _ (by decide)] at q'; exact q')
    f1 := fun q' => ⟨(h.f1 (by rw [upd_ne _ (by decide)] at q'; exact q')).1, fun q4 => (h.f1 (by rw [upd_ne _ (by decide)] at q'; exact q')).2 (by rw [upd_ne _ (by decide)] at q4; exact q4)⟩
    f2 := fun q' => h.f2 (by rw [upd_ne _ (by decide)] at q'; exact q')
    f3 := fun q' => ⟨(h.f3 (by rw [upd_ne _ (by decide)] at q'; exact q')).1, fun q4 => (h.f3 (by rw [upd_ne _ (by decide)] at q'; exact q')).2 (by rw [upd_ne _ (by decide)] at q4; exact q4)⟩
    f4 := fun q' => ⟨(h.f4 (by rw [upd_ne _ (by decide)] at q'; exact q')).1, (h.f4 (by rw [upd_ne _ (by decide)] at q'; exact q')).2⟩
    f5 := fun q' => ⟨by rw [upd_ne _ (by decide)]; exact (h.f5 (by rw [upd_ne _ (by decide)] at q'; exact q')).1, (h.f5 (by rw [upd_ne _ (by decide)] at q'; exact q')).2⟩
    f6 := fun q' => ⟨by rw [upd_ne _ (by decide)]; exact (h.f6 (by rw [upd_ne _ (by decide)] at q'; exact q')).1, (h.f6 (by rw [upd_ne _ (by decide)] at q'; exact q')).2⟩
    f7 := fun _ => rfl
    f8 := fun q' => ⟨(h.f8 (by rw [upd_ne _ (by decide)] at q'; exact q')).1, (h.f8 (by rw [upd_ne _ (by decide)] at q'; exact q')).2.1, fun q9 => (h.f8 (by rw [upd_ne _ (by decide)] at q'; exact q')).2.2 (by rw [upd_ne _ (by decide)] at q9; exact q9)⟩
    f9 := fun q' => ⟨by rw [upd_ne _ (by decide)]; exact (h.f9 (by rw [upd_ne _ (by decide)] at q'; exact q')).1, by rw [upd_ne _ (by decide)]; exact (h.f9 (by rw [upd_ne _ (by decide)] at q'; exact q')).2.1, (h.f9 (by rw [upd_ne _ (by decide)] at q'; exact q')).2.2⟩
    f10 := fun q' => h.f10 (by rw [upd_ne _ (by decide)] at q'; exact q') }
theorem EL.u8 (h : EL t k g S l ws gs r wr D s0 s1 s2 s3 s4 s5 s6 s7 s8 s10 t1 k1 g1 a b t3 k3 g3 o w) (hi : D 8 = false) (o2 : Nat) (h1 : wr.heap.size ≤ o2) (hb : Blk w o2 37 #[.slice none 0 0, .slice none 0 0, .slice none 0 0]) : EL t k g S l ws gs r wr (upd D 8) s0 s1 s2 s3 s4 s5 s6 s7 (.pointer (some ⟨o2, 0, none⟩)) s10 t1 k1 g1 a b t3 k3 g3 o2 w :=
  { bel := h.bel
    f0 := fun q' => h.f0 (by rw [upd_ne _ (by decide)] at q'; exact q')
    f1 := fun q' => ⟨(h.f1 (by rw [upd_ne _ (by decide)] at q'; exact q')).1, fun q4 => (h.f1 (by rw [upd_ne _ (by decide)] at q'; exact q')).2 (by rw [upd_ne _ (by decide)] at q4; exact q4)⟩
    f2 := fun q' => h.f2 (by rw [upd_ne _ (by decide)] at q'; exact q')
    f3 := fun q' => ⟨(h.f3 (by rw [upd_ne _ (by decide)] at q'; exact q')).1, fun q4 => (h.f3 (by rw [upd_ne _ (by decide)] at q'; exact q')).2 (by rw [upd_ne _ (by decide)] at q4; exact q4)⟩
    f4 := fun q' => ⟨(h.f4 (by rw [upd_ne _ (by decide)] at q'; exact q')).1, (h.f4 (by rw [upd_ne _ (by decide)] at q'; exact q')).2⟩
    f5 := fun q' => ⟨by rw [upd_ne _ (by decide)]; exact (h.f5 (by rw [upd_ne _ (by decide)] at q'; exact q')).1, (h.f5 (by rw [upd_ne _ (by decide)] at q'; exact q')).2⟩
    f6 := fun q' => ⟨by rw [upd_ne _ (by decide)]; exact (h.f6 (by rw [upd_ne _ (by decide)] at q'; exact q')).1, (h.f6 (by rw [upd_ne _ (by decide)] at q'; exact q')).2⟩
    f7 := fun q' => h.f7 (by rw [upd_ne _ (by decide)] at q'; exact q')
    f8 := fun _ => ⟨rfl, h1, fun _ => hb⟩
    f9 := fun q' => absurd (h.f9 (by rw [upd_ne _ (by decide)] at q'; exact q')).2.1 (by rw [hi]; exact Bool.false_ne_true)
    f10 := fun q' => h.f10 (by rw [upd_ne _ (by decide)] at q'; exact q') }
theorem EL.u9 (h : EL t k g S l ws gs r wr D s0 s1 s2 s3 s4 s5 s6 s7 s8 s10 t1 k1 g1 a b t3 k3 g3 o w) (hi : D 9 = false) (d4 : D 4 = true) (d8 : D 8 = true) (hb : Below wr.heap.size wr w') (ho : OwS wr.heap.size w'.heap.size w' t3 k3 g3 r.1) (hk : Blk w' o 37 #[.slice t3.a t3.n t3.c, .slice k3.a k3.n k3.c, .slice g3.a g3.n g3.c]) : EL t k g S l ws gs r wr (upd D 9) s0 s1 s2 s3 s4 s5 s6 s7 s8 s10 t1 k1 g1 a b t3 k3 g3 o w' :=
  { bel := hb
    f0 := fun q' => h.f0 (by rw [upd_ne _ (by decide)] at q'; exact q')
    f1 := fun q' => ⟨(h.f1 (by rw [upd_ne _ (by decide)] at q'; exact q')).1, fun q4 => by rw [upd_ne _ (by decide), d4] at q4; cases q4⟩
    f2 := fun q' => h.f2 (by rw [upd_ne _ (by decide)] at q'; exact q')
    f3 := fun q' => ⟨(h.f3 (by rw [upd_ne _ (by decide)] at q'; exact q')).1, fun q4 => by rw [upd_ne _ (by decide), d4] at q4; cases q4⟩
    f4 := fun q' => ⟨(h.f4 (by rw [upd_ne _ (by decide)] at q'; exact q')).1, ho⟩
    f5 := fun q' => ⟨by rw [upd_ne _ (by decide)]; exact (h.f5 (by rw [upd_ne _ (by decide)] at q'; exact q')).1, (h.f5 (by rw [upd_ne _ (by decide)] at q'; exact q')).2⟩
    f6 := fun q' => ⟨by rw [upd_ne _ (by decide)]; exact (h.f6 (by rw [upd_ne _ (by decide)] at q'; exact q')).1, (h.f6 (by rw [upd_ne _ (by decide)] at q'; exact q')).2⟩
    f7 := fun q' => h.f7 (by rw [upd_ne _ (by decide)] at q'; exact q')
    f8 := fun q' => ⟨(h.f8 (by rw [upd_ne _ (by decide)] at q'; exact q')).1, (h.f8 (by rw [upd_ne _ (by decide)] at q'; exact q')).2.1, fun q9 => by rw [upd_self] at q9; cases q9⟩
    f9 := fun _ => ⟨by rw [upd_ne _ (by decide)]; exact d4, by rw [upd_ne _ (by decide)]; exact d8, hk⟩
    f10 := fun q' => h.f10 (by rw [upd_ne _ (by decide)] at q'; exact q') }
theorem EL.u10 (h : EL t k g S l ws gs r wr D s0 s1 s2 s3 s4 s5 s6 s7 s8 s10 t1 k1 g1 a b t3 k3 g3 o w) (hi : D 10 = false)  : EL t k g S l ws gs r wr (upd D 10) s0 s1 s2 s3 s4 s5 s6 s7 s8 (.bool r.2) t1 k1 g1 a b t3 k3 g3 o w :=
  { bel := h.bel
    f0 := fun q' => h.f0 (by rw [upd_ne _ (by decide)] at q'; exact q')
    f1 := fun q' => ⟨(h.f1 (by rw [upd_ne _ (by decide)] at q'; exact q')).1, fun q4 => (h.f1 (by rw [upd_ne _ (by decide)] at q'; exact q')).2 (by rw [upd_ne _ (by decide)] at q4; exact q4)⟩
    f2 := fun q' => h.f2 (by rw [upd_ne _ (by decide)] at q'; exact q')
    f3 := fun q' => ⟨(h.f3 (by rw [upd_ne _ (by decide)] at q'; exact q')).1, fun q4 => (h.f3 (by rw [upd_ne _ (by decide)] at q'; exact q')).2 (by rw [upd_ne _ (by decide)] at q4; exact q4)⟩
    f4 := fun q' => ⟨(h.f4 (by rw [upd_ne _ (by decide)] at q'; exact q')).1, (h.f4 (by rw [upd_ne _ (by decide)] at q'; exact q')).2⟩
    f5 := fun q' => ⟨by rw [upd_ne _ (by decide)]; exact (h.f5 (by rw [upd_ne _ (by decide)] at q'; exact q')).1, (h.f5 (by rw [upd_ne _ (by decide)] at q'; exact q')).2⟩
    f6 := fun q' => ⟨by rw [upd_ne _ (by decide)]; exact (h.f6 (by rw [upd_ne _ (by decide)] at q'; exact q')).1, (h.f6 (by rw [upd_ne _ (by decide)] at q'; exact q')).2⟩
    f7 := fun q' => h.f7 (by rw [upd_ne _ (by decide)] at q'; exact q')
    f8 := fun q' => ⟨(h.f8 (by rw [upd_ne _ (by decide)] at q'; exact q')).1, (h.f8 (by rw [upd_ne _ (by decide)] at q'; exact q')).2.1, fun q9 => (h.f8 (by rw [upd_ne _ (by decide)] at q'; exact q')).2.2 (by rw [upd_ne _ (by decide)] at q9; exact q9)⟩
    f9 := fun q' => ⟨by rw [upd_ne _ (by decide)]; exact (h.f9 (by rw [upd_ne _ (by decide)] at q'; exact q')).1, by rw [upd_ne _ (by decide)]; exact (h.f9 (by rw [upd_ne _ (by decide)] at q'; exact q')).2.1, (h.f9 (by rw [upd_ne _ (by decide)] at q'; exact q')).2.2⟩
    f10 := fun _ => rfl }
end
theorem cases11 {i : Nat} (h : i < 11) : i = 0 ∨ i = 1 ∨ i = 2 ∨ i = 3 ∨ i = 4 ∨ i = 5 ∨ i = 6 ∨ i = 7 ∨ i = 8 ∨ i = 9 ∨ i = 10 := by omega
end Go.Proofs.YtepddbfafdfadaaGreat

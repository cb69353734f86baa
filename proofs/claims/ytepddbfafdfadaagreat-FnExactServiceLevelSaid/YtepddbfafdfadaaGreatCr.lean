/-
  One round of a copy of a service: the rows of the tracks copied so far, and the next. No condition: lemmas.
-/
import Derived.Test.YtepddbfafdfadaaGreatMh
import Derived.Test.YtepddbfafdfadaaGreatTs
namespace Go.Proofs.YtepddbfafdfadaaGreat
open Go.RowKit Go.Sort

theorem t12 {w : World} {b : Nat} {x : Row} (h : Blk w b 62 #[.int .i64 x.2.l.id, .int .i64 x.2.l.ticks, .int .i64 x.2.l.sx, .int .i64 x.2.l.sy, .slice x.1.w.a x.1.w.n x.1.w.c, .slice x.1.g.a x.1.g.n x.1.g.c, .int .i64 x.2.l.f.1, .int .i64 x.2.l.f.2.1, .int .i64 x.2.l.f.2.2.1, .int .i64 x.2.l.f.2.2.2, .int .i64 x.2.l.bans, .slice x.1.b.a x.1.b.n x.1.b.c]) : w.cell? ⟨b, 0, none⟩ = some (.int .i64 x.2.l.id) ∧ w.cell? ⟨b, 1, none⟩ = some (.int .i64 x.2.l.ticks) ∧ w.cell? ⟨b, 2, none⟩ = some (.int .i64 x.2.l.sx) ∧ w.cell? ⟨b, 3, none⟩ = some (.int .i64 x.2.l.sy) ∧ w.cell? ⟨b, 4, none⟩ = some (.slice x.1.w.a x.1.w.n x.1.w.c) ∧ w.cell? ⟨b, 5, none⟩ = some (.slice x.1.g.a x.1.g.n x.1.g.c) ∧ w.cell? ⟨b, 6, none⟩ = some (.int .i64 x.2.l.f.1) ∧ w.cell? ⟨b, 7, none⟩ = some (.int .i64 x.2.l.f.2.1) ∧ w.cell? ⟨b, 8, none⟩ = some (.int .i64 x.2.l.f.2.2.1) ∧ w.cell? ⟨b, 9, none⟩ = some (.int .i64 x.2.l.f.2.2.2) ∧ w.cell? ⟨b, 10, none⟩ = some (.int .i64 x.2.l.bans) ∧ w.cell? ⟨b, 11, none⟩ = some (.slice x.1.b.a x.1.b.n x.1.b.c) :=
  ⟨h.cell 0, h.cell 1, h.cell 2, h.cell 3, h.cell 4, h.cell 5, h.cell 6, h.cell 7, h.cell 8, h.cell 9, h.cell 10, h.cell 11⟩
theorem blk_t {lo hi T T' sz n c x : Nat} {A : Option Addr} {w0 w w' : World} {cs : Array Value} {vs : List Value} (h : Blk w x T cs) (k : OwI lo hi w0 T' sz A n c vs) (hg : w.grownBy w' (ownB A c)) (hx : hi ≤ x) : Blk w' x T cs :=
  (hg.block x h.lt (by
    intro e
    unfold ownB at e
    split at e
    · cases e
    · have := (k.lt e.symm (by omega)).2.1
      omega)).trans h
theorem blk_apart' {B T T' sz n c x : Nat} {A : Option Addr} {w w' : World} {cs : Array Value} {vs : List Value} (h : Blk w x T cs) (k : Ow B w T' sz A n c vs) (hne : T ≠ T') (hg : w.grownBy w' (ownB A c)) : Blk w' x T cs :=
  (hg.block x h.lt (by
    intro e
    rcases Nat.eq_zero_or_pos c with h0 | h0
    · rw [h0] at e; simp [ownB] at e
    · obtain ⟨g2, _, e2, _, hb2, _⟩ := k.blk h0
      unfold ownB at e
      rw [if_neg (by omega), e2] at e
      injection e with e
      simp only at e
      exact Blk.ne_ h hb2 hne e)).trans h
theorem keepI_frm {o T : Nat} {w w' : World} {cs : Array Value} (hf : Frm o (o + 1) w w') (h : Blk w o T cs) (hne : 3 ≠ T) : KeepI w w' := fun x _ hx => hf.block x hx.lt (by
  have : x ≠ o := by rintro rfl; exact Blk.ne_ hx h hne rfl
  omega)
theorem OwR.apart {lo hi B n c : Nat} {A : Option Addr} {w w' : World} {xs : List Row} {vs : List Value} (h : OwR lo hi w xs) (k : Ow B w 62 12 A n c vs) (hg : w.grownBy w' (ownB A c)) : OwR lo hi w' xs :=
  ⟨fun x hx => by
    obtain ⟨⟨h1, h2, h3⟩, h4, h5⟩ := h.own x hx
    exact ⟨⟨h1.apart k (by decide) hg, h2.apart k (by decide) hg, h3⟩, h4.apart k (by decide) hg, h5⟩, h.box, h.ent⟩
theorem copy_round {o p c' c4 M : Nat} {A' A4 : Option Addr} {ys : List Row} {y : Row} {wr xl w3 X : World} {ob : Obj} (ho : o < M) (hM : M ≤ wr.heap.size) (hp : p < 1048576)
    (hT : OwTs M wr.heap.size wr ⟨A', p, c'⟩ ys) (hb : Below wr.heap.size wr xl)
    (hL : OwL wr.heap.size xl.heap.size xl y.2.l y.1.w y.1.g) (hnd : (blkOf y.1.w ++ blkOf y.1.g).Nodup) (hE : OwEn wr.heap.size xl.heap.size xl y.1.b y.2.b) (hEn : y.1.b.n ≤ 1048576)
    (hO4 : Ow M w3 62 12 A4 (p + 1) c4 (cellsT ys ++ encT y)) (hg4 : (xl.alloc ob).grownBy w3 (ownB A' c')) (hX : Frm o (o + 1) w3 X) :
    OwTs M X.heap.size X ⟨A4, p + 1, c4⟩ (ys ++ [y]) := by
  have ha : Below xl.heap.size xl (xl.alloc ob) := (Below.refl _ _).alloc (Nat.le_refl _) _
  have hk : Ow M (xl.alloc ob) 62 12 A' p c' (cellsT ys) := ((hT.1.next hb).next ha).ow
  have r1 : OwR M wr.heap.size X ys := (((hT.rows.next hb).next ha).apart hk hg4).frm hX (.inr ho)
  have hL' := hL.next ha
  have hE' : OwEn wr.heap.size xl.heap.size (xl.alloc ob) y.1.b y.2.b := OwI.next hE ha
  have ry : OwR wr.heap.size xl.heap.size (xl.alloc ob) [y] := ⟨fun z hz => by
    obtain rfl : z = y := List.mem_singleton.1 hz
    exact ⟨hL', hE', hEn⟩, by rw [boxBlks_one]; exact hnd, by rw [entBlks_one]; exact blkOf_nodup _⟩
  have r2 : OwR wr.heap.size xl.heap.size X [y] := (ry.apart hk hg4).frm hX (.inr (by omega))
  have s1 : xl.heap.size ≤ X.heap.size := Nat.le_trans (Nat.le_trans ha.size hg4.size) hX.size
  have hR := (r1.app r2 hM hb.size).mono (lo' := M) (Nat.le_refl _) s1
  refine OwTs.mk_ ?_ hR (by show p + 1 ≤ 1048576; omega)
  have h5 := (OwI.of hO4).frm hX (.inr ho)
  have h6 := h5.mono (lo' := M) (Nat.le_refl _) hX.size
  show OwI M _ _ _ 12 _ _ _ (cellsX encT (ys ++ [y]))
  rw [cellsX_append, cellsX_one]
  exact h6
theorem copy_frm {o M c' : Nat} {A' : Option Addr} {wr xl w3 X : World} {ob : Obj} {p : Nat} {vs : List Value} {wc : World} (hwc : wc.heap.size = M) (h0 : Frm o (o + 1) wc wr) (hT : OwI M wr.heap.size wr 62 12 A' p c' vs) (hb : Below wr.heap.size wr xl) (hg4 : (xl.alloc ob).grownBy w3 (ownB A' c')) (hX : Frm o (o + 1) w3 X) : Frm o (o + 1) wc X := by
  have ha : Below xl.heap.size xl (xl.alloc ob) := (Below.refl _ _).alloc (Nat.le_refl _) _
  have h1 := ((h0.next hb).next ha)
  refine Frm.trans ⟨hg4.os.trans h1.os, hg4.tape.trans h1.tape, hg4.output.trans h1.output, Nat.le_trans h1.size hg4.size, fun i hi ho => ?_⟩ hX
  rw [hg4.block i (Nat.lt_of_lt_of_le hi h1.size) ?_]
  · exact h1.block i hi ho
  · intro e
    unfold ownB at e
    split at e
    · cases e
    · have := (hT.lt e.symm (by omega)).1
      omega
end Go.Proofs.YtepddbfafdfadaaGreat

/-
  Rows of the call's own: blocks apart, rows written cell by cell. No condition: lemmas.
-/
import Derived.Test.YtepddbfafdfadaaGreatSv
import Derived.Test.YtepddbfafdfadaaGreatMk
namespace Go.Proofs.YtepddbfafdfadaaGreat
open Go.RowKit Go.Sort

/-- cells written one behind the other -/
def setRun : Array Value → Nat → List Value → Array Value
  | cur, _, [] => cur
  | cur, m, v :: r => setRun (cur.setIfInBounds m v) (m + 1) r
theorem setRun_take : ∀ (vs : List Value) (cur : Array Value) (m : Nat), m + vs.length ≤ cur.size → (setRun cur m vs).size = cur.size ∧ (setRun cur m vs).toList.take (m + vs.length) = cur.toList.take m ++ vs
  | [], cur, m, _ => ⟨rfl, by simp [setRun]⟩
  | v :: r, cur, m, h => by
    simp only [List.length_cons] at h
    obtain ⟨h1, h2⟩ := setRun_take r (cur.setIfInBounds m v) (m + 1) (by simp; omega)
    refine ⟨by rw [setRun, h1]; simp, ?_⟩
    rw [setRun, List.length_cons, show m + (r.length + 1) = m + 1 + r.length by omega, h2]
    have : (cur.setIfInBounds m v).toList.take (m + 1) = cur.toList.take m ++ [v] := by
      rw [Array.toList_setIfInBounds, List.take_add_one, List.getElem?_set_self (by simp; omega), List.take_set_of_le (Nat.le_refl m)]
      rfl
    rw [this, List.append_assoc]
    rfl
theorem Ow.of_blk {B g T sz n : Nat} {w : World} {xs : List Value} (h : Blk w g T xs.toArray) (hl : xs.length = n * sz) (hn : n ≤ 1048576) (hB : B ≤ g) : Ow B w T sz (some ⟨g, 0, none⟩) n n xs :=
  Ow.mk_ hl hB h (Nat.le_refl _) (by unfold maxLen; omega) (by simp [hl]) (by rw [List.take_of_length_le (by simp [hl])])
theorem nodup_app {a b : List Nat} (m : Nat) (ha : a.Nodup) (hb : b.Nodup) (h1 : ∀ x ∈ a, x < m) (h2 : ∀ x ∈ b, m ≤ x) : (a ++ b).Nodup := by
  rw [List.nodup_append]
  refine ⟨ha, hb, fun x hx y hy => ?_⟩
  have := h1 x hx
  have := h2 y hy
  omega
section
variable {lo hi T sz : Nat} {w w' : World} {s : Sl} {vs : List Value} {l : Lvl} {ws gs : Sl} {x : Row} {xs ys : List Row} {t k g : Sl} {S : Svc}
theorem OwI.mem (h : OwI lo hi w T sz s.a s.n s.c vs) : ∀ b ∈ blkOf s, lo ≤ b ∧ b < hi := fun b hb => by
  obtain ⟨hc, hg⟩ := mem_blkOf.1 hb
  have := h.lt hg hc
  exact ⟨this.1, this.2.1⟩
theorem blkOf_nodup (s : Sl) : (blkOf s).Nodup := by
  unfold blkOf
  cases ownB s.a s.c <;> simp
theorem OwL.mem (h : OwL lo hi w l ws gs) : ∀ b ∈ blkOf ws ++ blkOf gs, lo ≤ b ∧ b < hi := fun b hb => by
  rcases List.mem_append.1 hb with hb | hb
  · exact h.1.mem b hb
  · exact h.2.1.mem b hb
theorem boxBlks_append (a b : List Row) : boxBlks (a ++ b) = boxBlks a ++ boxBlks b := by simp [boxBlks]
theorem entBlks_append (a b : List Row) : entBlks (a ++ b) = entBlks a ++ entBlks b := by simp [entBlks]
theorem boxBlks_one (x : Row) : boxBlks [x] = blkOf x.1.w ++ blkOf x.1.g := by simp [boxBlks]
theorem entBlks_one (x : Row) : entBlks [x] = blkOf x.1.b := by simp [entBlks]
theorem box_mem (h : ∀ x ∈ xs, OwT lo hi w x) : ∀ b ∈ boxBlks xs, lo ≤ b ∧ b < hi := fun b hb => by
  obtain ⟨x, hx, hb⟩ := List.mem_flatMap.1 hb
  exact (h x hx).1.mem b hb
theorem ent_mem (h : ∀ x ∈ xs, OwT lo hi w x) : ∀ b ∈ entBlks xs, lo ≤ b ∧ b < hi := fun b hb => by
  obtain ⟨x, hx, hb⟩ := List.mem_flatMap.1 hb
  exact (h x hx).2.1.mem b hb
/-- tracks that are owned, one by one -/
structure OwR (lo hi : Nat) (w : World) (xs : List Row) : Prop where
  own : ∀ x ∈ xs, OwT lo hi w x
  box : (boxBlks xs).Nodup
  ent : (entBlks xs).Nodup
theorem OwR.nil (lo hi : Nat) (w : World) : OwR lo hi w [] := ⟨by simp, by simp [boxBlks], by simp [entBlks]⟩
theorem OwR.mono {lo' hi' : Nat} (h : OwR lo hi w xs) (h1 : lo' ≤ lo) (h2 : hi ≤ hi') : OwR lo' hi' w xs := ⟨fun x hx => (h.own x hx).mono h1 h2, h.box, h.ent⟩
theorem OwR.next (h : OwR lo hi w xs) (hb : Below w.heap.size w w') : OwR lo hi w' xs := ⟨fun x hx => (h.own x hx).next hb, h.box, h.ent⟩
/-- two lists of tracks in intervals apart -/
theorem OwR.app {m : Nat} (h : OwR lo m w xs) (k : OwR m hi w ys) (h1 : lo ≤ m) (h2 : m ≤ hi) : OwR lo hi w (xs ++ ys) :=
  ⟨fun x hx => by
    rcases List.mem_append.1 hx with hx | hx
    · exact (h.own x hx).mono (Nat.le_refl _) h2
    · exact (k.own x hx).mono h1 (Nat.le_refl _),
  by rw [boxBlks_append]; exact nodup_app m h.box k.box (fun b hb => (box_mem h.own b hb).2) (fun b hb => (box_mem k.own b hb).1),
  by rw [entBlks_append]; exact nodup_app m h.ent k.ent (fun b hb => (ent_mem h.own b hb).2) (fun b hb => (ent_mem k.own b hb).1)⟩
theorem OwTs.mk_ (h : OwI lo hi w 62 12 t.a t.n t.c (cellsT xs)) (r : OwR lo hi w xs) (hn : t.n ≤ 1048576) : OwTs lo hi w t xs := ⟨h, r.own, r.box, r.ent, hn⟩
theorem OwTs.rows (h : OwTs lo hi w t xs) : OwR lo hi w xs := ⟨h.2.1, h.2.2.1, h.2.2.2.1⟩
end
end Go.Proofs.YtepddbfafdfadaaGreat

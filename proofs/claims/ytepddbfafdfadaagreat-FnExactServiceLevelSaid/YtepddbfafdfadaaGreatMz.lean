/-
  markBoxS, markIntS, markTrackS, markService and heldBoxS .. heldService: numbers written into a service of the call's own, and found again.
-/
import Derived.Test.YtepddbfafdfadaaGreatOw
namespace Go.Proofs.YtepddbfafdfadaaGreat
open Go.RowKit Go.Sort

theorem Ow.set_ {B T sz n c g j : Nat} {w : World} {vs : List Value} (h : Ow B w T sz (some ⟨g, 0, none⟩) n c vs) (hj : j < vs.length) (v : Value) : Ow B (w.setCell ⟨g, j, none⟩ v) T sz (some ⟨g, 0, none⟩) n c (vs.set j v) := by
  have hl := h.len
  have hn : 0 < n := by
    rcases Nat.eq_zero_or_pos n with h0 | h0
    · subst h0; rw [Nat.zero_mul] at hl; omega
    · exact h0
  have hle := h.le
  obtain ⟨g', cur, hg, hB, hb, hnc, hcm, hcs, htk⟩ := h.blk (by omega)
  injection hg with hg
  injection hg with hg
  subst hg
  refine Ow.mk_ (by rw [List.length_set]; exact hl) hB (hb.set_ j v) hle hcm (by simpa using hcs) ?_
  rw [Array.toList_setIfInBounds, List.take_set, htk]
theorem OwI.apart {lo hi B T T' sz sz' n n' c c' : Nat} {A A' : Option Addr} {w w' : World} {vs vs' : List Value} (h : OwI lo hi w T sz A n c vs) (k : Ow B w T' sz' A' n' c' vs') (hne : T ≠ T') (hg : w.grownBy w' (ownB A' c')) : OwI lo hi w' T sz A n c vs :=
  h.keep fun g ha hc => hg.block g (h.lt ha hc).2.2 (by
    intro e
    rcases Nat.eq_zero_or_pos c' with h0 | h0
    · rw [h0] at e; simp [ownB] at e
    · obtain ⟨g1, _, e1, _, hb1, _⟩ := h.ow.blk hc
      obtain ⟨g2, _, e2, _, hb2, _⟩ := k.blk h0
      rw [e1] at ha
      injection ha with ha
      unfold ownB at e
      rw [if_neg (by omega), e2] at e
      injection e with e
      simp only at ha e
      subst ha
      rw [e] at hb1
      exact Blk.ne_ hb1 hb2 hne rfl)
theorem OwI.apartB {lo hi T sz n c : Nat} {A : Option Addr} {o : Option Nat} {w w' : World} {vs : List Value} (h : OwI lo hi w T sz A n c vs) (hd : ∀ b ∈ (ownB A c).toList, b ∉ o.toList) (hg : w.grownBy w' o) : OwI lo hi w' T sz A n c vs :=
  h.keep fun g ha hc => hg.block g (h.lt ha hc).2.2 (by
    intro e
    refine hd g ?_ ?_
    · unfold ownB; rw [if_neg (by omega), ha]; simp
    · rw [← e]; simp)
theorem Frm.of_own {lo hi T sz n c : Nat} {A : Option Addr} {w w' : World} {vs : List Value} (h : OwI lo hi w T sz A n c vs) (hg : w.grownBy w' (ownB A c)) : Frm lo hi w w' :=
  ⟨hg.os, hg.tape, hg.output, hg.size, fun i hi' ho => hg.block i hi' (by
    intro e
    unfold ownB at e
    split at e
    · cases e
    · have := h.lt e.symm (by omega)
      omega)⟩

section
variable {lo hi : Nat} {w w' : World} {t : Sl} {a b : List Row} {x : Row}
theorem mid_mem {x' y : Row} (h : y ∈ a ++ x' :: b) : y = x' ∨ y ∈ a ∨ y ∈ b := by
  rcases List.mem_append.1 h with h | h
  · exact .inr (.inl h)
  · rcases List.mem_cons.1 h with h | h
    · exact .inl h
    · exact .inr (.inr h)
theorem boxBlks_mid (a b : List Row) (x : Row) : boxBlks (a ++ x :: b) = boxBlks a ++ ((blkOf x.1.w ++ blkOf x.1.g) ++ boxBlks b) := by simp [boxBlks]
theorem entBlks_mid (a b : List Row) (x : Row) : entBlks (a ++ x :: b) = entBlks a ++ (blkOf x.1.b ++ entBlks b) := by simp [entBlks]
theorem box_in {y : Row} {xs : List Row} (h : y ∈ xs) {c : Nat} (hc : c ∈ blkOf y.1.w ∨ c ∈ blkOf y.1.g) : c ∈ boxBlks xs := List.mem_flatMap.2 ⟨y, h, List.mem_append.2 hc⟩
theorem ent_in {y : Row} {xs : List Row} (h : y ∈ xs) {c : Nat} (hc : c ∈ blkOf y.1.b) : c ∈ entBlks xs := List.mem_flatMap.2 ⟨y, h, hc⟩
/-- the boxes of other rows lie apart -/
theorem box_apart (hn : (boxBlks (a ++ x :: b)).Nodup) {y : Row} (hy : y ∈ a ∨ y ∈ b) {c : Nat} (hc : c ∈ blkOf y.1.w ∨ c ∈ blkOf y.1.g) : c ∉ blkOf x.1.w ++ blkOf x.1.g := by
  rw [boxBlks_mid, List.nodup_append] at hn
  obtain ⟨_, hn, h1⟩ := hn
  rw [List.nodup_append] at hn
  obtain ⟨_, _, h2⟩ := hn
  intro hx
  rcases hy with hy | hy
  · exact h1 c (box_in hy hc) c (List.mem_append_left _ hx) rfl
  · exact h2 c hx c (box_in hy hc) rfl
theorem ent_apart (hn : (entBlks (a ++ x :: b)).Nodup) {y : Row} (hy : y ∈ a ∨ y ∈ b) {c : Nat} (hc : c ∈ blkOf y.1.b) : c ∉ blkOf x.1.b := by
  rw [entBlks_mid, List.nodup_append] at hn
  obtain ⟨_, hn, h1⟩ := hn
  rw [List.nodup_append] at hn
  obtain ⟨_, _, h2⟩ := hn
  intro hx
  rcases hy with hy | hy
  · exact h1 c (ent_in hy hc) c (List.mem_append_left _ hx) rfl
  · exact h2 c hx c (ent_in hy hc) rfl
theorem box_self (hn : (boxBlks (a ++ x :: b)).Nodup) {c : Nat} (h1 : c ∈ blkOf x.1.w) (h2 : c ∈ blkOf x.1.g) : False := by
  rw [boxBlks_mid, List.nodup_append] at hn
  obtain ⟨_, hn, _⟩ := hn
  rw [List.nodup_append] at hn
  obtain ⟨hn, _, _⟩ := hn
  rw [List.nodup_append] at hn
  exact hn.2.2 c h1 c h2 rfl
theorem cellsT_mid {x' : Row} (h : encT x' = encT x) : cellsT (a ++ x' :: b) = cellsT (a ++ x :: b) := by
  show cellsX encT _ = cellsX encT _
  rw [cellsX_append, cellsX_append, cellsX_cons, cellsX_cons, h]
abbrev Row.setW (x : Row) (bs : List Bx) : Row := (x.1, ⟨⟨x.2.l.id, x.2.l.ticks, x.2.l.sx, x.2.l.sy, bs, x.2.l.gates, x.2.l.f, x.2.l.bans⟩, x.2.b⟩)
abbrev Row.setG (x : Row) (bs : List Bx) : Row := (x.1, ⟨⟨x.2.l.id, x.2.l.ticks, x.2.l.sx, x.2.l.sy, x.2.l.walls, bs, x.2.l.f, x.2.l.bans⟩, x.2.b⟩)
abbrev Row.setE (x : Row) (es : List Ent) : Row := (x.1, ⟨x.2.l, es⟩)
theorem OwTs.walls {bs : List Bx} (h : OwTs lo hi w t (a ++ x :: b)) (hg : w.grownBy w' (ownB x.1.w.a x.1.w.c)) (hw : Ow lo w' 44 4 x.1.w.a x.1.w.n x.1.w.c (cellsB bs)) :
    OwTs lo hi w' t (a ++ Row.setW x bs :: b) := by
  obtain ⟨h1, h2, h3, h4, h5⟩ := h
  have hx := h2 x (by simp)
  refine ⟨?_, fun y hy => ?_, ?_, ?_, h5⟩
  · rw [show cellsT (a ++ Row.setW x bs :: b) = cellsT (a ++ x :: b) from cellsT_mid rfl]
    exact h1.apart hx.1.1.ow (by decide) hg
  · rcases mid_mem hy with rfl | hy
    · refine ⟨⟨⟨hw, hx.1.1.2⟩, hx.1.2.1.apartB (fun c hc hw => box_self h3 hw hc) hg, hx.1.2.2⟩, hx.2.1.apart hx.1.1.ow (by decide) hg, hx.2.2⟩
    · have hyo := h2 y (by rcases hy with hy | hy <;> simp [hy])
      refine ⟨⟨hyo.1.1.apartB (fun c hc hw => box_apart h3 hy (.inl hc) (List.mem_append_left _ hw)) hg, hyo.1.2.1.apartB (fun c hc hw => box_apart h3 hy (.inr hc) (List.mem_append_left _ hw)) hg, hyo.1.2.2⟩, hyo.2.1.apart hx.1.1.ow (by decide) hg, hyo.2.2⟩
  · rw [boxBlks_mid] at h3 ⊢; exact h3
  · rw [entBlks_mid] at h4 ⊢; exact h4
theorem OwTs.gates {bs : List Bx} (h : OwTs lo hi w t (a ++ x :: b)) (hg : w.grownBy w' (ownB x.1.g.a x.1.g.c)) (hw : Ow lo w' 44 4 x.1.g.a x.1.g.n x.1.g.c (cellsB bs)) :
    OwTs lo hi w' t (a ++ Row.setG x bs :: b) := by
  obtain ⟨h1, h2, h3, h4, h5⟩ := h
  have hx := h2 x (by simp)
  refine ⟨?_, fun y hy => ?_, ?_, ?_, h5⟩
  · rw [show cellsT (a ++ Row.setG x bs :: b) = cellsT (a ++ x :: b) from cellsT_mid rfl]
    exact h1.apart hx.1.2.1.ow (by decide) hg
  · rcases mid_mem hy with rfl | hy
    · refine ⟨⟨hx.1.1.apartB (fun c hc hw => box_self h3 hc hw) hg, ⟨hw, hx.1.2.1.2⟩, hx.1.2.2⟩, hx.2.1.apart hx.1.2.1.ow (by decide) hg, hx.2.2⟩
    · have hyo := h2 y (by rcases hy with hy | hy <;> simp [hy])
      refine ⟨⟨hyo.1.1.apartB (fun c hc hw => box_apart h3 hy (.inl hc) (List.mem_append_right _ hw)) hg, hyo.1.2.1.apartB (fun c hc hw => box_apart h3 hy (.inr hc) (List.mem_append_right _ hw)) hg, hyo.1.2.2⟩, hyo.2.1.apart hx.1.2.1.ow (by decide) hg, hyo.2.2⟩
  · rw [boxBlks_mid] at h3 ⊢; exact h3
  · rw [entBlks_mid] at h4 ⊢; exact h4
theorem OwTs.board {es : List Ent} (h : OwTs lo hi w t (a ++ x :: b)) (hg : w.grownBy w' (ownB x.1.b.a x.1.b.c)) (hw : Ow lo w' 67 2 x.1.b.a x.1.b.n x.1.b.c (cellsE es)) :
    OwTs lo hi w' t (a ++ Row.setE x es :: b) := by
  obtain ⟨h1, h2, h3, h4, h5⟩ := h
  have hx := h2 x (by simp)
  refine ⟨?_, fun y hy => ?_, ?_, ?_, h5⟩
  · rw [show cellsT (a ++ Row.setE x es :: b) = cellsT (a ++ x :: b) from cellsT_mid rfl]
    exact h1.apart hx.2.1.ow (by decide) hg
  · rcases mid_mem hy with rfl | hy
    · refine ⟨⟨hx.1.1.apart hx.2.1.ow (by decide) hg, hx.1.2.1.apart hx.2.1.ow (by decide) hg, hx.1.2.2⟩, ⟨hw, hx.2.1.2⟩, hx.2.2⟩
    · have hyo := h2 y (by rcases hy with hy | hy <;> simp [hy])
      refine ⟨⟨hyo.1.1.apart hx.2.1.ow (by decide) hg, hyo.1.2.1.apart hx.2.1.ow (by decide) hg, hyo.1.2.2⟩, hyo.2.1.apartB (fun c hc hw => ent_apart h4 hy hc hw) hg, hyo.2.2⟩
  · rw [boxBlks_mid] at h3 ⊢; exact h3
  · rw [entBlks_mid] at h4 ⊢; exact h4
theorem OwTs.store {g n c k : Nat} (j : Nat) (x' : Row) {v : Value} (h : OwTs lo hi w ⟨some ⟨g, 0, none⟩, n, c⟩ (a ++ x :: b)) (hk : a.length = k) (hv : encT x' = (encT x).set j v) (hp : x'.1 = x.1) (hw : x'.2.l.walls = x.2.l.walls) (hg : x'.2.l.gates = x.2.l.gates) (hb : x'.2.b = x.2.b) (hj : j < 12) :
    OwTs lo hi (w.setCell ⟨g, k * 12 + j, none⟩ v) ⟨some ⟨g, 0, none⟩, n, c⟩ (a ++ x' :: b) := by
  obtain ⟨h1, h2, h3, h4, h5⟩ := h
  have hlen : k * 12 + j < (cellsT (a ++ x :: b)).length := by rw [cellsT_len, List.length_append, List.length_cons, hk]; omega
  have hc : 0 < c := by
    have h6 : (cellsT (a ++ x :: b)).length = n * 12 := h1.ow.len
    have h7 : n ≤ c := h1.ow.le
    rw [cellsT_len, List.length_append, List.length_cons] at h6
    omega
  have hG : w.grownBy (w.setCell ⟨g, k * 12 + j, none⟩ v) (ownB (some ⟨g, 0, none⟩) c) := by
    have : ownB (some (⟨g, 0, none⟩ : Addr)) c = some g := by unfold ownB; rw [if_neg (by omega)]; rfl
    rw [this]
    exact Only.set_ (Only.refl g w) (.inl rfl) _
  refine ⟨⟨?_, h1.2⟩, fun y hy => ?_, ?_, ?_, h5⟩
  · have e := cellsX_set encT_len (a ++ x :: b) k x x' j v (by rw [← hk]; simp) hv hj
    rw [← hk, List.set_append_right _ _ (Nat.le_refl _), Nat.sub_self, List.set_cons_zero, hk] at e
    show Ow lo _ _ 12 _ _ _ (cellsX encT (a ++ x' :: b))
    rw [e]
    exact h1.ow.set_ hlen v
  · have hyo : ∀ y, OwT lo hi w y → OwT lo hi (w.setCell ⟨g, k * 12 + j, none⟩ v) y := fun y hy => ⟨⟨hy.1.1.apart h1.ow (by decide) hG, hy.1.2.1.apart h1.ow (by decide) hG, hy.1.2.2⟩, hy.2.1.apart h1.ow (by decide) hG, hy.2.2⟩
    rcases mid_mem hy with rfl | hy
    · have := hyo x (h2 x (by simp))
      unfold OwT OwL at this ⊢
      rw [hp, hw, hg, hb]
      exact this
    · exact hyo y (h2 y (by rcases hy with hy | hy <;> simp [hy]))
  · rw [boxBlks_mid] at h3 ⊢; rw [hp]; exact h3
  · rw [entBlks_mid] at h4 ⊢; rw [hp]; exact h4
end
end Go.Proofs.YtepddbfafdfadaaGreat

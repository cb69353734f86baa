/-
  Rows of any elements: slices that read as a list, nil let in (Rd); rows of the call's own that lie in an interval of blocks (OwI); worlds of which only an interval of blocks has turned (Frm). No condition: definitions and lemmas over any program.
-/
import Derived.Test.YtepddbfafdfadaaGreatMem
namespace Go.Proofs.YtepddbfafdfadaaGreat
open Go.RowKit Go.Sort

section
variable {α : Type} {enc : α → List Value} {sz : Nat}
/-- the cells of a list of elements, sz cells each -/
def cellsX (enc : α → List Value) (xs : List α) : List Value := xs.flatMap enc
theorem cellsX_cons (x : α) (r : List α) : cellsX enc (x :: r) = enc x ++ cellsX enc r := rfl
theorem cellsX_append (a b : List α) : cellsX enc (a ++ b) = cellsX enc a ++ cellsX enc b := by simp [cellsX]
theorem cellsX_one (x : α) : cellsX enc [x] = enc x := by simp [cellsX]
theorem cellsX_length (he : ∀ x, (enc x).length = sz) (xs : List α) : (cellsX enc xs).length = xs.length * sz := by
  induction xs with
  | nil => simp [cellsX]
  | cons x r ih => rw [cellsX_cons, List.length_append, he, ih, List.length_cons, Nat.add_mul, Nat.one_mul, Nat.add_comm]
theorem cellsX_get (he : ∀ x, (enc x).length = sz) (xs : List α) : ∀ (k : Nat) (x : α), xs[k]? = some x → ∀ j v, (enc x)[j]? = some v → (cellsX enc xs)[k * sz + j]? = some v := by
  induction xs with
  | nil => intro k x h; simp at h
  | cons y r ih =>
    intro k x h j v hv
    have hj : j < sz := by
      have := (List.getElem?_eq_some_iff.1 hv).1
      rw [he] at this
      exact this
    cases k with
    | zero =>
      simp at h
      subst h
      rw [cellsX_cons, Nat.zero_mul, Nat.zero_add, List.getElem?_append_left (by rw [he]; exact hj)]
      exact hv
    | succ k =>
      have h' : r[k]? = some x := by simpa using h
      rw [cellsX_cons, List.getElem?_append_right (by rw [he, Nat.add_mul]; omega), he, show (k + 1) * sz + j - sz = k * sz + j by rw [Nat.add_mul]; omega]
      exact ih k x h' j v hv
theorem cellsX_take (he : ∀ x, (enc x).length = sz) (xs : List α) : ∀ k, (cellsX enc xs).take (k * sz) = cellsX enc (xs.take k) := by
  induction xs with
  | nil => intro k; simp [cellsX]
  | cons x r ih =>
    intro k
    cases k with
    | zero => simp [cellsX]
    | succ k =>
      rw [cellsX_cons, List.take_append, he, List.take_of_length_le (by rw [he, Nat.add_mul]; omega), show (k + 1) * sz - sz = k * sz by rw [Nat.add_mul]; omega, ih, List.take_succ_cons, cellsX_cons]
theorem cellsX_drop (he : ∀ x, (enc x).length = sz) (xs : List α) : ∀ k, (cellsX enc xs).drop (k * sz) = cellsX enc (xs.drop k) := by
  induction xs with
  | nil => intro k; simp [cellsX]
  | cons x r ih =>
    intro k
    cases k with
    | zero => simp
    | succ k =>
      rw [cellsX_cons, List.drop_append, he, List.drop_of_length_le (by rw [he, Nat.add_mul]; omega), show (k + 1) * sz - sz = k * sz by rw [Nat.add_mul]; omega, ih, List.drop_succ_cons, List.nil_append]
theorem cellsX_oneCell (h : ∀ x, ∀ u ∈ enc x, u.oneCell' = true) (xs : List α) : ∀ u ∈ cellsX enc xs, u.oneCell' = true := by
  intro u hu
  simp only [cellsX, List.mem_flatMap] at hu
  obtain ⟨e, _, h'⟩ := hu
  exact h e u h'
theorem cellsX_set (he : ∀ x, (enc x).length = sz) (xs : List α) : ∀ (k : Nat) (x y : α) (j : Nat) (v : Value), xs[k]? = some x → enc y = (enc x).set j v → j < sz → cellsX enc (xs.set k y) = (cellsX enc xs).set (k * sz + j) v := by
  induction xs with
  | nil => intro k x y j v h; simp at h
  | cons z r ih =>
    intro k x y j v h hy hj
    cases k with
    | zero =>
      simp at h
      subst h
      rw [List.set_cons_zero, cellsX_cons, cellsX_cons, Nat.zero_mul, Nat.zero_add, List.set_append_left _ _ (by rw [he]; exact hj), hy]
    | succ k =>
      rw [List.set_cons_succ, cellsX_cons, cellsX_cons, List.set_append_right _ _ (by rw [he, Nat.add_mul]; omega), he, show (k + 1) * sz + j - sz = k * sz + j by rw [Nat.add_mul]; omega, ih k x y j v (by simpa using h) hy hj]

/-- A slice that reads as a list of elements, nil let in. -/
def Rd (enc : α → List Value) (sz : Nat) (w : World) (A : Option Addr) (n : Nat) (xs : List α) : Prop :=
  xs.length = n ∧ (0 < n → ∃ b off, A = some ⟨b, off, none⟩ ∧ b < w.heap.size ∧ ∀ k x, xs[k]? = some x → ∀ j v, (enc x)[j]? = some v → w.cell? ⟨b, off + k * sz + j, none⟩ = some v)
variable {w w' : World} {A : Option Addr} {n : Nat} {xs : List α}
theorem Rd.len (h : Rd enc sz w A n xs) : xs.length = n := h.1
theorem Rd.at_ (h : Rd enc sz w A n xs) {k : Nat} (hk : k < n) : ∃ b off x, A = some ⟨b, off, none⟩ ∧ b < w.heap.size ∧ xs[k]? = some x ∧ ∀ j v, (enc x)[j]? = some v → w.cell? ⟨b, off + k * sz + j, none⟩ = some v := by
  obtain ⟨b, off, hA, hb, hc⟩ := h.2 (by omega)
  have hl : k < xs.length := by rw [h.1]; exact hk
  exact ⟨b, off, xs[k], hA, hb, List.getElem?_eq_getElem hl, hc k _ (List.getElem?_eq_getElem hl)⟩
theorem Rd.keep (h : Rd enc sz w A n xs) (hs : w.heap.size ≤ w'.heap.size) (hk : ∀ b o, 0 < n → A.map (·.block) = some b → b < w.heap.size → w'.cell? ⟨b, o, none⟩ = w.cell? ⟨b, o, none⟩) : Rd enc sz w' A n xs := by
  refine ⟨h.1, fun hn => ?_⟩
  obtain ⟨b, off, hA, hlt, hc⟩ := h.2 hn
  exact ⟨b, off, hA, Nat.lt_of_lt_of_le hlt hs, fun k e he j v hv => by rw [hk b _ hn (by rw [hA]; rfl) hlt]; exact hc k e he j v hv⟩
theorem Rd.below (h : Rd enc sz w A n xs) (hb : Below w.heap.size w w') : Rd enc sz w' A n xs := h.keep hb.size fun b o _ _ hlt => (bcell hb).1 b o hlt
theorem Rd.nil_ (w : World) (A : Option Addr) : Rd enc sz w A 0 [] := ⟨rfl, fun h => absurd h (by omega)⟩
theorem Rd.take (h : Rd enc sz w A n xs) {k : Nat} (hk : k ≤ n) : Rd enc sz w A k (xs.take k) := by
  refine ⟨by rw [List.length_take, h.1]; omega, fun hn => ?_⟩
  obtain ⟨b, off, hA, hlt, hc⟩ := h.2 (by omega)
  exact ⟨b, off, hA, hlt, fun j e he => hc j e (by
    rw [List.getElem?_take] at he
    split at he
    · exact he
    · cases he)⟩
theorem Rd.blk {g T : Nat} (he : ∀ x, (enc x).length = sz) (h : Blk w g T (cellsX enc xs).toArray) : Rd enc sz w (some ⟨g, 0, none⟩) xs.length xs := by
  refine ⟨rfl, fun _ => ⟨g, 0, rfl, h.lt, fun k e hk j v hv => ?_⟩⟩
  have := cellsX_get he xs k e hk j v hv
  rw [Nat.zero_add, h.cell]
  simpa using this
theorem Src.rd (he : ∀ x, (enc x).length = sz) (h : Rd enc sz w A n xs) : Src w sz A n (cellsX enc xs) := by
  refine ⟨by rw [cellsX_length he, h.1], fun hn => ?_⟩
  obtain ⟨b, off, hA, hb, hc⟩ := h.2 hn
  refine ⟨_, hA, fun j u hu => ?_⟩
  rw [Addr.add_lit]
  have hj : j < (cellsX enc xs).length := (List.getElem?_eq_some_iff.1 hu).1
  rw [cellsX_length he] at hj
  have hsz : 0 < sz := by
    rcases Nat.eq_zero_or_pos sz with h0 | h0
    · rw [h0] at hj; omega
    · exact h0
  have hk : j / sz < xs.length := Nat.div_lt_of_lt_mul (by rw [Nat.mul_comm]; exact hj)
  have hm : j % sz < sz := Nat.mod_lt _ hsz
  have hdm : j = j / sz * sz + j % sz := by rw [Nat.mul_comm]; exact (Nat.div_add_mod j sz).symm
  have hv : (enc xs[j / sz])[j % sz]? = some ((enc xs[j / sz])[j % sz]'(by rw [he]; exact hm)) := List.getElem?_eq_getElem _
  have h1 := cellsX_get he xs _ _ (List.getElem?_eq_getElem hk) _ _ hv
  have h2 := hc _ _ (List.getElem?_eq_getElem hk) _ _ hv
  rw [← hdm] at h1
  rw [hu] at h1
  injection h1 with h1
  rw [h1]
  have h3 : off + j = off + j / sz * sz + j % sz := by omega
  rw [h3]
  exact h2
theorem Rd.src (he : ∀ x, (enc x).length = sz) (hl : xs.length = n) (hw : ∀ ad, 0 < n → A = some ad → ad.spot = none) (h : Src w sz A n (cellsX enc xs)) (hsz : 0 < sz) : Rd enc sz w A n xs := by
  refine ⟨hl, fun hn => ?_⟩
  obtain ⟨ad, hA, hc⟩ := h.2 hn
  obtain ⟨b, off, sp⟩ := ad
  obtain rfl : sp = none := hw _ hn hA
  have hx : xs[0]? = some (xs[0]'(by omega)) := List.getElem?_eq_getElem _
  have hx0 : (enc (xs[0]'(by omega)))[0]? = some ((enc (xs[0]'(by omega)))[0]'(by rw [he]; exact hsz)) := List.getElem?_eq_getElem _
  have h0 := hc _ _ (cellsX_get he xs _ _ hx _ _ hx0)
  rw [Addr.add_lit] at h0
  refine ⟨b, off, hA, World.block_lt_of_cell? _ _ h0, fun k x hk j v hv => ?_⟩
  have := hc _ _ (cellsX_get he xs k x hk j v hv)
  rw [Addr.add_lit] at this
  rw [Nat.add_assoc]
  exact this
theorem Ow.rd {B T c : Nat} (he : ∀ x, (enc x).length = sz) (hsz : 0 < sz) (h : Ow B w T sz A n c (cellsX enc xs)) : Rd enc sz w A n xs := by
  have hl := h.len
  rw [cellsX_length he] at hl
  refine Rd.src he (Nat.eq_of_mul_eq_mul_right hsz hl) (fun ad hn hA => ?_) h.src hsz
  obtain ⟨g, cur, hg, _⟩ := h.blk (Nat.lt_of_lt_of_le hn h.le)
  rw [hg] at hA
  injection hA with hA
  rw [← hA]
end

/-- Of a world's blocks only those from lo to hi, and new ones, may have turned. -/
structure Frm (lo hi : Nat) (a b : World) : Prop where
  os : b.os = a.os
  tape : b.tape = a.tape
  output : b.output = a.output
  size : a.heap.size ≤ b.heap.size
  block : ∀ i, i < a.heap.size → (i < lo ∨ hi ≤ i) → b.heap[i]? = a.heap[i]?
section
variable {lo hi : Nat} {a b c w w' : World}
theorem Frm.refl (lo hi : Nat) (w : World) : Frm lo hi w w := ⟨rfl, rfl, rfl, Nat.le_refl _, fun _ _ _ => rfl⟩
theorem Frm.trans (h : Frm lo hi a b) (k : Frm lo hi b c) : Frm lo hi a c :=
  ⟨k.os.trans h.os, k.tape.trans h.tape, k.output.trans h.output, Nat.le_trans h.size k.size, fun i hi ho => (k.block i (Nat.lt_of_lt_of_le hi h.size) ho).trans (h.block i hi ho)⟩
theorem Frm.mono {lo' hi' : Nat} (h : Frm lo hi a b) (h1 : lo' ≤ lo) (h2 : hi ≤ hi') : Frm lo' hi' a b := ⟨h.os, h.tape, h.output, h.size, fun i hi ho => h.block i hi (by omega)⟩
theorem Frm.of_below (h : Below a.heap.size a b) (lo hi : Nat) : Frm lo hi a b := ⟨h.os, h.tape, h.output, h.size, fun i hi _ => h.block i hi⟩
theorem Frm.of_only {g : Nat} (h : Only g a b) (h1 : lo ≤ g) (h2 : g < hi) : Frm lo hi a b := ⟨h.os, h.tape, h.output, h.size, fun i hi ho => h.block i hi (by intro e; injection e with e; omega)⟩
theorem Frm.below {B : Nat} (h : Frm lo hi a b) (hB : B ≤ lo) (hs : B ≤ a.heap.size) : Below B a b := ⟨h.os, h.tape, h.output, h.size, fun k hk => h.block k (by omega) (.inl (by omega))⟩
theorem Frm.cell {x : Nat} (h : Frm lo hi w w') (hx : x < w.heap.size) (hne : x < lo ∨ hi ≤ x) (o : Nat) : w'.cell? ⟨x, o, none⟩ = w.cell? ⟨x, o, none⟩ := World.cell?_of_block (w := w) (h.block x hx hne)
theorem Blk.frm {x T : Nat} {cs : Array Value} (hb : Blk w x T cs) (h : Frm lo hi w w') (hne : x < lo ∨ hi ≤ x) : Blk w' x T cs := (h.block x hb.lt hne).trans hb
end

/-- A row of the call's own whose block lies from lo to hi. -/
def OwI (lo hi : Nat) (w : World) (T size : Nat) (A : Option Addr) (n c : Nat) (xs : List Value) : Prop :=
  Ow lo w T size A n c xs ∧ (0 < c → ∀ g, A.map (·.block) = some g → g < hi)
section
variable {lo hi : Nat} {w w' : World} {T size n c : Nat} {A : Option Addr} {xs : List Value}
theorem OwI.of (h : Ow lo w T size A n c xs) : OwI lo w.heap.size w T size A n c xs := ⟨h, fun hc _ hg => (h.lt hg hc).2⟩
theorem OwI.ow (h : OwI lo hi w T size A n c xs) : Ow lo w T size A n c xs := h.1
theorem OwI.bare (lo hi : Nat) (w : World) (T size : Nat) (A : Option Addr) : OwI lo hi w T size A 0 0 [] := ⟨Ow.bare _ _ _ _ _, fun h => absurd h (by omega)⟩
theorem OwI.mono {lo' hi' : Nat} (h : OwI lo hi w T size A n c xs) (h1 : lo' ≤ lo) (h2 : hi ≤ hi') : OwI lo' hi' w T size A n c xs := ⟨h.1.mono h1, fun hc g hg => Nat.lt_of_lt_of_le (h.2 hc g hg) h2⟩
theorem OwI.lt (h : OwI lo hi w T size A n c xs) {g : Nat} (hg : A.map (·.block) = some g) (hc : 0 < c) : lo ≤ g ∧ g < hi ∧ g < w.heap.size := ⟨(h.1.lt hg hc).1, h.2 hc g hg, (h.1.lt hg hc).2⟩
theorem OwI.next (h : OwI lo hi w T size A n c xs) (hb : Below w.heap.size w w') : OwI lo hi w' T size A n c xs := ⟨h.1.next hb, h.2⟩
theorem OwI.keep (h : OwI lo hi w T size A n c xs) (hk : ∀ g, A.map (·.block) = some g → 0 < c → w'.heap[g]? = w.heap[g]?) : OwI lo hi w' T size A n c xs := ⟨h.1.keep hk, h.2⟩
theorem OwI.frm {lo' hi' : Nat} (h : OwI lo hi w T size A n c xs) (hf : Frm lo' hi' w w') (hd : hi ≤ lo' ∨ hi' ≤ lo) : OwI lo hi w' T size A n c xs :=
  h.keep fun g hg hc => hf.block g (h.lt hg hc).2.2 (by have := h.lt hg hc; omega)
end
theorem Frm.set_ {lo hi : Nat} {a b : World} {p : Addr} (h : Frm lo hi a b) (h1 : lo ≤ p.block) (h2 : p.block < hi) (u : Value) : Frm lo hi a (b.setCell p u) :=
  ⟨h.os, h.tape, h.output, by simpa [World.setCell] using h.size, fun i hi' ho => (Below.heap_setCell b p u i (by omega)).trans (h.block i hi' ho)⟩
theorem Frm.next {lo hi : Nat} {a b c : World} (h : Frm lo hi a b) (k : Below b.heap.size b c) : Frm lo hi a c := h.trans (Frm.of_below k lo hi)
/-- the walk goes on in a world of which only R is known -/
theorem into_world {P : Program} {c : Code} {Q : Exit → Act → World → Prop} {a : Act} {w : World} (R : World → Prop) (h : R w) (k : ∀ w', R w' → Code.wp P c Q a w') : Code.wp P c Q a w := k w h
/-- what is behind a new block on is as before it -/
theorem ba {w w' : World} {o : Obj} (h : Below (w.alloc o).heap.size (w.alloc o) w') : Below w.heap.size w w' := ((Below.refl _ _).alloc (Nat.le_refl _) _).trans (h.mono (by simp))
end Go.Proofs.YtepddbfafdfadaaGreat

/-
  Lemmas and contracts: Rd Bs Bi Br Lk Bm. No condition.
-/
import Derived.Test.YtemnlheidghbmaaGreatKc1
import Derived.Test.YtemnlheidghbmaaGreatKc2
namespace Go.Proofs.YtemnlheidghbmaaGreat
open Go.RowKit Go.Sort
section
variable {α : Type} {enc : α → List Value} {sz : Nat}
def cellsX (enc : α → List Value) (xs : List α) : List Value := xs.flatMap enc
theorem cellsX_cons (x : α) (r : List α) : cellsX enc (x :: r) = enc x ++ cellsX enc r := rfl
theorem cellsX_append (a b : List α) : cellsX enc (a ++ b) = cellsX enc a ++ cellsX enc b := by simp [cellsX]
theorem cellsX_one (x : α) : cellsX enc [x] = enc x := by simp [cellsX]
theorem cellsX_length (he : ∀ x, (enc x).length = sz) (xs : List α) : (cellsX enc xs).length = xs.length * sz := by
 induction xs with
 | nil => simp [cellsX]
 | cons x r ih => rw [cellsX_cons, List.length_append, he, ih, List.length_cons, Nat.add_mul, Nat.one_mul, Nat.add_comm]
theorem cellsX_get (he : ∀ x, (enc x).length = sz) (xs : List α) : ∀ (k : Nat) (x : α), xs[k]? = some x → ∀ j v, (enc x)[j]? = some v → (cellsX enc xs)[k * sz + j]? = some v := by
 induction xs with
 | nil => intro k x h; simp at h
 | cons y r ih =>
  intro k x h j v hv
  have hj : j < sz := by
   have := (List.getElem?_eq_some_iff.1 hv).1
   rw [he] at this
   exact this
  cases k with
  | zero =>
   simp at h
   subst h
   rw [cellsX_cons, Nat.zero_mul, Nat.zero_add, List.getElem?_append_left (by rw [he]; exact hj)]
   exact hv
  | succ k =>
   have h' : r[k]? = some x := by simpa using h
   rw [cellsX_cons, List.getElem?_append_right (by rw [he, Nat.add_mul]; omega), he, show (k + 1) * sz + j - sz = k * sz + j by rw [Nat.add_mul]; omega]
   exact ih k x h' j v hv
theorem cellsX_take (he : ∀ x, (enc x).length = sz) (xs : List α) : ∀ k, (cellsX enc xs).take (k * sz) = cellsX enc (xs.take k) := by
 induction xs with
 | nil => intro k; simp [cellsX]
 | cons x r ih =>
  intro k
  cases k with
  | zero => simp [cellsX]
  | succ k =>
   rw [cellsX_cons, List.take_append, he, List.take_of_length_le (by rw [he, Nat.add_mul]; omega), show (k + 1) * sz - sz = k * sz by rw [Nat.add_mul]; omega, ih, List.take_succ_cons, cellsX_cons]
theorem cellsX_drop (he : ∀ x, (enc x).length = sz) (xs : List α) : ∀ k, (cellsX enc xs).drop (k * sz) = cellsX enc (xs.drop k) := by
 induction xs with
 | nil => intro k; simp [cellsX]
 | cons x r ih =>
  intro k
  cases k with
  | zero => simp
  | succ k =>
   rw [cellsX_cons, List.drop_append, he, List.drop_of_length_le (by rw [he, Nat.add_mul]; omega), show (k + 1) * sz - sz = k * sz by rw [Nat.add_mul]; omega, ih, List.drop_succ_cons, List.nil_append]
theorem cellsX_oneCell (h : ∀ x, ∀ u ∈ enc x, u.oneCell' = true) (xs : List α) : ∀ u ∈ cellsX enc xs, u.oneCell' = true := by
 intro u hu
 simp only [cellsX, List.mem_flatMap] at hu
 obtain ⟨e, _, h'⟩ := hu
 exact h e u h'
theorem cellsX_set (he : ∀ x, (enc x).length = sz) (xs : List α) : ∀ (k : Nat) (x y : α) (j : Nat) (v : Value), xs[k]? = some x → enc y = (enc x).set j v → j < sz → cellsX enc (xs.set k y) = (cellsX enc xs).set (k * sz + j) v := by
 induction xs with
 | nil => intro k x y j v h; simp at h
 | cons z r ih =>
  intro k x y j v h hy hj
  cases k with
  | zero =>
   simp at h
   subst h
   rw [List.set_cons_zero, cellsX_cons, cellsX_cons, Nat.zero_mul, Nat.zero_add, List.set_append_left _ _ (by rw [he]; exact hj), hy]
  | succ k =>
   rw [List.set_cons_succ, cellsX_cons, cellsX_cons, List.set_append_right _ _ (by rw [he, Nat.add_mul]; omega), he, show (k + 1) * sz + j - sz = k * sz + j by rw [Nat.add_mul]; omega, ih k x y j v (by simpa using h) hy hj]
def Rd (enc : α → List Value) (sz : Nat) (w : World) (A : Option Addr) (n : Nat) (xs : List α) : Prop :=
 xs.length = n ∧ (0 < n → ∃ b off, A = some ⟨b, off, none⟩ ∧ b < w.heap.size ∧ ∀ k x, xs[k]? = some x → ∀ j v, (enc x)[j]? = some v → w.cell? ⟨b, off + k * sz + j, none⟩ = some v)
variable {w w' : World} {A : Option Addr} {n : Nat} {xs : List α}
theorem Rd.len (h : Rd enc sz w A n xs) : xs.length = n := h.1
theorem Rd.at_ (h : Rd enc sz w A n xs) {k : Nat} (hk : k < n) : ∃ b off x, A = some ⟨b, off, none⟩ ∧ b < w.heap.size ∧ xs[k]? = some x ∧ ∀ j v, (enc x)[j]? = some v → w.cell? ⟨b, off + k * sz + j, none⟩ = some v := by
 obtain ⟨b, off, hA, hb, hc⟩ := h.2 (by omega)
 have hl : k < xs.length := by rw [h.1]; exact hk
 exact ⟨b, off, xs[k], hA, hb, List.getElem?_eq_getElem hl, hc k _ (List.getElem?_eq_getElem hl)⟩
theorem Rd.keep (h : Rd enc sz w A n xs) (hs : w.heap.size ≤ w'.heap.size) (hk : ∀ b o, 0 < n → A.map (·.block) = some b → b < w.heap.size → w'.cell? ⟨b, o, none⟩ = w.cell? ⟨b, o, none⟩) : Rd enc sz w' A n xs := by
 refine ⟨h.1, fun hn => ?_⟩
 obtain ⟨b, off, hA, hlt, hc⟩ := h.2 hn
 exact ⟨b, off, hA, Nat.lt_of_lt_of_le hlt hs, fun k e he j v hv => by rw [hk b _ hn (by rw [hA]; rfl) hlt]; exact hc k e he j v hv⟩
theorem Rd.below (h : Rd enc sz w A n xs) (hb : Below w.heap.size w w') : Rd enc sz w' A n xs := h.keep hb.size fun b o _ _ hlt => (bcell hb).1 b o hlt
theorem Rd.take (h : Rd enc sz w A n xs) {k : Nat} (hk : k ≤ n) : Rd enc sz w A k (xs.take k) := by
 refine ⟨by rw [List.length_take, h.1]; omega, fun hn => ?_⟩
 obtain ⟨b, off, hA, hlt, hc⟩ := h.2 (by omega)
 exact ⟨b, off, hA, hlt, fun j e he => hc j e (by
  rw [List.getElem?_take] at he
  split at he
  ·exact he
  ·cases he)⟩
theorem Rd.blk {g T : Nat} (he : ∀ x, (enc x).length = sz) (h : Blk w g T (cellsX enc xs).toArray) : Rd enc sz w (some ⟨g, 0, none⟩) xs.length xs := by
 refine ⟨rfl, fun _ => ⟨g, 0, rfl, h.lt, fun k e hk j v hv => ?_⟩⟩
 have := cellsX_get he xs k e hk j v hv
 rw [Nat.zero_add, h.cell]
 simpa using this
theorem Src.rd (he : ∀ x, (enc x).length = sz) (h : Rd enc sz w A n xs) : Src w sz A n (cellsX enc xs) := by
 refine ⟨by rw [cellsX_length he, h.1], fun hn => ?_⟩
 obtain ⟨b, off, hA, hb, hc⟩ := h.2 hn
 refine ⟨_, hA, fun j u hu => ?_⟩
 rw [Addr.add_lit]
 have hj : j < (cellsX enc xs).length := (List.getElem?_eq_some_iff.1 hu).1
 rw [cellsX_length he] at hj
 have hsz : 0 < sz := by
  rcases Nat.eq_zero_or_pos sz with h0 | h0
  ·rw [h0] at hj; omega
  ·exact h0
 have hk : j / sz < xs.length := Nat.div_lt_of_lt_mul (by rw [Nat.mul_comm]; exact hj)
 have hm : j % sz < sz := Nat.mod_lt _ hsz
 have hdm : j = j / sz * sz + j % sz := by rw [Nat.mul_comm]; exact (Nat.div_add_mod j sz).symm
 have hv : (enc xs[j / sz])[j % sz]? = some ((enc xs[j / sz])[j % sz]'(by rw [he]; exact hm)) := List.getElem?_eq_getElem _
 have h1 := cellsX_get he xs _ _ (List.getElem?_eq_getElem hk) _ _ hv
 have h2 := hc _ _ (List.getElem?_eq_getElem hk) _ _ hv
 rw [← hdm] at h1
 rw [hu] at h1
 injection h1 with h1
 rw [h1]
 have h3 : off + j = off + j / sz * sz + j % sz := by omega
 rw [h3]
 exact h2
theorem Rd.src (he : ∀ x, (enc x).length = sz) (hl : xs.length = n) (hw : ∀ ad, 0 < n → A = some ad → ad.spot = none) (h : Src w sz A n (cellsX enc xs)) (hsz : 0 < sz) : Rd enc sz w A n xs := by
 refine ⟨hl, fun hn => ?_⟩
 obtain ⟨ad, hA, hc⟩ := h.2 hn
 obtain ⟨b, off, sp⟩ := ad
 obtain rfl : sp = none := hw _ hn hA
 have hx : xs[0]? = some (xs[0]'(by omega)) := List.getElem?_eq_getElem _
 have hx0 : (enc (xs[0]'(by omega)))[0]? = some ((enc (xs[0]'(by omega)))[0]'(by rw [he]; exact hsz)) := List.getElem?_eq_getElem _
 have h0 := hc _ _ (cellsX_get he xs _ _ hx _ _ hx0)
 rw [Addr.add_lit] at h0
 refine ⟨b, off, hA, World.block_lt_of_cell? _ _ h0, fun k x hk j v hv => ?_⟩
 have := hc _ _ (cellsX_get he xs k x hk j v hv)
 rw [Addr.add_lit] at this
 rw [Nat.add_assoc]
 exact this
theorem Ow.rd {B T c : Nat} (he : ∀ x, (enc x).length = sz) (hsz : 0 < sz) (h : Ow B w T sz A n c (cellsX enc xs)) : Rd enc sz w A n xs := by
 have hl := h.len
 rw [cellsX_length he] at hl
 refine Rd.src he (Nat.eq_of_mul_eq_mul_right hsz hl) (fun ad hn hA => ?_) h.src hsz
 obtain ⟨g, cur, hg, _⟩ := h.blk (Nat.lt_of_lt_of_le hn h.le)
 rw [hg] at hA
 injection hA with hA
 rw [← hA]
end
structure Frm (lo hi : Nat) (a b : World) : Prop where
 os : b.os = a.os
 tape : b.tape = a.tape
 output : b.output = a.output
 size : a.heap.size ≤ b.heap.size
 block : ∀ i, i < a.heap.size → (i < lo ∨ hi ≤ i) → b.heap[i]? = a.heap[i]?
section
variable {lo hi : Nat} {a b c w w' : World}
theorem Frm.refl (lo hi : Nat) (w : World) : Frm lo hi w w := ⟨rfl, rfl, rfl, Nat.le_refl _, fun _ _ _ => rfl⟩
theorem Frm.trans (h : Frm lo hi a b) (k : Frm lo hi b c) : Frm lo hi a c :=
 ⟨k.os.trans h.os, k.tape.trans h.tape, k.output.trans h.output, Nat.le_trans h.size k.size, fun i hi ho => (k.block i (Nat.lt_of_lt_of_le hi h.size) ho).trans (h.block i hi ho)⟩
theorem Frm.mono {lo' hi' : Nat} (h : Frm lo hi a b) (h1 : lo' ≤ lo) (h2 : hi ≤ hi') : Frm lo' hi' a b := ⟨h.os, h.tape, h.output, h.size, fun i hi ho => h.block i hi (by omega)⟩
theorem Frm.of_below (h : Below a.heap.size a b) (lo hi : Nat) : Frm lo hi a b := ⟨h.os, h.tape, h.output, h.size, fun i hi _ => h.block i hi⟩
theorem Frm.of_only {g : Nat} (h : Only g a b) (h1 : lo ≤ g) (h2 : g < hi) : Frm lo hi a b := ⟨h.os, h.tape, h.output, h.size, fun i hi ho => h.block i hi (by intro e; injection e with e; omega)⟩
theorem Frm.below {B : Nat} (h : Frm lo hi a b) (hB : B ≤ lo) (hs : B ≤ a.heap.size) : Below B a b := ⟨h.os, h.tape, h.output, h.size, fun k hk => h.block k (by omega) (.inl (by omega))⟩
theorem Frm.cell {x : Nat} (h : Frm lo hi w w') (hx : x < w.heap.size) (hne : x < lo ∨ hi ≤ x) (o : Nat) : w'.cell? ⟨x, o, none⟩ = w.cell? ⟨x, o, none⟩ := World.cell?_of_block (w := w) (h.block x hx hne)
theorem Blk.frm {x T : Nat} {cs : Array Value} (hb : Blk w x T cs) (h : Frm lo hi w w') (hne : x < lo ∨ hi ≤ x) : Blk w' x T cs := (h.block x hb.lt hne).trans hb
end
def OwI (lo hi : Nat) (w : World) (T size : Nat) (A : Option Addr) (n c : Nat) (xs : List Value) : Prop :=
 Ow lo w T size A n c xs ∧ (0 < c → ∀ g, A.map (·.block) = some g → g < hi)
section
variable {lo hi : Nat} {w w' : World} {T size n c : Nat} {A : Option Addr} {xs : List Value}
theorem OwI.of (h : Ow lo w T size A n c xs) : OwI lo w.heap.size w T size A n c xs := ⟨h, fun hc _ hg => (h.lt hg hc).2⟩
theorem OwI.ow (h : OwI lo hi w T size A n c xs) : Ow lo w T size A n c xs := h.1
theorem OwI.bare (lo hi : Nat) (w : World) (T size : Nat) (A : Option Addr) : OwI lo hi w T size A 0 0 [] := ⟨Ow.bare _ _ _ _ _, fun h => absurd h (by omega)⟩
theorem OwI.mono {lo' hi' : Nat} (h : OwI lo hi w T size A n c xs) (h1 : lo' ≤ lo) (h2 : hi ≤ hi') : OwI lo' hi' w T size A n c xs := ⟨h.1.mono h1, fun hc g hg => Nat.lt_of_lt_of_le (h.2 hc g hg) h2⟩
theorem OwI.lt (h : OwI lo hi w T size A n c xs) {g : Nat} (hg : A.map (·.block) = some g) (hc : 0 < c) : lo ≤ g ∧ g < hi ∧ g < w.heap.size := ⟨(h.1.lt hg hc).1, h.2 hc g hg, (h.1.lt hg hc).2⟩
theorem OwI.next (h : OwI lo hi w T size A n c xs) (hb : Below w.heap.size w w') : OwI lo hi w' T size A n c xs := ⟨h.1.next hb, h.2⟩
theorem OwI.keep (h : OwI lo hi w T size A n c xs) (hk : ∀ g, A.map (·.block) = some g → 0 < c → w'.heap[g]? = w.heap[g]?) : OwI lo hi w' T size A n c xs := ⟨h.1.keep hk, h.2⟩
theorem OwI.frm {lo' hi' : Nat} (h : OwI lo hi w T size A n c xs) (hf : Frm lo' hi' w w') (hd : hi ≤ lo' ∨ hi' ≤ lo) : OwI lo hi w' T size A n c xs :=
 h.keep fun g hg hc => hf.block g (h.lt hg hc).2.2 (by have := h.lt hg hc; omega)
end
theorem Frm.set_ {lo hi : Nat} {a b : World} {p : Addr} (h : Frm lo hi a b) (h1 : lo ≤ p.block) (h2 : p.block < hi) (u : Value) : Frm lo hi a (b.setCell p u) :=
 ⟨h.os, h.tape, h.output, by simpa [World.setCell] using h.size, fun i hi' ho => (Below.heap_setCell b p u i (by omega)).trans (h.block i hi' ho)⟩
theorem Frm.next {lo hi : Nat} {a b c : World} (h : Frm lo hi a b) (k : Below b.heap.size b c) : Frm lo hi a c := h.trans (Frm.of_below k lo hi)
theorem into_world {P : Program} {c : Code} {Q : Exit → Act → World → Prop} {a : Act} {w : World} (R : World → Prop) (h : R w) (k : ∀ w', R w' → Code.wp P c Q a w') : Code.wp P c Q a w := k w h
theorem ba {w w' : World} {o : Obj} (h : Below (w.alloc o).heap.size (w.alloc o) w') : Below w.heap.size w w' := ((Below.refl _ _).alloc (Nat.le_refl _) _).trans (h.mono (by simp))
end Go.Proofs.YtemnlheidghbmaaGreat
namespace Go.Proofs.YtemnlheidghbmaaGreat
open Go.RowKit Go.Sort
set_option maxHeartbeats 400000 in
theorem l6In_any (n lo hi : Int) (w : World) :
  Calls Tryz.prog 43 #[.int .i64 n, .int .i64 lo, .int .i64 hi] w fun e w' => e = .returned (.bool (inR n lo hi)) ∧ w = w' := by
 go_enter Tryz.func43, Tryz.ntmps43
 go_wp2
 all_goals go_ret
 all_goals exact ⟨ret_bool (by simp [inR]; omega), rfl⟩
set_option maxHeartbeats 400000 in
theorem l32Entry_any (x : Ent) (w : World) :
  Calls Tryz.prog 73 #[.agg #[.int .i64 x.1, .int .i64 x.2]] w fun e w' => e = .returned (.bool (okE x)) ∧ Below w.heap.size w w' := by
 go_enter Tryz.func73, Tryz.ntmps73
 go_wp2_with (first | (go_at_call 43; refine (l6In_any _ _ _ _).mono ?_; rintro e w' ⟨rfl, rfl⟩))
 all_goals go_ret
 all_goals exact ⟨ret_bool (by simp [okE, *]), (Below.refl _ _).alloc (Nat.le_refl _) _⟩
set_option maxHeartbeats 400000 in
theorem l32Find_any (A : Option Addr) (n c : Nat) (es : List Ent) (p : Int) (w : World) (hr : RdE w A n es) (hn : n ≤ 1099511627776) :
  Calls Tryz.prog 74 #[.slice A n c, .int .i64 p] w fun e w' => e = .returned (.int .i64 (findE p es 0)) ∧ w = w' := by
 have HR := Lib.hid hr; clear hr
 go_enter Tryz.func74, Tryz.ntmps74
 go_wp2
 go_loop [5] (fun i => ∃ k : Nat, k ≤ n ∧ i = .int .i64 k ∧ Hid (findE p es 0 = findE p (es.drop k) k)) (fun i => n - (intOf i).toNat)
 case atStart => exact ⟨0, Nat.zero_le _, rfl, rfl⟩
 case round =>
  obtain ⟨k, hk, rfl, HF⟩ := hrel
  by_cases hlt : k < n
  ·obtain ⟨b, off, e, rfl, hb, he, h0, h1⟩ := HR.out.at_ hlt
   have HS := Lib.hid (findE_step p es k e he)
   clear he
   by_cases hp : e.1 = p
   ·have hq : (e.1 == p) = true := by simpa using hp
    have HP := Lib.hid hp; clear hp
    go_wp2
    go_ret
    exact ⟨ret_int (by rw [HF.out, HS.out, if_pos HP.out]), rfl⟩
   ·have hq : (e.1 == p) = false := by simpa using hp
    go_wp2
    exact ⟨⟨k + 1, by omega, by go_num, by show Hid _; unfold Hid; rw [HF.out, HS.out, if_neg hp]⟩, by simp [intOf]; omega⟩
  ·go_wp2
   go_ret
   have : k = n := by omega
   exact ⟨ret_int (by rw [HF.out, List.drop_of_length_le (by rw [HR.out.len]; omega)]; rfl), rfl⟩
set_option maxHeartbeats 1000000 in
theorem specBoardValid_any (A : Option Addr) (n c : Nat) (es : List Ent) (w : World) (hr : RdE w A n es) (hn : n ≤ 1099511627776) :
  Calls Tryz.prog 44 #[.slice A n c] w fun e w' => e = .returned (.bool (vallE es && decide ((n : Int) ≤ 4))) ∧ Below w.heap.size w w' := by
 have HR := Lib.hid hr; clear hr
 go_enter Tryz.func44, Tryz.ntmps44
 go_wp2
 go_loopw [3] (fun i wr => ∃ k : Nat, k ≤ n ∧ i = .int .i64 k ∧ Hid (Below w.heap.size w wr ∧ ∀ j, j < k → vrE es j = true)) (fun i _ => n - (intOf i).toNat)
 case atStart => exact ⟨0, Nat.zero_le _, rfl, Below.refl _ _, fun j hj => absurd hj (by omega)⟩
 case round =>
  obtain ⟨k, hk, rfl, HB⟩ := hrel
  by_cases hlt : k < n
  ·obtain ⟨b, off, e, hA, hb, he, h0, h1⟩ := (HR.out.below HB.out.1).at_ hlt
   have h0' := fun d os => cell_regrown h0 d os
   have h1' := fun d os => cell_regrown h1 d os
   have hrd := HR.out.below HB.out.1
   have hv : vrE es k = (okE e && !(decide (0 < k) && decide (e.2 < prevE es k)) && !(decide (findE e.1 es 0 < k))) := by simp [vrE, he]
   have hlen := HR.out.len
   subst hA
   have HL := Lib.hid hlen
   have HV := Lib.hid hv
   have HRD := Lib.hid hrd
   clear he h0 h1 hv hrd hlen
   cases hok : okE e with
   | false =>
    go_wp2
    refine wp_region_qb (by kernel_rfl) (by kernel_rfl) ?_
    repeat (go_big_quiet_step (first | (go_at_call 73; exact Calls.regrown_of (l32Entry_any _ _))))
    refine wpQuiet_nil ?_
    intro w1 hb1
    go_wp2
    go_ret
    exact ⟨ret_bool (by rw [vallE_false (k := k) (by rw [HL.out]; exact hlt) (by rw [HV.out, hok]; rfl)]), below_next HB.out.1 hb1⟩
   | true =>
    by_cases hk0 : 0 < k
    ·obtain ⟨b', off', e', hA', hb', he', h2, h3⟩ := HRD.out.at_ (k := k - 1) (by omega)
     obtain ⟨rfl, rfl⟩ : b = b' ∧ off = off' := by simpa using hA'
     have hpv : prevE es k = e'.2 := by simp [prevE, he']
     rw [hpv] at HV
     have h3' := fun d os => cell_regrown h3 d os
     clear hA' hb' he' h2 h3 hpv
     by_cases hs : e.2 < e'.2
     ·go_wp2
      refine wp_region_qb (by kernel_rfl) (by kernel_rfl) ?_
      repeat (go_big_quiet_step (first | (go_at_call 73; exact Calls.regrown_of (l32Entry_any _ _)) | (go_at_call 74; exact Calls.regrown_of ((l32Find_any _ _ _ _ _ _ (HRD.out.below (below_regrown _ _ _)) hn).mono fun _ _ ⟨h1, h2⟩ => ⟨h1, h2 ▸ Below.refl _ _⟩))))
      refine wpQuiet_nil ?_
      intro w1 hb1
      go_wp2
      go_ret
      exact ⟨ret_bool (by rw [vallE_false (k := k) (by rw [HL.out]; exact hlt) (by rw [HV.out]; simp [hok, hk0, hs])]), below_next HB.out.1 hb1⟩
     ·have hsb : decide (e.2 < e'.2) = false := by simpa using hs
      by_cases hf : findE e.1 es 0 < k
      ·go_wp2
       refine wp_region_qb (by kernel_rfl) (by kernel_rfl) ?_
       repeat (go_big_quiet_step (first | (go_at_call 73; exact Calls.regrown_of (l32Entry_any _ _)) | (go_at_call 74; exact Calls.regrown_of ((l32Find_any _ _ _ _ _ _ (HRD.out.below (below_regrown _ _ _)) hn).mono fun _ _ ⟨h1, h2⟩ => ⟨h1, h2 ▸ Below.refl _ _⟩))))
       refine wpQuiet_nil ?_
       intro w1 hb1
       go_wp2
       go_ret
       exact ⟨ret_bool (by rw [vallE_false (k := k) (by rw [HL.out]; exact hlt) (by rw [HV.out]; simp [hok, hk0, hf])]), below_next HB.out.1 hb1⟩
      ·have hfb : decide (findE e.1 es 0 < k) = false := by simpa using hf
       go_wp2
       refine wp_region_qb (by kernel_rfl) (by kernel_rfl) ?_
       repeat (go_big_quiet_step (first | (go_at_call 73; exact Calls.regrown_of (l32Entry_any _ _)) | (go_at_call 74; exact Calls.regrown_of ((l32Find_any _ _ _ _ _ _ (HRD.out.below (below_regrown _ _ _)) hn).mono fun _ _ ⟨h1, h2⟩ => ⟨h1, h2 ▸ Below.refl _ _⟩))))
       refine wpQuiet_nil ?_
       intro w1 hb1
       go_wp2
       exact ⟨⟨k + 1, by omega, by go_num, below_next HB.out.1 hb1, fun j hj => by
        by_cases hjk : j = k
        ·subst hjk; rw [HV.out]; simp [hok, hs, hf]
        ·exact HB.out.2 j (by omega)⟩, by simp [intOf]; omega⟩
    ·by_cases hf : findE e.1 es 0 < k
     ·go_wp2
      refine wp_region_qb (by kernel_rfl) (by kernel_rfl) ?_
      repeat (go_big_quiet_step (first | (go_at_call 73; exact Calls.regrown_of (l32Entry_any _ _)) | (go_at_call 74; exact Calls.regrown_of ((l32Find_any _ _ _ _ _ _ (HRD.out.below (below_regrown _ _ _)) hn).mono fun _ _ ⟨h1, h2⟩ => ⟨h1, h2 ▸ Below.refl _ _⟩))))
      refine wpQuiet_nil ?_
      intro w1 hb1
      go_wp2
      go_ret
      exact ⟨ret_bool (by rw [vallE_false (k := k) (by rw [HL.out]; exact hlt) (by rw [HV.out]; simp [hok, hk0, hf])]), below_next HB.out.1 hb1⟩
     ·have hfb : decide (findE e.1 es 0 < k) = false := by simpa using hf
      go_wp2
      refine wp_region_qb (by kernel_rfl) (by kernel_rfl) ?_
      repeat (go_big_quiet_step (first | (go_at_call 73; exact Calls.regrown_of (l32Entry_any _ _)) | (go_at_call 74; exact Calls.regrown_of ((l32Find_any _ _ _ _ _ _ (HRD.out.below (below_regrown _ _ _)) hn).mono fun _ _ ⟨h1, h2⟩ => ⟨h1, h2 ▸ Below.refl _ _⟩))))
      refine wpQuiet_nil ?_
      intro w1 hb1
      go_wp2
      exact ⟨⟨k + 1, by omega, by go_num, below_next HB.out.1 hb1, fun j hj => by
       by_cases hjk : j = k
       ·subst hjk; rw [HV.out]; simp [hok, hk0, hf]
       ·exact HB.out.2 j (by omega)⟩, by simp [intOf]; omega⟩
  ·go_wp2
   go_ret
   have hkn : k = n := by omega
   exact ⟨ret_bool (by rw [vallE_true (fun j hj => HB.out.2 j (by rw [HR.out.len] at hj; omega)), Bool.true_and]), HB.out.1⟩
theorem specBoardValid_v (A : Option Addr) (n c : Nat) (es : List Ent) (w : World) (hr : RdE w A n es) (hn : n ≤ 1099511627776) :
  Calls Tryz.prog 44 #[.slice A n c] w fun e w' => e = .returned (.bool (validE es)) ∧ Below w.heap.size w w' := by
 have h := specBoardValid_any A n c es w hr hn
 rw [show (vallE es && decide ((n : Int) ≤ 4)) = validE es by rw [← hr.len]; exact validE_spec es] at h
 exact h
end Go.Proofs.YtemnlheidghbmaaGreat
namespace Go.Proofs.YtemnlheidghbmaaGreat
open Go.RowKit Go.Sort
set_option maxHeartbeats 400000 in
theorem inRange_any (n lo hi : Int) (w : World) :
  Calls Tryz.prog 37 #[.int .i64 n, .int .i64 lo, .int .i64 hi] w fun e w' => e = .returned (.bool (inR n lo hi)) ∧ w = w' := by
 go_enter Tryz.func37, Tryz.ntmps37
 go_wp2
 all_goals go_ret
 all_goals exact ⟨ret_bool (by simp [inR]; omega), rfl⟩
set_option maxHeartbeats 400000 in
theorem entryOk_any (x : Ent) (w : World) :
  Calls Tryz.prog 46 #[.agg #[.int .i64 x.1, .int .i64 x.2]] w fun e w' => e = .returned (.bool (okE x)) ∧ Below w.heap.size w w' := by
 go_enter Tryz.func46, Tryz.ntmps46
 go_wp2_with (first | (go_at_call 37; refine (inRange_any _ _ _ _).mono ?_; rintro e w' ⟨rfl, rfl⟩))
 all_goals go_ret
 all_goals exact ⟨ret_bool (by simp [okE, *]), (Below.refl _ _).alloc (Nat.le_refl _) _⟩
set_option maxHeartbeats 400000 in
theorem placeOf1_any (x : Ent) (p : Int) (g : Nat) (w : World) (hp : w.cell? ⟨g, 0, none⟩ = some (.int .i64 p)) :
  Calls Tryz.prog 75 #[.agg #[.int .i64 x.1, .int .i64 x.2], .pointer (some ⟨g, 0, none⟩)] w fun e w' => e = .returned (.bool (x.1 == p)) ∧ Below w.heap.size w w' := by
 have hg := World.block_lt_of_cell? _ _ hp
 simp at hg
 go_enter Tryz.func75, Tryz.ntmps75
 go_wp2
 go_ret
 exact ⟨rfl, (Below.refl _ _).alloc (Nat.le_refl _) _⟩
set_option maxHeartbeats 400000 in
theorem indexFuncE_any (A : Option Addr) (n c : Nat) (es : List Ent) (p : Int) (g : Nat) (w : World) (hr : RdE w A n es) (hp : w.cell? ⟨g, 0, none⟩ = some (.int .i64 p)) (hn : n ≤ 1099511627776) :
  Calls Tryz.prog 72 #[.slice A n c, .func (.func 75) #[] #[.pointer (some ⟨g, 0, none⟩)]] w fun e w' => e = .returned (.int .i64 (findE p es 0)) ∧ Below w.heap.size w w' := by
 have HR := Lib.hid hr; clear hr
 have hg := World.block_lt_of_cell? _ _ hp
 have HP := Lib.hid hp; clear hp
 simp at hg
 go_enter Tryz.func72, Tryz.ntmps72
 go_wp2
 go_loopw [8] (fun i wr => ∃ k : Nat, k ≤ n ∧ i = .int .i64 k ∧ Hid (Below w.heap.size w wr ∧ findE p es 0 = findE p (es.drop k) k)) (fun i _ => n - (intOf i).toNat)
 case atStart => exact ⟨0, Nat.zero_le _, rfl, Below.refl _ _, rfl⟩
 case round =>
  obtain ⟨k, hk, rfl, HF⟩ := hrel
  by_cases hlt : k < n
  ·obtain ⟨b, off, e, rfl, hb, he, h0, h1⟩ := (HR.out.below HF.out.1).at_ hlt
   have HS := Lib.hid (findE_step p es k e he)
   have hp1 := ((bcell HF.out.1).1 g 0 hg).trans HP.out
   clear he
   have c1 := placeOf1_any e p g wr hp1
   clear hp1
   by_cases hp : e.1 = p
   ·have hq : (e.1 == p) = true := by simpa using hp
    rw [hq] at c1
    have C1 := Lib.hid c1
    have HP := Lib.hid hp; clear hp c1 hq
    go_wp2_with (first | (go_at_call 75; refine C1.out.mono ?_; rintro e w' ⟨rfl, hb1⟩))
    go_ret
    exact ⟨ret_int (by rw [HF.out.2, HS.out, if_pos HP.out]), below_next HF.out.1 hb1⟩
   ·have hq : (e.1 == p) = false := by simpa using hp
    rw [hq] at c1
    have C1 := Lib.hid c1
    have HP := Lib.hid hp; clear hp c1 hq
    go_wp2_with (first | (go_at_call 75; refine C1.out.mono ?_; rintro e w' ⟨rfl, hb1⟩))
    exact ⟨⟨k + 1, by omega, by go_num, below_next HF.out.1 hb1, by rw [HF.out.2, HS.out, if_neg HP.out]⟩, by simp [intOf]; omega⟩
  ·go_wp2
   go_ret
   have : k = n := by omega
   exact ⟨ret_int (by rw [HF.out.2, List.drop_of_length_le (by rw [HR.out.len]; omega)]; rfl), HF.out.1⟩
set_option maxHeartbeats 400000 in
theorem placeOf_any (A : Option Addr) (n c : Nat) (es : List Ent) (p : Int) (w : World) (hr : RdE w A n es) (hn : n ≤ 1099511627776) :
  Calls Tryz.prog 47 #[.slice A n c, .int .i64 p] w fun e w' => e = .returned (.int .i64 (findE p es 0)) ∧ Below w.heap.size w w' := by
 have c1 := indexFuncE_any A n c es p w.heap.size (w.alloc (.cells #[.int .i64 p] 3)) (hr.below ((Below.refl _ _).alloc (Nat.le_refl _) _)) (by simp [go_sem]) hn
 have C1 := Lib.hid c1; clear c1 hr
 go_enter Tryz.func47, Tryz.ntmps47
 go_wp2_with (first | (go_at_call 72; refine C1.out.mono ?_; rintro e w' ⟨rfl, hb1⟩))
 go_ret
 exact ⟨rfl, below_next ((Below.refl _ _).alloc (Nat.le_refl _) _) hb1⟩
set_option maxHeartbeats 1000000 in
theorem implBoardValid_any (A : Option Addr) (n c : Nat) (es : List Ent) (w : World) (hr : RdE w A n es) (hn : n ≤ 1099511627776) (hc : n ≤ c) :
  Calls Tryz.prog 17 #[.slice A n c] w fun e w' => e = .returned (.bool (decide ((n : Int) ≤ 4) && valliE es)) ∧ Below w.heap.size w w' := by
 have HR := Lib.hid hr; clear hr
 by_cases h4 : n ≤ 4
 ·have h4' : ¬ (4 : Int) < n := by omega
  go_enter Tryz.func17, Tryz.ntmps17
  go_wp2
  go_loopw [10] (fun i wr => ∃ k : Nat, k ≤ n ∧ i = .int .i64 k ∧ Hid (Below w.heap.size w wr ∧ ∀ j, j < k → vriE es j = true)) (fun i _ => n - (intOf i).toNat)
  case atStart => exact ⟨0, Nat.zero_le _, rfl, Below.refl _ _, fun j hj => absurd hj (by omega)⟩
  case round =>
   obtain ⟨k, hk, rfl, HB⟩ := hrel
   by_cases hlt : k < n
   ·obtain ⟨b, off, e, hA, hb, he, h0, h1⟩ := (HR.out.below HB.out.1).at_ hlt
    have hrd := HR.out.below HB.out.1
    have hv : vriE es k = (okE e && !(decide (0 ≤ findE e.1 (es.take k) 0)) && !(decide (0 < k) && decide (e.2 < prevE es k))) := by simp [vriE, he]
    have hlen := HR.out.len
    subst hA
    have HL := Lib.hid hlen
    have HV := Lib.hid hv
    have HRD := Lib.hid hrd
    have hx0 : ∀ d os, (grow (redrawn (wr.alloc (.cells #[.int .i64 e.1, .int .i64 e.2] 68)) d) os).cell? ⟨wr.heap.size, 0, none⟩ = some (.int .i64 e.1) := fun d os => cell_regrown (by simp [go_sem]) d os
    have hx1 : ∀ d os, (grow (redrawn (wr.alloc (.cells #[.int .i64 e.1, .int .i64 e.2] 68)) d) os).cell? ⟨wr.heap.size, 1, none⟩ = some (.int .i64 e.2) := fun d os => cell_regrown (by simp [go_sem]) d os
    have hw1 : Below wr.heap.size wr (wr.alloc (.cells #[.int .i64 e.1, .int .i64 e.2] 68)) := (Below.refl _ _).alloc (Nat.le_refl _) _
    have hrd1 := hrd.below hw1
    have HW1 := Lib.hid hw1
    have HRD := Lib.hid hrd1
    have hkc : (k : Int) ≤ c := by omega
    clear he hv hrd hlen hw1 hrd1
    cases hok : okE e with
    | false =>
     go_wp2
     refine wp_region_qb (by kernel_rfl) (by kernel_rfl) ?_
     repeat (go_big_quiet_step (first | (go_at_call 46; exact Calls.regrown_of (entryOk_any _ _)) | (go_at_call 47; exact Calls.regrown_of (placeOf_any _ _ _ _ _ _ ((HRD.out.take (k := k) (by omega)).below (below_regrown _ _ _)) (by omega)))))
     refine wpQuiet_nil ?_
     intro w1 hb1
     go_wp2
     go_ret
     exact ⟨ret_bool (by rw [valliE_false (k := k) (by rw [HL.out]; exact hlt) (by rw [HV.out, hok]; rfl)]), below_next (below_next HB.out.1 HW1.out) hb1⟩
    | true =>
     by_cases hf : 0 ≤ findE e.1 (es.take k) 0
     ·go_wp2
      refine wp_region_qb (by kernel_rfl) (by kernel_rfl) ?_
      repeat (go_big_quiet_step (first | (go_at_call 46; exact Calls.regrown_of (entryOk_any _ _)) | (go_at_call 47; exact Calls.regrown_of (placeOf_any _ _ _ _ _ _ ((HRD.out.take (k := k) (by omega)).below (below_regrown _ _ _)) (by omega)))))
      refine wpQuiet_nil ?_
      intro w1 hb1
      go_wp2
      go_ret
      exact ⟨ret_bool (by rw [valliE_false (k := k) (by rw [HL.out]; exact hlt) (by rw [HV.out]; simp [hok, hf])]), below_next (below_next HB.out.1 HW1.out) hb1⟩
     ·have hfb : decide (0 ≤ findE e.1 (es.take k) 0) = false := by simpa using hf
      by_cases hk0 : 0 < k
      ·obtain ⟨b', off', e', hA', hb', he', h2, h3⟩ := HRD.out.at_ (k := k - 1) (by omega)
       obtain ⟨rfl, rfl⟩ : b = b' ∧ off = off' := by simpa using hA'
       have hpv : prevE es k = e'.2 := by simp [prevE, he']
       rw [hpv] at HV
       have h3' := fun d os => cell_regrown h3 d os
       clear hA' hb' he' h2 h3 hpv
       by_cases hs : e.2 < e'.2
       ·go_wp2
        refine wp_region_qb (by kernel_rfl) (by kernel_rfl) ?_
        repeat (go_big_quiet_step (first | (go_at_call 46; exact Calls.regrown_of (entryOk_any _ _)) | (go_at_call 47; exact Calls.regrown_of (placeOf_any _ _ _ _ _ _ ((HRD.out.take (k := k) (by omega)).below (below_regrown _ _ _)) (by omega)))))
        refine wpQuiet_nil ?_
        intro w1 hb1
        go_wp2
        go_ret
        exact ⟨ret_bool (by rw [valliE_false (k := k) (by rw [HL.out]; exact hlt) (by rw [HV.out]; simp [hok, hfb, hk0, hs])]), below_next (below_next HB.out.1 HW1.out) hb1⟩
       ·have hsb : decide (e.2 < e'.2) = false := by simpa using hs
        go_wp2
        refine wp_region_qb (by kernel_rfl) (by kernel_rfl) ?_
        repeat (go_big_quiet_step (first | (go_at_call 46; exact Calls.regrown_of (entryOk_any _ _)) | (go_at_call 47; exact Calls.regrown_of (placeOf_any _ _ _ _ _ _ ((HRD.out.take (k := k) (by omega)).below (below_regrown _ _ _)) (by omega)))))
        refine wpQuiet_nil ?_
        intro w1 hb1
        go_wp2
        exact ⟨⟨k + 1, by omega, by go_num, below_next (below_next HB.out.1 HW1.out) hb1, fun j hj => by
         by_cases hjk : j = k
         ·subst hjk; rw [HV.out]; simp [hok, hsb, hfb]
         ·exact HB.out.2 j (by omega)⟩, by simp [intOf]; omega⟩
      ·go_wp2
       refine wp_region_qb (by kernel_rfl) (by kernel_rfl) ?_
       repeat (go_big_quiet_step (first | (go_at_call 46; exact Calls.regrown_of (entryOk_any _ _)) | (go_at_call 47; exact Calls.regrown_of (placeOf_any _ _ _ _ _ _ ((HRD.out.take (k := k) (by omega)).below (below_regrown _ _ _)) (by omega)))))
       refine wpQuiet_nil ?_
       intro w1 hb1
       go_wp2
       exact ⟨⟨k + 1, by omega, by go_num, below_next (below_next HB.out.1 HW1.out) hb1, fun j hj => by
        by_cases hjk : j = k
        ·subst hjk; rw [HV.out]; simp [hok, hk0, hfb]
        ·exact HB.out.2 j (by omega)⟩, by simp [intOf]; omega⟩
   ·go_wp2
    go_ret
    have hkn : k = n := by omega
    exact ⟨ret_bool (by rw [valliE_true (fun j hj => HB.out.2 j (by rw [HR.out.len] at hj; omega))]; simp; omega), HB.out.1⟩
 ·have h4' : (4 : Int) < n := by omega
  go_enter Tryz.func17, Tryz.ntmps17
  go_wp2
  go_ret
  exact ⟨ret_bool (by simp; omega), Below.refl _ _⟩
theorem implBoardValid_v (A : Option Addr) (n c : Nat) (es : List Ent) (w : World) (hr : RdE w A n es) (hn : n ≤ 1099511627776) (hc : n ≤ c) :
  Calls Tryz.prog 17 #[.slice A n c] w fun e w' => e = .returned (.bool (validE es)) ∧ Below w.heap.size w w' := by
 have h := implBoardValid_any A n c es w hr hn hc
 rw [show (decide ((n : Int) ≤ 4) && valliE es) = validE es by rw [← hr.len]; rfl] at h
 exact h
end Go.Proofs.YtemnlheidghbmaaGreat
namespace Go.Proofs.YtemnlheidghbmaaGreat
open Go.RowKit Go.Sort
theorem validE_len {es : List Ent} (h : validE es = true) : es.length ≤ 4 := by
 simp only [validE, Bool.and_eq_true, decide_eq_true_eq] at h
 omega
theorem validE_at {es : List Ent} (h : validE es = true) {k : Nat} (hk : k < es.length) : vriE es k = true := by
 simp only [validE, Bool.and_eq_true, valliE, List.all_eq_true] at h
 exact h.2 k (List.mem_range.2 hk)
theorem validE_ok {es : List Ent} (h : validE es = true) {k : Nat} {e : Ent} (he : es[k]? = some e) : okE e = true := by
 have h1 := validE_at h (List.getElem?_eq_some_iff.1 he).1
 simp only [vriE, he, Bool.and_eq_true] at h1
 exact h1.1.1
theorem okE_bd {e : Ent} (h : okE e = true) : 0 ≤ e.1 ∧ e.1 ≤ 9 ∧ 0 ≤ e.2 ∧ e.2 ≤ 60 := by
 simp only [okE, inR, Bool.and_eq_true, decide_eq_true_eq] at h
 omega
end Go.Proofs.YtemnlheidghbmaaGreat
namespace Go.Proofs.YtemnlheidghbmaaGreat
open Go.RowKit Go.Sort
theorem infoE : (Tryz.prog.info? 68).map (fun i => (i.zero, i.size, i.bytes)) = some (some (.agg #[.int .i64 0, .int .i64 0]), 2, 16) := by kernel_rfl
theorem take_next {α : Type} {a b : List α} {k : Nat} {x : α} (h : a.take k = b.take k) (ha : a[k]? = some x) (hb : b[k]? = some x) : a.take (k + 1) = b.take (k + 1) := by
 rw [List.take_add_one, List.take_add_one, h, ha, hb]
theorem take_all {α : Type} {a b : List α} {k : Nat} (h : a.take k = b.take k) (ha : a.length ≤ k) (hb : b.length ≤ k) : a = b := by
 rwa [List.take_of_length_le ha, List.take_of_length_le hb] at h
end Go.Proofs.YtemnlheidghbmaaGreat
namespace Go.Proofs.YtemnlheidghbmaaGreat
open Go.RowKit Go.Sort
abbrev OwE (B : Nat) (w : World) (A : Option Addr) (n c : Nat) (es : List Ent) : Prop := Ow B w 68 2 A n c (cellsE es)
def withoutE (p : Int) (es : List Ent) : List Ent := es.filter fun e => e.1 != p
theorem withoutE_step (p : Int) (es : List Ent) (k : Nat) (e : Ent) (he : es[k]? = some e) : withoutE p (es.take (k + 1)) = withoutE p (es.take k) ++ (if e.1 != p then [e] else []) := by
 rw [List.take_add_one, he, withoutE, List.filter_append]
 simp [withoutE, List.filter_cons]
theorem withoutE_len (p : Int) (es : List Ent) (k : Nat) : (withoutE p (es.take k)).length ≤ k := by
 unfold withoutE
 exact Nat.le_trans (List.length_filter_le _ _) (List.length_take_le _ _)
set_option maxHeartbeats 1000000 in
theorem l32Without_any (A : Option Addr) (n c : Nat) (es : List Ent) (p : Int) (w : World) (hr : RdE w A n es) (hn : n ≤ 1099511627776) :
  Calls Tryz.prog 129 #[.slice A n c, .int .i64 p] w fun e w' => ∃ A' c', e = .returned (.slice A' (withoutE p es).length c') ∧ OwE w.heap.size w' A' (withoutE p es).length c' (withoutE p es) ∧ Below w.heap.size w w' := by
 have HR := Lib.hid hr; clear hr
 obtain ⟨i0, hi0, hz0, hz1, hz2⟩ := info_parts infoE
 have HI := Lib.hid hi0
 have HZ := Lib.hid hz0
 have HS := Lib.hid hz1
 have HBY := Lib.hid hz2
 clear hi0 hz0 hz1 hz2
 go_enter Tryz.func129, Tryz.ntmps129
 go_wp2
 go_loopw [5, 6] (fun o i wr => ∃ (k : Nat) (A' : Option Addr) (c' : Nat), k ≤ n ∧ i = .int .i64 k ∧ o = .slice A' (withoutE p (es.take k)).length c' ∧ Hid (Below w.heap.size w wr ∧ OwE w.heap.size wr A' (withoutE p (es.take k)).length c' (withoutE p (es.take k)))) (fun _ i _ => n - (intOf i).toNat)
 case atStart => exact ⟨0, _, _, Nat.zero_le _, rfl, rfl, (Below.refl _ _).alloc (Nat.le_refl _) _, Ow.bare _ _ _ _ _⟩
 case round =>
  obtain ⟨k, A', c', hk, rfl, rfl, HB⟩ := hrel
  have hlw := withoutE_len p es k
  by_cases hlt : k < n
  ·obtain ⟨b, off, e, rfl, hb, he, h0, h1⟩ := (HR.out.below HB.out.1).at_ hlt
   have HST := Lib.hid (withoutE_step p es k e he)
   clear he
   by_cases hp : e.1 = p
   ·have hq : (e.1 != p) = false := by simpa using hp
    have HE : Hid (withoutE p (es.take (k + 1)) = withoutE p (es.take k)) := by
     show _ = _
     rw [HST.out, hq]; simp
    have HP := Lib.hid hp; clear hp
    go_wp2
    exact ⟨⟨k + 1, A', c', by omega, by go_num, by rw [HE.out], by rw [HE.out]; exact HB.out⟩, by simp [intOf]; omega⟩
   ·have hq : (e.1 != p) = true := by simpa using hp
    have HE : Hid (withoutE p (es.take (k + 1)) = withoutE p (es.take k) ++ [e]) := by
     show _ = _
     rw [HST.out, hq]; simp
    have HP := Lib.hid hp; clear hp
    have hsz := HB.out.1.size
    go_wp2_with (at_builtin; refine wpList_append_ow _ rfl (.tmp 21) (.tmp 26) _ rfl w.heap.size 68 i0 _ 2 16 Tryz.underlying40 HI.out HZ.out HS.out HBY.out rfl (by omega) _ _ _ _ rfl (Ow.alloc HB.out.2 _) _ 1 1 (cellsE [e]) rfl (Src.blk (Blk.new _ _ _) rfl) (cellsE_one _) (by unfold maxLen; omega) (by omega) (by simp; omega) ?_; intro A2 c2 w2 hown2 hg2 _)
    have HO := Lib.hid hown2
    have HG := Lib.hid hg2
    clear hown2 hg2
    go_wp2
    have hb2 : Below w.heap.size w w2 := (Ow.alloc HB.out.2 _).grown HG.out (HB.out.1.alloc hsz _) (Nat.le_refl _) (by simp; omega)
    refine ⟨⟨k + 1, A2, c2, by omega, by go_num, by rw [HE.out]; simp, hb2, ?_⟩, by simp [intOf]; omega⟩
    rw [HE.out]
    have := HO.out
    rw [← cellsE_append] at this
    simpa [OwE] using this
  ·go_wp2
   go_ret
   have hkn : es.take k = es := List.take_of_length_le (by rw [HR.out.len]; omega)
   rw [hkn] at HB ⊢
   exact ⟨A', c', rfl, HB.out.2, HB.out.1⟩
set_option maxHeartbeats 1000000 in
theorem clone_any (A : Option Addr) (n c : Nat) (es : List Ent) (w : World) (hr : RdE w A n es) (hn : n ≤ 1099511627776) :
  Calls Tryz.prog 34 #[.slice A n c] w fun e w' => ∃ A' c', e = .returned (.slice A' n c') ∧ OwE w.heap.size w' A' n c' es ∧ Below w.heap.size w w' := by
 have HR := Lib.hid hr
 obtain ⟨i0, hi0, hz0, hz1, hz2⟩ := info_parts infoE
 have HI := Lib.hid hi0
 have HZ := Lib.hid hz0
 have HS := Lib.hid hz1
 have HBY := Lib.hid hz2
 clear hi0 hz0 hz1 hz2
 cases A with
 | none =>
  have hn0 : n = 0 := by
   rcases Nat.eq_zero_or_pos n with h | h
   ·exact h
   ·obtain ⟨_, _, h1, _⟩ := hr.2 h; cases h1
  subst hn0
  have hes : es = [] := List.eq_nil_of_length_eq_zero hr.len
  subst hes
  have hq := fun W => Lib.run_eql_slice_nil (P := Tryz.prog) W 40 68 none 0 c 0 0 Tryz.underlying40
  clear hr
  go_enter Tryz.func34, Tryz.ntmps34
  go_wp2
  go_ret
  exact ⟨none, 0, rfl, Ow.bare _ _ _ _ _, Below.refl _ _⟩
 | some ad =>
  have hq := fun W => Lib.run_eql_slice_nil (P := Tryz.prog) W 40 68 (some ad) n c 0 0 Tryz.underlying40
  clear hr
  have hb1 : Below w.heap.size w (w.alloc (.cells #[] 68)) := (Below.refl _ _).alloc (Nat.le_refl _) _
  have HB := Lib.hid hb1; clear hb1
  go_enter Tryz.func34, Tryz.ntmps34
  go_wp2_with (at_builtin; refine wpList_append_ow _ rfl (.tmp 5) (.tmp 6) _ rfl w.heap.size 68 i0 _ 2 16 Tryz.underlying40 HI.out HZ.out HS.out HBY.out rfl (by omega) _ 0 0 [] rfl (Ow.bare _ _ _ _ _) _ n c (cellsE es) rfl (Src.ents (HR.out.below HB.out)) (cellsE_one _) (by unfold maxLen; omega) (by omega) (by simp) ?_; intro A2 c2 w2 hown2 hg2 _)
  have HO := Lib.hid hown2
  have HG := Lib.hid hg2
  clear hown2 hg2
  go_wp2
  go_ret
  refine ⟨A2, c2, rfl, ?_, (Ow.bare w.heap.size _ 68 2 none).grown HG.out HB.out (Nat.le_refl _) (by simp)⟩
  have := HO.out
  rw [Nat.zero_add] at this
  simpa [OwE] using this
end Go.Proofs.YtemnlheidghbmaaGreat

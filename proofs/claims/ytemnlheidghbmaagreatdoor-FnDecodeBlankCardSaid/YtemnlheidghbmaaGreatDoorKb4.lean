/-
  Lemmas and contracts: Rd Bs Bi Br Lk Bm Sv Ls. No condition.
-/
import Derived.Test.YtemnlheidghbmaaGreatDoorKb1
import Derived.Test.YtemnlheidghbmaaGreatDoorKb3
namespace Go.Proofs.YtemnlheidghbmaaGreatDoor
open Go.RowKit Go.Sort
section
variable {α : Type} {enc : α → List Value} {sz : Nat}
def cellsX (enc : α → List Value) (xs : List α) : List Value := xs.flatMap enc
theorem cellsX_cons (x : α) (r : List α) : cellsX enc (x :: r) = enc x ++ cellsX enc r := rfl
theorem cellsX_append (a b : List α) : cellsX enc (a ++ b) = cellsX enc a ++ cellsX enc b := by simp [cellsX]
theorem cellsX_length (he : ∀ x, (enc x).length = sz) (xs : List α) : (cellsX enc xs).length = xs.length * sz := by
 induction xs with
 | nil => simp [cellsX]
 | cons x r ih => rw [cellsX_cons, List.length_append, he, ih, List.length_cons, Nat.add_mul, Nat.one_mul, Nat.add_comm]
theorem cellsX_get (he : ∀ x, (enc x).length = sz) (xs : List α) : ∀ (k : Nat) (x : α), xs[k]? = some x → ∀ j v, (enc x)[j]? = some v → (cellsX enc xs)[k * sz + j]? = some v := by
 induction xs with
 | nil => intro k x h; simp at h
 | cons y r ih =>
  intro k x h j v hv
  have hj : j < sz := by
   have := (List.getElem?_eq_some_iff.1 hv).1
   rw [he] at this
   exact this
  cases k with
  | zero =>
   simp at h
   subst h
   rw [cellsX_cons, Nat.zero_mul, Nat.zero_add, List.getElem?_append_left (by rw [he]; exact hj)]
   exact hv
  | succ k =>
   have h' : r[k]? = some x := by simpa using h
   rw [cellsX_cons, List.getElem?_append_right (by rw [he, Nat.add_mul]; omega), he, show (k + 1) * sz + j - sz = k * sz + j by rw [Nat.add_mul]; omega]
   exact ih k x h' j v hv
theorem cellsX_oneCell (h : ∀ x, ∀ u ∈ enc x, u.oneCell' = true) (xs : List α) : ∀ u ∈ cellsX enc xs, u.oneCell' = true := by
 intro u hu
 simp only [cellsX, List.mem_flatMap] at hu
 obtain ⟨e, _, h'⟩ := hu
 exact h e u h'
def Rd (enc : α → List Value) (sz : Nat) (w : World) (A : Option Addr) (n : Nat) (xs : List α) : Prop :=
 xs.length = n ∧ (0 < n → ∃ b off, A = some ⟨b, off, none⟩ ∧ b < w.heap.size ∧ ∀ k x, xs[k]? = some x → ∀ j v, (enc x)[j]? = some v → w.cell? ⟨b, off + k * sz + j, none⟩ = some v)
variable {w w' : World} {A : Option Addr} {n : Nat} {xs : List α}
theorem Rd.len (h : Rd enc sz w A n xs) : xs.length = n := h.1
theorem Rd.at_ (h : Rd enc sz w A n xs) {k : Nat} (hk : k < n) : ∃ b off x, A = some ⟨b, off, none⟩ ∧ b < w.heap.size ∧ xs[k]? = some x ∧ ∀ j v, (enc x)[j]? = some v → w.cell? ⟨b, off + k * sz + j, none⟩ = some v := by
 obtain ⟨b, off, hA, hb, hc⟩ := h.2 (by omega)
 have hl : k < xs.length := by rw [h.1]; exact hk
 exact ⟨b, off, xs[k], hA, hb, List.getElem?_eq_getElem hl, hc k _ (List.getElem?_eq_getElem hl)⟩
theorem Rd.keep (h : Rd enc sz w A n xs) (hs : w.heap.size ≤ w'.heap.size) (hk : ∀ b o, 0 < n → A.map (·.block) = some b → b < w.heap.size → w'.cell? ⟨b, o, none⟩ = w.cell? ⟨b, o, none⟩) : Rd enc sz w' A n xs := by
 refine ⟨h.1, fun hn => ?_⟩
 obtain ⟨b, off, hA, hlt, hc⟩ := h.2 hn
 exact ⟨b, off, hA, Nat.lt_of_lt_of_le hlt hs, fun k e he j v hv => by rw [hk b _ hn (by rw [hA]; rfl) hlt]; exact hc k e he j v hv⟩
theorem Rd.below (h : Rd enc sz w A n xs) (hb : Below w.heap.size w w') : Rd enc sz w' A n xs := h.keep hb.size fun b o _ _ hlt => (bcell hb).1 b o hlt
theorem Rd.take (h : Rd enc sz w A n xs) {k : Nat} (hk : k ≤ n) : Rd enc sz w A k (xs.take k) := by
 refine ⟨by rw [List.length_take, h.1]; omega, fun hn => ?_⟩
 obtain ⟨b, off, hA, hlt, hc⟩ := h.2 (by omega)
 exact ⟨b, off, hA, hlt, fun j e he => hc j e (by
  rw [List.getElem?_take] at he
  split at he
  ·exact he
  ·cases he)⟩
theorem Rd.blk {g T : Nat} (he : ∀ x, (enc x).length = sz) (h : Blk w g T (cellsX enc xs).toArray) : Rd enc sz w (some ⟨g, 0, none⟩) xs.length xs := by
 refine ⟨rfl, fun _ => ⟨g, 0, rfl, h.lt, fun k e hk j v hv => ?_⟩⟩
 have := cellsX_get he xs k e hk j v hv
 rw [Nat.zero_add, h.cell]
 simpa using this
theorem Src.rd (he : ∀ x, (enc x).length = sz) (h : Rd enc sz w A n xs) : Src w sz A n (cellsX enc xs) := by
 refine ⟨by rw [cellsX_length he, h.1], fun hn => ?_⟩
 obtain ⟨b, off, hA, hb, hc⟩ := h.2 hn
 refine ⟨_, hA, fun j u hu => ?_⟩
 rw [Addr.add_lit]
 have hj : j < (cellsX enc xs).length := (List.getElem?_eq_some_iff.1 hu).1
 rw [cellsX_length he] at hj
 have hsz : 0 < sz := by
  rcases Nat.eq_zero_or_pos sz with h0 | h0
  ·rw [h0] at hj; omega
  ·exact h0
 have hk : j / sz < xs.length := Nat.div_lt_of_lt_mul (by rw [Nat.mul_comm]; exact hj)
 have hm : j % sz < sz := Nat.mod_lt _ hsz
 have hdm : j = j / sz * sz + j % sz := by rw [Nat.mul_comm]; exact (Nat.div_add_mod j sz).symm
 have hv : (enc xs[j / sz])[j % sz]? = some ((enc xs[j / sz])[j % sz]'(by rw [he]; exact hm)) := List.getElem?_eq_getElem _
 have h1 := cellsX_get he xs _ _ (List.getElem?_eq_getElem hk) _ _ hv
 have h2 := hc _ _ (List.getElem?_eq_getElem hk) _ _ hv
 rw [← hdm] at h1
 rw [hu] at h1
 injection h1 with h1
 rw [h1]
 have h3 : off + j = off + j / sz * sz + j % sz := by omega
 rw [h3]
 exact h2
theorem Rd.src (he : ∀ x, (enc x).length = sz) (hl : xs.length = n) (hw : ∀ ad, 0 < n → A = some ad → ad.spot = none) (h : Src w sz A n (cellsX enc xs)) (hsz : 0 < sz) : Rd enc sz w A n xs := by
 refine ⟨hl, fun hn => ?_⟩
 obtain ⟨ad, hA, hc⟩ := h.2 hn
 obtain ⟨b, off, sp⟩ := ad
 obtain rfl : sp = none := hw _ hn hA
 have hx : xs[0]? = some (xs[0]'(by omega)) := List.getElem?_eq_getElem _
 have hx0 : (enc (xs[0]'(by omega)))[0]? = some ((enc (xs[0]'(by omega)))[0]'(by rw [he]; exact hsz)) := List.getElem?_eq_getElem _
 have h0 := hc _ _ (cellsX_get he xs _ _ hx _ _ hx0)
 rw [Addr.add_lit] at h0
 refine ⟨b, off, hA, World.block_lt_of_cell? _ _ h0, fun k x hk j v hv => ?_⟩
 have := hc _ _ (cellsX_get he xs k x hk j v hv)
 rw [Addr.add_lit] at this
 rw [Nat.add_assoc]
 exact this
theorem Ow.rd {B T c : Nat} (he : ∀ x, (enc x).length = sz) (hsz : 0 < sz) (h : Ow B w T sz A n c (cellsX enc xs)) : Rd enc sz w A n xs := by
 have hl := h.len
 rw [cellsX_length he] at hl
 refine Rd.src he (Nat.eq_of_mul_eq_mul_right hsz hl) (fun ad hn hA => ?_) h.src hsz
 obtain ⟨g, cur, hg, _⟩ := h.blk (Nat.lt_of_lt_of_le hn h.le)
 rw [hg] at hA
 injection hA with hA
 rw [← hA]
end
structure Frm (lo hi : Nat) (a b : World) : Prop where
 os : b.os = a.os
 tape : b.tape = a.tape
 output : b.output = a.output
 size : a.heap.size ≤ b.heap.size
 block : ∀ i, i < a.heap.size → (i < lo ∨ hi ≤ i) → b.heap[i]? = a.heap[i]?
section
variable {lo hi : Nat} {a b c w w' : World}
theorem Frm.refl (lo hi : Nat) (w : World) : Frm lo hi w w := ⟨rfl, rfl, rfl, Nat.le_refl _, fun _ _ _ => rfl⟩
theorem Frm.trans (h : Frm lo hi a b) (k : Frm lo hi b c) : Frm lo hi a c :=
 ⟨k.os.trans h.os, k.tape.trans h.tape, k.output.trans h.output, Nat.le_trans h.size k.size, fun i hi ho => (k.block i (Nat.lt_of_lt_of_le hi h.size) ho).trans (h.block i hi ho)⟩
theorem Frm.mono {lo' hi' : Nat} (h : Frm lo hi a b) (h1 : lo' ≤ lo) (h2 : hi ≤ hi') : Frm lo' hi' a b := ⟨h.os, h.tape, h.output, h.size, fun i hi ho => h.block i hi (by omega)⟩
theorem Frm.of_below (h : Below a.heap.size a b) (lo hi : Nat) : Frm lo hi a b := ⟨h.os, h.tape, h.output, h.size, fun i hi _ => h.block i hi⟩
theorem Frm.below {B : Nat} (h : Frm lo hi a b) (hB : B ≤ lo) (hs : B ≤ a.heap.size) : Below B a b := ⟨h.os, h.tape, h.output, h.size, fun k hk => h.block k (by omega) (.inl (by omega))⟩
theorem Frm.cell {x : Nat} (h : Frm lo hi w w') (hx : x < w.heap.size) (hne : x < lo ∨ hi ≤ x) (o : Nat) : w'.cell? ⟨x, o, none⟩ = w.cell? ⟨x, o, none⟩ := World.cell?_of_block (w := w) (h.block x hx hne)
theorem Blk.frm {x T : Nat} {cs : Array Value} (hb : Blk w x T cs) (h : Frm lo hi w w') (hne : x < lo ∨ hi ≤ x) : Blk w' x T cs := (h.block x hb.lt hne).trans hb
end
def OwI (lo hi : Nat) (w : World) (T size : Nat) (A : Option Addr) (n c : Nat) (xs : List Value) : Prop :=
 Ow lo w T size A n c xs ∧ (0 < c → ∀ g, A.map (·.block) = some g → g < hi)
section
variable {lo hi : Nat} {w w' : World} {T size n c : Nat} {A : Option Addr} {xs : List Value}
theorem OwI.of (h : Ow lo w T size A n c xs) : OwI lo w.heap.size w T size A n c xs := ⟨h, fun hc _ hg => (h.lt hg hc).2⟩
theorem OwI.ow (h : OwI lo hi w T size A n c xs) : Ow lo w T size A n c xs := h.1
theorem OwI.bare (lo hi : Nat) (w : World) (T size : Nat) (A : Option Addr) : OwI lo hi w T size A 0 0 [] := ⟨Ow.bare _ _ _ _ _, fun h => absurd h (by omega)⟩
theorem OwI.mono {lo' hi' : Nat} (h : OwI lo hi w T size A n c xs) (h1 : lo' ≤ lo) (h2 : hi ≤ hi') : OwI lo' hi' w T size A n c xs := ⟨h.1.mono h1, fun hc g hg => Nat.lt_of_lt_of_le (h.2 hc g hg) h2⟩
theorem OwI.lt (h : OwI lo hi w T size A n c xs) {g : Nat} (hg : A.map (·.block) = some g) (hc : 0 < c) : lo ≤ g ∧ g < hi ∧ g < w.heap.size := ⟨(h.1.lt hg hc).1, h.2 hc g hg, (h.1.lt hg hc).2⟩
theorem OwI.next (h : OwI lo hi w T size A n c xs) (hb : Below w.heap.size w w') : OwI lo hi w' T size A n c xs := ⟨h.1.next hb, h.2⟩
theorem OwI.keep (h : OwI lo hi w T size A n c xs) (hk : ∀ g, A.map (·.block) = some g → 0 < c → w'.heap[g]? = w.heap[g]?) : OwI lo hi w' T size A n c xs := ⟨h.1.keep hk, h.2⟩
theorem OwI.frm {lo' hi' : Nat} (h : OwI lo hi w T size A n c xs) (hf : Frm lo' hi' w w') (hd : hi ≤ lo' ∨ hi' ≤ lo) : OwI lo hi w' T size A n c xs :=
 h.keep fun g hg hc => hf.block g (h.lt hg hc).2.2 (by have := h.lt hg hc; omega)
end
theorem Frm.set_ {lo hi : Nat} {a b : World} {p : Addr} (h : Frm lo hi a b) (h1 : lo ≤ p.block) (h2 : p.block < hi) (u : Value) : Frm lo hi a (b.setCell p u) :=
 ⟨h.os, h.tape, h.output, by simpa [World.setCell] using h.size, fun i hi' ho => (Below.heap_setCell b p u i (by omega)).trans (h.block i hi' ho)⟩
theorem Frm.next {lo hi : Nat} {a b c : World} (h : Frm lo hi a b) (k : Below b.heap.size b c) : Frm lo hi a c := h.trans (Frm.of_below k lo hi)
theorem into_world {P : Program} {c : Code} {Q : Exit → Act → World → Prop} {a : Act} {w : World} (R : World → Prop) (h : R w) (k : ∀ w', R w' → Code.wp P c Q a w') : Code.wp P c Q a w := k w h
theorem ba {w w' : World} {o : Obj} (h : Below (w.alloc o).heap.size (w.alloc o) w') : Below w.heap.size w w' := ((Below.refl _ _).alloc (Nat.le_refl _) _).trans (h.mono (by simp))
end Go.Proofs.YtemnlheidghbmaaGreatDoor
namespace Go.Proofs.YtemnlheidghbmaaGreatDoor
open Go.RowKit Go.Sort
set_option maxHeartbeats 400000 in
theorem l6In_any (n lo hi : Int) (w : World) :
  Calls Tryz.prog 45 #[.int .i64 n, .int .i64 lo, .int .i64 hi] w fun e w' => e = .returned (.bool (inR n lo hi)) ∧ w = w' := by
 go_enter Tryz.func45, Tryz.ntmps45
 go_wp2
 all_goals go_ret
 all_goals exact ⟨ret_bool (by simp [inR]; omega), rfl⟩
end Go.Proofs.YtemnlheidghbmaaGreatDoor
namespace Go.Proofs.YtemnlheidghbmaaGreatDoor
open Go.RowKit Go.Sort
set_option maxHeartbeats 400000 in
theorem inRange_any (n lo hi : Int) (w : World) :
  Calls Tryz.prog 50 #[.int .i64 n, .int .i64 lo, .int .i64 hi] w fun e w' => e = .returned (.bool (inR n lo hi)) ∧ w = w' := by
 go_enter Tryz.func50, Tryz.ntmps50
 go_wp2
 all_goals go_ret
 all_goals exact ⟨ret_bool (by simp [inR]; omega), rfl⟩
end Go.Proofs.YtemnlheidghbmaaGreatDoor
namespace Go.Proofs.YtemnlheidghbmaaGreatDoor
open Go.RowKit Go.Sort
end Go.Proofs.YtemnlheidghbmaaGreatDoor
namespace Go.Proofs.YtemnlheidghbmaaGreatDoor
open Go.RowKit Go.Sort
end Go.Proofs.YtemnlheidghbmaaGreatDoor
namespace Go.Proofs.YtemnlheidghbmaaGreatDoor
open Go.RowKit Go.Sort
end Go.Proofs.YtemnlheidghbmaaGreatDoor
namespace Go.Proofs.YtemnlheidghbmaaGreatDoor
open Go.RowKit Go.Sort
abbrev Bx := Int × Int × Int × Int
def encB (b : Bx) : List Value := [.int .i64 b.1, .int .i64 b.2.1, .int .i64 b.2.2.1, .int .i64 b.2.2.2]
theorem encB_len (b : Bx) : (encB b).length = 4 := rfl
theorem encB_one : ∀ b, ∀ u ∈ encB b, u.oneCell' = true := by
 intro b u hu
 simp [encB] at hu
 rcases hu with rfl | rfl | rfl | rfl <;> rfl
abbrev cellsB : List Bx → List Value := cellsX encB
abbrev RdB (w : World) (A : Option Addr) (n : Nat) (bs : List Bx) : Prop := Rd encB 4 w A n bs
theorem RdB.cells {w : World} {A : Option Addr} {n : Nat} {bs : List Bx} (h : RdB w A n bs) {k : Nat} (hk : k < n) : ∃ b off x, A = some ⟨b, off, none⟩ ∧ b < w.heap.size ∧ bs[k]? = some x ∧ w.cell? ⟨b, off + k * 4, none⟩ = some (.int .i64 x.1) ∧ w.cell? ⟨b, off + k * 4 + 1, none⟩ = some (.int .i64 x.2.1) ∧ w.cell? ⟨b, off + k * 4 + 2, none⟩ = some (.int .i64 x.2.2.1) ∧ w.cell? ⟨b, off + k * 4 + 3, none⟩ = some (.int .i64 x.2.2.2) := by
 obtain ⟨b, off, x, hA, hb, hx, hc⟩ := h.at_ hk
 exact ⟨b, off, x, hA, hb, hx, hc 0 _ rfl, hc 1 _ rfl, hc 2 _ rfl, hc 3 _ rfl⟩
structure Lvl where
 id : Int
 ticks : Int
 sx : Int
 sy : Int
 walls : List Bx
 gates : List Bx
 f : Bx
 bans : Int
structure Trk where
 l : Lvl
 b : List Ent
structure Svc where
 ts : List Trk
 keys : List Int
 tags : List Int
structure Sl where
 a : Option Addr
 n : Nat
 c : Nat
structure TP where
 w : Sl
 g : Sl
 b : Sl
abbrev Row := TP × Trk
abbrev Sl.v (s : Sl) : Value := .slice s.a s.n s.c
abbrev lvlV (l : Lvl) (ws gs : Sl) : Value := .agg #[.int .i64 l.id, .int .i64 l.ticks, .int .i64 l.sx, .int .i64 l.sy, .slice ws.a ws.n ws.c, .slice gs.a gs.n gs.c, .int .i64 l.f.1, .int .i64 l.f.2.1, .int .i64 l.f.2.2.1, .int .i64 l.f.2.2.2, .int .i64 l.bans]
def encT (x : Row) : List Value := [.int .i64 x.2.l.id, .int .i64 x.2.l.ticks, .int .i64 x.2.l.sx, .int .i64 x.2.l.sy, .slice x.1.w.a x.1.w.n x.1.w.c, .slice x.1.g.a x.1.g.n x.1.g.c, .int .i64 x.2.l.f.1, .int .i64 x.2.l.f.2.1, .int .i64 x.2.l.f.2.2.1, .int .i64 x.2.l.f.2.2.2, .int .i64 x.2.l.bans, .slice x.1.b.a x.1.b.n x.1.b.c]
abbrev cellsI (zs : List Int) : List Value := zs.map (Value.int .i64)
theorem cellsI_one (zs : List Int) : ∀ u ∈ cellsI zs, u.oneCell' = true := by
 intro u hu
 obtain ⟨z, _, rfl⟩ := List.mem_map.1 hu
 rfl
theorem Src.ints {w : World} {A : Option Addr} {n : Nat} {zs : List Int} (h : RdI .i64 w A n zs) : Src w 1 A n (cellsI zs) := by
 refine ⟨by simp [h.1], fun hn => ?_⟩
 obtain ⟨b, off, hA, hb, hc⟩ := h.2 hn
 refine ⟨_, hA, fun j u hu => ?_⟩
 rw [Addr.add_lit]
 simp only [cellsI, List.getElem?_map, Option.map_eq_some_iff] at hu
 obtain ⟨z, hz, rfl⟩ := hu
 exact hc j z hz
theorem Ow.rdI {B T c : Nat} {w : World} {A : Option Addr} {n : Nat} {zs : List Int} (h : Ow B w T 1 A n c (cellsI zs)) : RdI .i64 w A n zs := by
 have hl := h.len
 refine ⟨by simpa using hl, fun hn => ?_⟩
 obtain ⟨g, cur, hg, _, hb, _⟩ := h.blk (Nat.lt_of_lt_of_le hn h.le)
 obtain ⟨ad, hA, hc⟩ := h.src.2 hn
 rw [hg] at hA
 injection hA with hA
 subst hA
 refine ⟨g, 0, hg, hb.lt, fun j z hz => ?_⟩
 have := hc j (.int .i64 z) (by simp [cellsI, hz])
 rw [Addr.add_lit] at this
 exact this
theorem RdI.blk {w : World} {g T : Nat} {zs : List Int} (h : Blk w g T (cellsI zs).toArray) : RdI .i64 w (some ⟨g, 0, none⟩) zs.length zs := by
 refine ⟨rfl, fun _ => ⟨g, 0, rfl, h.lt, fun k e hk => ?_⟩⟩
 rw [Nat.zero_add, h.cell]
 simp [cellsI, hk]
def SlOk (n c : Nat) : Prop := n ≤ c ∧ n ≤ 1048576
def RdL (w : World) (l : Lvl) (ws gs : Sl) : Prop := RdB w ws.a ws.n l.walls ∧ RdB w gs.a gs.n l.gates ∧ SlOk ws.n ws.c ∧ SlOk gs.n gs.c
def RdT (w : World) (x : Row) : Prop := RdL w x.2.l x.1.w x.1.g ∧ RdE w x.1.b.a x.1.b.n x.2.b ∧ SlOk x.1.b.n x.1.b.c
def RdTs (w : World) (A : Option Addr) (n : Nat) (xs : List Row) : Prop := Rd encT 12 w A n xs ∧ ∀ x ∈ xs, RdT w x
def RdS (w : World) (t k g : Sl) (S : Svc) : Prop :=
 (∃ xs, xs.map (·.2) = S.ts ∧ RdTs w t.a t.n xs) ∧ RdI .i64 w k.a k.n S.keys ∧ RdI .i64 w g.a g.n S.tags ∧ SlOk t.n t.c ∧ SlOk k.n k.c ∧ SlOk g.n g.c
section
variable {w w' : World} {l : Lvl} {ws gs : Sl} {x : Row} {A : Option Addr} {n : Nat} {xs : List Row} {S : Svc} {t k g : Sl}
theorem RdL.below (h : RdL w l ws gs) (hb : Below w.heap.size w w') : RdL w' l ws gs := ⟨h.1.below hb, h.2.1.below hb, h.2.2⟩
theorem RdT.below (h : RdT w x) (hb : Below w.heap.size w w') : RdT w' x := ⟨h.1.below hb, h.2.1.below hb, h.2.2⟩
theorem RdTs.below (h : RdTs w A n xs) (hb : Below w.heap.size w w') : RdTs w' A n xs := ⟨h.1.below hb, fun x hx => (h.2 x hx).below hb⟩
theorem RdS.below (h : RdS w t k g S) (hb : Below w.heap.size w w') : RdS w' t k g S := by
 obtain ⟨⟨xs, h1, h2⟩, h3, h4, h5⟩ := h
 exact ⟨⟨xs, h1, h2.below hb⟩, h3.below hb, h4.below hb, h5⟩
theorem RdTs.cells (h : RdTs w A n xs) {k : Nat} (hk : k < n) : ∃ b off x, A = some ⟨b, off, none⟩ ∧ b < w.heap.size ∧ xs[k]? = some x ∧ RdT w x ∧
  w.cell? ⟨b, off + k * 12, none⟩ = some (.int .i64 x.2.l.id) ∧ w.cell? ⟨b, off + k * 12 + 1, none⟩ = some (.int .i64 x.2.l.ticks) ∧ w.cell? ⟨b, off + k * 12 + 2, none⟩ = some (.int .i64 x.2.l.sx) ∧ w.cell? ⟨b, off + k * 12 + 3, none⟩ = some (.int .i64 x.2.l.sy) ∧
  w.cell? ⟨b, off + k * 12 + 4, none⟩ = some (.slice x.1.w.a x.1.w.n x.1.w.c) ∧ w.cell? ⟨b, off + k * 12 + 5, none⟩ = some (.slice x.1.g.a x.1.g.n x.1.g.c) ∧
  w.cell? ⟨b, off + k * 12 + 6, none⟩ = some (.int .i64 x.2.l.f.1) ∧ w.cell? ⟨b, off + k * 12 + 7, none⟩ = some (.int .i64 x.2.l.f.2.1) ∧ w.cell? ⟨b, off + k * 12 + 8, none⟩ = some (.int .i64 x.2.l.f.2.2.1) ∧ w.cell? ⟨b, off + k * 12 + 9, none⟩ = some (.int .i64 x.2.l.f.2.2.2) ∧
  w.cell? ⟨b, off + k * 12 + 10, none⟩ = some (.int .i64 x.2.l.bans) ∧ w.cell? ⟨b, off + k * 12 + 11, none⟩ = some (.slice x.1.b.a x.1.b.n x.1.b.c) := by
 obtain ⟨b, off, x, hA, hb, hx, hc⟩ := h.1.at_ hk
 exact ⟨b, off, x, hA, hb, hx, h.2 x (List.mem_of_getElem? hx), hc 0 _ rfl, hc 1 _ rfl, hc 2 _ rfl, hc 3 _ rfl, hc 4 _ rfl, hc 5 _ rfl, hc 6 _ rfl, hc 7 _ rfl, hc 8 _ rfl, hc 9 _ rfl, hc 10 _ rfl, hc 11 _ rfl⟩
end
abbrev OwB (lo hi : Nat) (w : World) (s : Sl) (bs : List Bx) : Prop := OwI lo hi w 27 4 s.a s.n s.c (cellsB bs)
def OwL (lo hi : Nat) (w : World) (l : Lvl) (ws gs : Sl) : Prop := OwB lo hi w ws l.walls ∧ OwB lo hi w gs l.gates ∧ ws.n ≤ 1048576 ∧ gs.n ≤ 1048576
section
variable {lo hi lo' hi' : Nat} {w w' : World} {l : Lvl} {ws gs : Sl} {x : Row} {xs : List Row} {S : Svc} {t k g : Sl}
theorem OwI.rdB {T : Nat} {s : Sl} {bs : List Bx} (h : OwI lo hi w T 4 s.a s.n s.c (cellsB bs)) : RdB w s.a s.n bs := h.ow.rd encB_len (by omega)
theorem OwL.rd (h : OwL lo hi w l ws gs) : RdL w l ws gs := ⟨h.1.rdB, h.2.1.rdB, ⟨h.1.ow.le, h.2.2.1⟩, ⟨h.2.1.ow.le, h.2.2.2⟩⟩
theorem OwL.next (h : OwL lo hi w l ws gs) (hb : Below w.heap.size w w') : OwL lo hi w' l ws gs := ⟨h.1.next hb, h.2.1.next hb, h.2.2⟩
theorem OwL.mono (h : OwL lo hi w l ws gs) (h1 : lo' ≤ lo) (h2 : hi ≤ hi') : OwL lo' hi' w l ws gs := ⟨h.1.mono h1 h2, h.2.1.mono h1 h2, h.2.2⟩
theorem OwL.frm (h : OwL lo hi w l ws gs) (hf : Frm lo' hi' w w') (hd : hi ≤ lo' ∨ hi' ≤ lo) : OwL lo hi w' l ws gs := ⟨h.1.frm hf hd, h.2.1.frm hf hd, h.2.2⟩
end
theorem infoB : (Tryz.prog.info? 27).map (fun i => (i.zero, i.size, i.bytes)) = some (some (.agg #[.int .i64 0, .int .i64 0, .int .i64 0, .int .i64 0]), 4, 32) := by kernel_rfl
theorem infoZ : (Tryz.prog.info? 3).map (fun i => (i.zero, i.size, i.bytes)) = some (some (.int .i64 0), 1, 8) := by kernel_rfl
end Go.Proofs.YtemnlheidghbmaaGreatDoor
namespace Go.Proofs.YtemnlheidghbmaaGreatDoor
open Go.RowKit Go.Sort
def inC (n : Int) : Bool := inR n (-1000000) 1000000
def vecOk (x y : Int) : Bool := inC x && inC y
def boxOk (b : Bx) : Bool := vecOk b.1 b.2.1 && vecOk b.2.2.1 b.2.2.2 && decide (b.1 ≤ b.2.2.1) && decide (b.2.1 ≤ b.2.2.2)
def nearW (p q x y r : Int) : Bool :=
 decide (wrap64 (wrap64 (wrap64 (x - p) * wrap64 (x - p)) + wrap64 (wrap64 (y - q) * wrap64 (y - q))) ≤ wrap64 (r * r))
def touchW (b : Bx) (x y r : Int) : Bool := nearW (max b.1 (min x b.2.2.1)) (max b.2.1 (min y b.2.2.2)) x y r
def freeW (bs : List Bx) (x y : Int) : Bool := bs.all fun b => !touchW b x y 500
def levelOk (l : Lvl) : Bool :=
 inR l.id 0 99 && inR l.ticks 1 60 && vecOk l.sx l.sy && decide ((l.walls.length : Int) ≤ 4) && l.walls.all boxOk && decide ((l.gates.length : Int) ≤ 3) && l.gates.all boxOk && boxOk l.f && inR l.bans 0 3 && freeW l.walls l.sx l.sy
set_option maxHeartbeats 400000 in
theorem specVecOk_any (x y : Int) (w : World) :
  Calls Tryz.prog 92 #[.agg #[.int .i64 x, .int .i64 y]] w fun e w' => e = .returned (.bool (vecOk x y)) ∧ Below w.heap.size w w' := by
 go_enter Tryz.func92, Tryz.ntmps92
 go_wp2_with (first | (go_at_call 45; refine (l6In_any _ _ _ _).mono ?_; rintro e w' ⟨rfl, rfl⟩))
 all_goals go_ret
 all_goals exact ⟨ret_bool (by simp [vecOk, inC, *]), (Below.refl _ _).alloc (Nat.le_refl _) _⟩
set_option maxHeartbeats 1000000 in
theorem specBoxValid_any (b : Bx) (w : World) :
  Calls Tryz.prog 94 #[.agg #[.int .i64 b.1, .int .i64 b.2.1, .int .i64 b.2.2.1, .int .i64 b.2.2.2]] w fun e w' => e = .returned (.bool (boxOk b)) ∧ Below w.heap.size w w' := by
 obtain ⟨b1, b2, b3, b4⟩ := b
 go_enter Tryz.func94, Tryz.ntmps94
 go_wp2_with fail
 refine (specVecOk_any _ _ _).mono ?_
 rintro e w1 ⟨rfl, hb1⟩
 have k1 := (Blk.new _ _ _).next hb1
 have c2 : w1.cell? ⟨w.heap.size, 2, none⟩ = some (.int .i64 b3) := k1.cell 2
 have c3 : w1.cell? ⟨w.heap.size, 3, none⟩ = some (.int .i64 b4) := k1.cell 3
 have HB1 := Lib.hid (ba hb1)
 clear hb1
 cases h1 : vecOk b1 b2
 ·go_wp2_with fail
  go_ret
  exact ⟨ret_bool (by simp [boxOk, h1]), HB1.out⟩
 ·go_wp2_with fail
  refine (specVecOk_any _ _ _).mono ?_
  rintro e w2 ⟨rfl, hb2⟩
  have k2 := k1.next hb2
  have d0 : w2.cell? ⟨w.heap.size, 0, none⟩ = some (.int .i64 b1) := k2.cell 0
  have d1 : w2.cell? ⟨w.heap.size, 1, none⟩ = some (.int .i64 b2) := k2.cell 1
  have d2 : w2.cell? ⟨w.heap.size, 2, none⟩ = some (.int .i64 b3) := k2.cell 2
  have d3 : w2.cell? ⟨w.heap.size, 3, none⟩ = some (.int .i64 b4) := k2.cell 3
  have HB2 := Lib.hid (below_next HB1.out hb2)
  clear c2 c3 hb2 k1 k2
  cases h2 : vecOk b3 b4
  ·go_wp2_with fail
   go_ret
   exact ⟨ret_bool (by simp [boxOk, h1, h2]), HB2.out⟩
  ·go_wp2_with fail
   all_goals go_ret
   all_goals exact ⟨ret_bool (by simp only [boxOk, h1, h2]; simp; omega), HB2.out⟩
set_option maxHeartbeats 1000000 in
theorem l3Nearest_any (b : Bx) (x y : Int) (w : World) :
  Calls Tryz.prog 183 #[.agg #[.int .i64 b.1, .int .i64 b.2.1, .int .i64 b.2.2.1, .int .i64 b.2.2.2], .agg #[.int .i64 x, .int .i64 y]] w fun e w' => e = .returned (.agg #[.int .i64 (max b.1 (min x b.2.2.1)), .int .i64 (max b.2.1 (min y b.2.2.2))]) ∧ Below w.heap.size w w' := by
 obtain ⟨b1, b2, b3, b4⟩ := b
 go_enter Tryz.func183, Tryz.ntmps183
 go_wp2
 all_goals
  refine bodyPost_ret (v := .agg #[.int .i64 (max b1 (min x b3)), .int .i64 (max b2 (min y b4))]) (by simp [results, Tryz.results183, go_sem]; omega) rfl ⟨rfl, by go_grown⟩
set_option maxHeartbeats 1000000 in
theorem l3Touches_any (b : Bx) (x y r : Int) (w : World) :
  Calls Tryz.prog 140 #[.agg #[.int .i64 b.1, .int .i64 b.2.1, .int .i64 b.2.2.1, .int .i64 b.2.2.2], .agg #[.int .i64 x, .int .i64 y], .int .i64 r] w fun e w' => e = .returned (.bool (touchW b x y r)) ∧ Below w.heap.size w w' := by
 have N := fun W => l3Nearest_any b x y W
 unfold touchW
 generalize max b.1 (min x b.2.2.1) = p at N ⊢
 generalize max b.2.1 (min y b.2.2.2) = q at N ⊢
 have HN := Lib.hid N
 clear N
 go_enter Tryz.func140, Tryz.ntmps140
 go_wp2_with fail
 refine (HN.out _).mono ?_
 rintro e w1 ⟨rfl, hb1⟩
 have k1 := (Blk.newAt _ _ _ (w.heap.size + 1) (by simp)).next hb1
 have c0 : w1.cell? ⟨w.heap.size + 1, 0, none⟩ = some (.int .i64 x) := k1.cell 0
 have c1 : w1.cell? ⟨w.heap.size + 1, 1, none⟩ = some (.int .i64 y) := k1.cell 1
 have HB1 := Lib.hid (ba (ba hb1))
 have hz1 := hb1.size
 simp at hz1
 have hz : w.heap.size + 1 < w1.heap.size := by omega
 clear hb1 k1 hz1
 go_wp2_with fail
 go_ret
 exact ⟨ret_bool rfl, HB1.out.alloc HB1.out.size _⟩
set_option maxHeartbeats 1000000 in
theorem l11Boxes_any (A : Option Addr) (n c : Nat) (bs : List Bx) (w : World) (hr : RdB w A n bs) (hn : n ≤ 1099511627776) :
  Calls Tryz.prog 93 #[.slice A n c] w fun e w' => e = .returned (.bool (bs.all boxOk)) ∧ Below w.heap.size w w' := by
 have HR := Lib.hid hr; clear hr
 go_enter Tryz.func93, Tryz.ntmps93
 go_wp2
 go_loopw [3] (fun i wr => ∃ k : Nat, k ≤ n ∧ i = .int .i64 k ∧ Hid (Below w.heap.size w wr ∧ bs.all boxOk = (bs.drop k).all boxOk)) (fun i _ => n - (intOf i).toNat)
 case atStart => exact ⟨0, Nat.zero_le _, rfl, Below.refl _ _, rfl⟩
 case round =>
  obtain ⟨k, hk, rfl, HB⟩ := hrel
  by_cases hlt : k < n
  ·obtain ⟨b, off, x, hA, hb, hx, h0, h1, h2, h3⟩ := RdB.cells (HR.out.below HB.out.1) hlt
   subst hA
   have hd : (bs.drop k).all boxOk = (boxOk x && (bs.drop (k + 1)).all boxOk) := by
    obtain ⟨hk', he⟩ := List.getElem?_eq_some_iff.1 hx
    rw [List.drop_eq_getElem_cons hk', he]; rfl
   have HD := Lib.hid hd
   clear hd hx
   go_wp2_with fail
   refine (specBoxValid_any _ _).mono ?_
   rintro e w1 ⟨rfl, hb1⟩
   cases ho : boxOk x
   ·have HO := Lib.hid ho
    clear ho
    go_wp2_with fail
    go_ret
    exact ⟨ret_bool (by rw [HB.out.2, HD.out, HO.out]; rfl), below_next HB.out.1 hb1⟩
   ·have HO := Lib.hid ho
    clear ho
    go_wp2_with fail
    exact ⟨⟨k + 1, by omega, by go_num, below_next HB.out.1 hb1, by rw [HB.out.2, HD.out, HO.out]; rfl⟩, by simp [intOf]; omega⟩
  ·go_wp2
   go_ret
   exact ⟨ret_bool (by rw [HB.out.2, List.drop_of_length_le (by rw [HR.out.len]; omega)]; rfl), HB.out.1⟩
theorem freeW_step {bs : List Bx} {k : Nat} {x : Bx} {px py : Int} (h : bs[k]? = some x) : freeW (bs.drop k) px py = (!touchW x px py 500 && freeW (bs.drop (k + 1)) px py) := by
 obtain ⟨hk', he⟩ := List.getElem?_eq_some_iff.1 h
 rw [List.drop_eq_getElem_cons hk', he]; rfl
set_option maxHeartbeats 2000000 in
theorem l11Free_any (l : Lvl) (ws gs : Sl) (x y : Int) (w : World) (hr : RdB w ws.a ws.n l.walls) (hn : ws.n ≤ 1099511627776) :
  Calls Tryz.prog 95 #[lvlV l ws gs, .agg #[.int .i64 x, .int .i64 y]] w fun e w' => e = .returned (.bool (freeW l.walls x y)) ∧ Below w.heap.size w w' := by
 have HR := Lib.hid hr; clear hr
 go_enter Tryz.func95, Tryz.ntmps95
 go_wp2
 go_loopw [5] (fun i wr => ∃ k : Nat, k ≤ ws.n ∧ i = .int .i64 k ∧ Hid (Below w.heap.size w wr ∧ Blk wr w.heap.size 29 (match lvlV l ws gs with | .agg cs => cs | _ => #[]) ∧ Blk wr (w.heap.size + 1) 24 #[.int .i64 x, .int .i64 y] ∧ freeW l.walls x y = freeW (l.walls.drop k) x y)) (fun i _ => ws.n - (intOf i).toNat)
 case atStart => exact ⟨0, Nat.zero_le _, rfl, by go_grown, (Blk.new _ _ _).alloc _, Blk.newAt _ _ _ _ (by simp), rfl⟩
 case round =>
  obtain ⟨k, hk, rfl, HB⟩ := hrel
  have c4 : wr.cell? ⟨w.heap.size, 4, none⟩ = some (.slice ws.a ws.n ws.c) := HB.out.2.1.cell 4
  by_cases hlt : k < ws.n
  ·obtain ⟨b, off, z, hA, hb, hx, h0, h1, h2, h3⟩ := RdB.cells (HR.out.below HB.out.1) hlt
   have HA := Lib.hid hA
   rw [hA] at c4
   have HST := Lib.hid (freeW_step (px := x) (py := y) hx)
   have d0 : wr.cell? ⟨w.heap.size + 1, 0, none⟩ = some (.int .i64 x) := HB.out.2.2.1.cell 0
   have d1 : wr.cell? ⟨w.heap.size + 1, 1, none⟩ = some (.int .i64 y) := HB.out.2.2.1.cell 1
   have c4' := fun d os => cell_regrown c4 d os
   have h0' := fun d os => cell_regrown h0 d os
   have h1' := fun d os => cell_regrown h1 d os
   have h2' := fun d os => cell_regrown h2 d os
   have h3' := fun d os => cell_regrown h3 d os
   have d0' := fun d os => cell_regrown d0 d os
   have d1' := fun d os => cell_regrown d1 d os
   clear hA hx h0 h1 h2 h3 d0 d1
   go_wp2_with fail
   refine wp_region_qb (by kernel_rfl) (by kernel_rfl) ?_
   repeat (go_big_quiet_step ((go_at_call 140; exact Calls.regrown_of (l3Touches_any _ _ _ _ _))))
   refine wpQuiet_nil ?_
   intro w1 hb1
   have HB1 := Lib.hid hb1
   clear hb1
   cases ht : touchW z x y 500
   ·have HT := Lib.hid ht
    clear ht
    go_wp2_with fail
    exact ⟨⟨k + 1, by omega, by go_num, below_next HB.out.1 HB1.out, HB.out.2.1.next HB1.out, HB.out.2.2.1.next HB1.out, by rw [HB.out.2.2.2, HST.out, HT.out]; rfl⟩, by simp [intOf]; omega⟩
   ·have HT := Lib.hid ht
    clear ht
    go_wp2_with fail
    go_ret
    exact ⟨ret_bool (by rw [HB.out.2.2.2, HST.out, HT.out]; rfl), below_next HB.out.1 HB1.out⟩
  ·go_wp2
   go_ret
   exact ⟨ret_bool (by rw [HB.out.2.2.2, List.drop_of_length_le (by rw [HR.out.len]; omega)]; rfl), HB.out.1⟩
set_option maxHeartbeats 4000000 in
theorem specLevelValid_any (l : Lvl) (ws gs : Sl) (w : World) (hr : RdL w l ws gs) :
  Calls Tryz.prog 44 #[lvlV l ws gs] w fun e w' => e = .returned (.bool (levelOk l)) ∧ Below w.heap.size w w' := by
 obtain ⟨hr1, hr2, ⟨_, hn1⟩, _, hn2⟩ := hr
 have HR1 := Lib.hid hr1
 have HR2 := Lib.hid hr2
 have hl1 := hr1.len
 have hl2 := hr2.len
 have HL1 := Lib.hid hl1
 have HL2 := Lib.hid hl2
 clear hr1 hr2 hl1 hl2
 go_enter Tryz.func44, Tryz.ntmps44
 go_wp2_with fail
 refine (l6In_any _ _ _ _).mono ?_
 rintro e w' ⟨rfl, rfl⟩
 cases h1 : inR l.id 0 99
 ·go_wp2_with fail
  go_ret
  exact ⟨ret_bool (by simp [levelOk, h1]), by go_grown⟩
 ·skip
  go_wp2_with fail
  refine (l6In_any _ _ _ _).mono ?_
  rintro e w' ⟨rfl, rfl⟩
  cases h2 : inR l.ticks 1 60
  ·go_wp2_with fail
   go_ret
   exact ⟨ret_bool (by simp [levelOk, h1, h2]), by go_grown⟩
  ·skip
   go_wp2_with fail
   refine (specVecOk_any _ _ _).mono ?_
   rintro e w1 ⟨rfl, hb1⟩
   have k1 := (Blk.new _ _ _).next hb1
   have HB1 := Lib.hid (ba hb1)
   have c1 := fun o => k1.cell o
   clear hb1
   cases h3 : vecOk l.sx l.sy
   ·go_wp2_with fail
    go_ret
    exact ⟨ret_bool (by simp [levelOk, h1, h2, h3]), HB1.out⟩
   ·skip
    by_cases h4 : (ws.n : Int) ≤ 4
    rotate_left
    ·go_wp2_with fail
     go_ret
     exact ⟨ret_bool (by simp [levelOk, show ¬ (l.walls.length : Int) ≤ 4 from by rw [HL1.out]; omega]), HB1.out⟩
    ·skip
     go_wp2_with fail
     refine (l11Boxes_any _ _ _ _ _ (HR1.out.below HB1.out) (by omega)).mono ?_
     rintro e w2 ⟨rfl, hb2⟩
     have k2 := k1.next hb2
     have HB2 := Lib.hid (below_next HB1.out hb2)
     clear c1
     have c2 := fun o => k2.cell o
     clear hb2
     cases h5 : l.walls.all boxOk
     ·go_wp2_with fail
      go_ret
      exact ⟨ret_bool (by simp [levelOk, h1, h2, h3, h5]), HB2.out⟩
     ·skip
      by_cases h6 : (gs.n : Int) ≤ 3
      rotate_left
      ·go_wp2_with fail
       go_ret
       exact ⟨ret_bool (by simp [levelOk, show ¬ (l.gates.length : Int) ≤ 3 from by rw [HL2.out]; omega]), HB2.out⟩
      ·skip
       go_wp2_with fail
       refine (l11Boxes_any _ _ _ _ _ (HR2.out.below HB2.out) (by omega)).mono ?_
       rintro e w3 ⟨rfl, hb3⟩
       have k3 := k2.next hb3
       have HB3 := Lib.hid (below_next HB2.out hb3)
       clear c2
       have c3 := fun o => k3.cell o
       clear hb3
       cases h7 : l.gates.all boxOk
       ·go_wp2_with fail
        go_ret
        exact ⟨ret_bool (by simp [levelOk, h1, h2, h3, h5, h7]), HB3.out⟩
       ·skip
        go_wp2_with fail
        refine (specBoxValid_any _ _).mono ?_
        rintro e w4 ⟨rfl, hb4⟩
        have k4 := k3.next hb4
        have HB4 := Lib.hid (below_next HB3.out hb4)
        clear c3
        have c4 := fun o => k4.cell o
        clear hb4
        cases h8 : boxOk l.f
        ·go_wp2_with fail
         go_ret
         exact ⟨ret_bool (by simp [levelOk, h1, h2, h3, h5, h7, h8]), HB4.out⟩
        ·skip
         go_wp2_with fail
         refine (l6In_any _ _ _ _).mono ?_
         rintro e w' ⟨rfl, rfl⟩
         cases h9 : inR l.bans 0 3
         ·go_wp2_with fail
          go_ret
          exact ⟨ret_bool (by simp [levelOk, h1, h2, h3, h5, h7, h8, h9]), HB4.out⟩
         ·skip
          go_wp2_with fail
          refine (l11Free_any l ws gs _ _ _ (HR1.out.below HB4.out) (by omega)).mono ?_
          rintro e w5 ⟨rfl, hb5⟩
          go_wp2_with fail
          go_ret
          have h4' : (l.walls.length : Int) ≤ 4 := by rw [HL1.out]; exact h4
          have h6' : (l.gates.length : Int) ≤ 3 := by rw [HL2.out]; exact h6
          exact ⟨ret_bool (by simp [levelOk, h1, h2, h3, h4', h5, h6', h7, h8, h9]), below_next HB4.out hb5⟩
end Go.Proofs.YtemnlheidghbmaaGreatDoor

/-
  Lemmas and contracts: Base. No condition.
-/
import Derived.Test.YtemnlheidghbmaaGreatDoorChecked
import Derived.WalkKit
import Derived.WalkSpells
import Derived.WalkLawsBesides
import Derived.Lib.Hide
import Derived.Lib.QuietBelow
import Derived.BigQuiet
import Derived.Handy
namespace Go.Proofs.YtemnlheidghbmaaGreatDoor
open Go.RowKit Go.Sort
abbrev Ent := Int × Int
def inR (n lo hi : Int) : Bool := decide (lo ≤ n) && decide (n ≤ hi)
theorem ret_bool {a b : Bool} (h : a = b) : Ending.returned (.bool a) = .returned (.bool b) := by rw [h]
theorem ret_int {k : IntKind} {a b : Int} (h : a = b) : Ending.returned (.int k a) = .returned (.int k b) := by rw [h]
theorem bcell {W w1 : World} (hb : Below W.heap.size W w1) : (∀ b o, b < W.heap.size → w1.cell? ⟨b, o, none⟩ = W.cell? ⟨b, o, none⟩) ∧ (∀ b o, b < W.heap.size → w1.frozen? ⟨b, o, none⟩ = W.frozen? ⟨b, o, none⟩) :=
 ⟨fun b o h => hb.cell (p := ⟨b, o, none⟩) h, fun b o h => hb.frozen (p := ⟨b, o, none⟩) h⟩
theorem below_next {a b c : World} (h : Below a.heap.size a b) (k : Below b.heap.size b c) : Below a.heap.size a c := h.trans (k.mono h.size)
theorem below_at {B : Nat} {a b c : World} (h : Below B a b) (hB : B ≤ b.heap.size) (k : Below b.heap.size b c) : Below B a c := h.trans (k.mono hB)
def cellsE (es : List Ent) : List Value := es.flatMap fun e => [.int .i64 e.1, .int .i64 e.2]
theorem cellsE_length (es : List Ent) : (cellsE es).length = es.length * 2 := by
 induction es with
 | nil => rfl
 | cons e r ih => simp [cellsE] at ih ⊢; omega
theorem cellsE_cons (e : Ent) (r : List Ent) : cellsE (e :: r) = .int .i64 e.1 :: .int .i64 e.2 :: cellsE r := rfl
theorem cellsE_append (a b : List Ent) : cellsE (a ++ b) = cellsE a ++ cellsE b := by simp [cellsE]
theorem cellsE_get (es : List Ent) : ∀ (k : Nat) (e : Ent), es[k]? = some e → (cellsE es)[k * 2]? = some (.int .i64 e.1) ∧ (cellsE es)[k * 2 + 1]? = some (.int .i64 e.2) := by
 induction es with
 | nil => intro k e h; simp at h
 | cons x r ih =>
  intro k e h
  cases k with
  | zero => simp at h; subst h; exact ⟨rfl, rfl⟩
  | succ k =>
   have h' : r[k]? = some e := by simpa using h
   obtain ⟨h1, h2⟩ := ih k e h'
   rw [cellsE_cons, show (k + 1) * 2 = k * 2 + 1 + 1 by omega]
   exact ⟨by simpa using h1, by simpa using h2⟩
theorem cellsE_one (es : List Ent) : ∀ u ∈ cellsE es, u.oneCell' = true := by
 intro u hu
 simp only [cellsE, List.mem_flatMap] at hu
 obtain ⟨e, _, h⟩ := hu
 simp at h
 rcases h with rfl | rfl <;> rfl
def RdE (w : World) (A : Option Addr) (n : Nat) (es : List Ent) : Prop :=
 es.length = n ∧ (0 < n → ∃ b off, A = some ⟨b, off, none⟩ ∧ b < w.heap.size ∧ ∀ k e, es[k]? = some e → w.cell? ⟨b, off + k * 2, none⟩ = some (.int .i64 e.1) ∧ w.cell? ⟨b, off + k * 2 + 1, none⟩ = some (.int .i64 e.2))
section
variable {w w' : World} {A : Option Addr} {n : Nat} {es : List Ent}
theorem RdE.len (h : RdE w A n es) : es.length = n := h.1
theorem RdE.at_ (h : RdE w A n es) {k : Nat} (hk : k < n) : ∃ b off e, A = some ⟨b, off, none⟩ ∧ b < w.heap.size ∧ es[k]? = some e ∧ w.cell? ⟨b, off + k * 2, none⟩ = some (.int .i64 e.1) ∧ w.cell? ⟨b, off + k * 2 + 1, none⟩ = some (.int .i64 e.2) := by
 obtain ⟨b, off, hA, hb, hc⟩ := h.2 (by omega)
 have hl : k < es.length := by rw [h.1]; exact hk
 exact ⟨b, off, es[k], hA, hb, List.getElem?_eq_getElem hl, hc k _ (List.getElem?_eq_getElem hl)⟩
theorem RdE.keep (h : RdE w A n es) (hs : w.heap.size ≤ w'.heap.size) (hk : ∀ a : Addr, A = some a → ∀ o, w'.cell? ⟨a.block, o, none⟩ = w.cell? ⟨a.block, o, none⟩) : RdE w' A n es := by
 refine ⟨h.1, fun hn => ?_⟩
 obtain ⟨b, off, hA, hb, hc⟩ := h.2 hn
 exact ⟨b, off, hA, by omega, fun k e he => by rw [hk _ hA, hk _ hA]; exact hc k e he⟩
theorem RdE.below (h : RdE w A n es) (hb : Below w.heap.size w w') : RdE w' A n es := by
 refine ⟨h.1, fun hn => ?_⟩
 obtain ⟨b, off, hA, hlt, hc⟩ := h.2 hn
 exact ⟨b, off, hA, Nat.lt_of_lt_of_le hlt hb.size, fun k e he => by rw [(bcell hb).1 _ _ hlt, (bcell hb).1 _ _ hlt]; exact hc k e he⟩
theorem RdE.take (h : RdE w A n es) {k : Nat} (hk : k ≤ n) : RdE w A k (es.take k) := by
 refine ⟨by rw [List.length_take, h.1]; omega, fun hn => ?_⟩
 obtain ⟨b, off, hA, hlt, hc⟩ := h.2 (by omega)
 exact ⟨b, off, hA, hlt, fun j e he => hc j e (by
  rw [List.getElem?_take] at he
  split at he
  ·exact he
  ·cases he)⟩
theorem RdE.own {base T c : Nat} (h : w.ownsRow base T 2 (.slice A n c) n (cellsE es)) : RdE w A n es := by
 have h1 := h.1
 rw [cellsE_length] at h1
 refine ⟨by omega, fun hn => ?_⟩
 rcases h.2 with ⟨_, h0⟩ | ⟨g, cap, cur, hv, _, hg, _⟩
 ·omega
 ·have hA : A = some ⟨g, 0, none⟩ := by injection hv
  subst hA
  refine ⟨g, 0, rfl, (Array.getElem?_eq_some_iff.1 hg).1, fun k e he => ?_⟩
  obtain ⟨c1, c2⟩ := cellsE_get es k e he
  have d1 := h.cells (g := g) rfl _ _ c1
  have d2 := h.cells (g := g) rfl _ _ c2
  have hadd : ∀ j, (⟨g, 0, none⟩ : Addr).add j = ⟨g, j, none⟩ := by intro j; unfold Addr.add; split <;> simp_all
  rw [hadd] at d1 d2
  simpa using ⟨d1, d2⟩
end
theorem wpQuiet_imp {P : Program} {ops : Array Oper} {C : World → Prop} {Q Q' : Act → Prop} (hQ : ∀ a, Q a → Q' a) : ∀ (l : List Oper) (a : Act), wpQuiet P ops C Q l a → wpQuiet P ops C Q' l a
 | [], _, h => hQ _ h
 |o :: l, a, h => by
  unfold wpQuiet at h ⊢
  split
  ·rename_i hw
   rw [if_pos hw] at h
   exact Oper.quiet_mono (fun a ha => wpQuiet_imp hQ l a ha) h
  ·rename_i hw
   rw [if_neg hw] at h
   exact wpQuiet_imp hQ l _ h
def Blk (w : World) (g T : Nat) (cs : Array Value) : Prop := w.heap[g]? = some (.cells cs T (0, 0))
section
variable {w w' : World} {g T : Nat} {cs : Array Value}
theorem Blk.lt (h : Blk w g T cs) : g < w.heap.size := (Array.getElem?_eq_some_iff.1 h).1
theorem Blk.cell (h : Blk w g T cs) (i : Nat) : w.cell? ⟨g, i, none⟩ = cs[i]? := cell_of_row w g i cs T (0, 0) h
theorem Blk.frozen (h : Blk w g T cs) (i : Nat) : w.frozen? ⟨g, i, none⟩ = false := by
 unfold Blk at h
 simp [World.frozen?, h]
theorem Blk.new (w : World) (T : Nat) (cs : Array Value) : Blk (w.alloc (.cells cs T)) w.heap.size T cs := heap_alloc_new w _
theorem Blk.alloc (h : Blk w g T cs) (o : Obj) : Blk (w.alloc o) g T cs := (Below.heap_alloc w o g h.lt).trans h
theorem Blk.set_ (h : Blk w g T cs) (i : Nat) (u : Value) : Blk (w.setCell ⟨g, i, none⟩ u) g T (cs.setIfInBounds i u) := by
 unfold Blk at h ⊢
 simp [World.setCell, Array.getElem?_modify, h]
theorem Blk.far (h : Blk w g T cs) {p : Addr} (hp : g ≠ p.block) (u : Value) : Blk (w.setCell p u) g T cs := (Below.heap_setCell w p u g hp).trans h
theorem Blk.below {B : Nat} (h : Blk w g T cs) (hb : Below B w w') (hg : g < B) : Blk w' g T cs := (hb.block g hg).trans h
theorem Blk.next (h : Blk w g T cs) (hb : Below w.heap.size w w') : Blk w' g T cs := (hb.block g h.lt).trans h
end
theorem run_make_rowN {P : Program} (t e : TypeId) (i : TypeInfo) (z : Value) (ht : P.underlying t = some (.slice e)) (hi : P.info? e = some i) (hz : i.zero = some z)
  (kl kc : IntKind) (n c : Nat) (hnc : n ≤ c) (hbytes : i.bytes * c ≤ 281474976710656) (h63 : c ≤ 9223372036854775807) (w : World) :
  (Instr.makeSlice t (.int kl (n : Int)) (.int kc (c : Int))).run P w = .ok (.slice (some ⟨w.heap.size, 0, none⟩) n c) (w.alloc (.cells (madeCells z.cells (c * i.size)) e)) := by
 have hb : (i.bytes : Int) * (c : Int) ≤ 281474976710656 := by
  have h : ((i.bytes * c : Nat) : Int) ≤ 281474976710656 := by omega
  rwa [Int.natCast_mul] at h
 have hr := run_make (P := P) w t e i z ht hi hz kl kc n c (by omega) (by omega) hb (by omega)
 simp only [Int.toNat_natCast] at hr
 exact hr
def FillTo (cur : Array Value) (m : Nat) (xs : List Value) : Prop := cur.size = xs.length ∧ ∀ j, j < m → cur[j]? = xs[j]?
theorem FillTo.start {cur : Array Value} {xs : List Value} (h : cur.size = xs.length) : FillTo cur 0 xs := ⟨h, fun j hj => absurd hj (by omega)⟩
theorem FillTo.step {cur : Array Value} {m : Nat} {xs : List Value} {v : Value} (h : FillTo cur m xs) (hv : xs[m]? = some v) : FillTo (cur.setIfInBounds m v) (m + 1) xs := by
 refine ⟨by simpa using h.1, fun j hj => ?_⟩
 have hm : m < xs.length := (List.getElem?_eq_some_iff.1 hv).1
 rw [Array.getElem?_setIfInBounds]
 by_cases e : m = j
 ·subst e
  rw [if_pos rfl, if_pos (by rw [h.1]; exact hm), hv]
 ·rw [if_neg e]
  exact h.2 j (by omega)
theorem RdE.blk {w : World} {g T : Nat} {es : List Ent} (h : Blk w g T (cellsE es).toArray) : RdE w (some ⟨g, 0, none⟩) es.length es := by
 refine ⟨rfl, fun _ => ⟨g, 0, rfl, h.lt, fun k e he => ?_⟩⟩
 obtain ⟨c1, c2⟩ := cellsE_get es k e he
 rw [Nat.zero_add, h.cell, h.cell]
 simp [c1, c2]
theorem wp_region_qb {P : Program} {id : Nat} {Q : Exit → Act → World → Prop} {a : Act} {w : World} {l : List Oper} (hm : P.follows .mixedOrders = true) (hB : Region.lexB .any l.toArray = true)
  (h : wpQuiet P l.toArray (fun w' => ∃ p : Regrown, w' = grow (redrawn w p.d) p.os) (fun a' => ∀ w', Below w.heap.size w w' → Q .normal a' w') l a) : (Code.region id l.toArray true).wp P Q a w :=
 wp_region_quiet (C := fun w' => ∃ p : Regrown, w' = grow (redrawn w p.d) p.os) hm hB ⟨⟨w.drawn + 1, #[]⟩, by rw [grow_empty]; rfl⟩ (by
  refine wpQuiet_imp ?_ _ _ (by simpa using h)
  rintro a' h' w' ⟨p, rfl⟩
  exact h' _ (below_regrown w p.d p.os))
end Go.Proofs.YtemnlheidghbmaaGreatDoor

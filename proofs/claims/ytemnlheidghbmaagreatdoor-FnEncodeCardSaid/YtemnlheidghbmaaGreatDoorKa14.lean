/-
  Lemmas and contracts: Ee Ef. No condition.
-/
import Derived.Test.YtemnlheidghbmaaGreatDoorKa13
namespace Go.Proofs.YtemnlheidghbmaaGreatDoor
open Go.RowKit Go.Sort
def encTx (b : ByteArray) : List Value := [.string b]
def byteAt (s : ByteArray) (i : Nat) : Int := if h : i < s.size then ((s[i]).toNat : Int) else 0
theorem byteAt_get {s : ByteArray} {k : Nat} (h : k < s.size) : byteAt s k = (s[k].toNat : Int) := by simp [byteAt, h]
def cutGo (s : ByteArray) (z : Int) : Nat → Nat → Nat → List ByteArray
 | 0, fr, _ => [s.extract fr s.size]
 | f + 1, fr, i => if byteAt s i = z then s.extract fr i :: cutGo s z f (i + 1) (i + 1) else cutGo s z f fr (i + 1)
def cutW (s : ByteArray) (z : Int) : List ByteArray := cutGo s z s.size 0 0
theorem cutW_len (s : ByteArray) (z : Int) : (cutW s z).length ≤ s.size + 1 ∧ 1 ≤ (cutW s z).length := by
 have : ∀ f fr i, (cutGo s z f fr i).length ≤ f + 1 ∧ 1 ≤ (cutGo s z f fr i).length := by
  intro f
  induction f with
  | zero => intro fr i; simp [cutGo]
  | succ f ih =>
   intro fr i
   rw [cutGo]
   split
   ·have := ih (i + 1) (i + 1); simp; omega
   ·have := ih fr (i + 1); omega
 exact this _ _ _
theorem cutW_size (s : ByteArray) (z : Int) : ∀ b ∈ cutW s z, b.size ≤ s.size := by
 have : ∀ f fr i, ∀ b ∈ cutGo s z f fr i, b.size ≤ s.size := by
  intro f
  induction f with
  | zero =>
   intro fr i b hb
   simp only [cutGo, List.mem_singleton] at hb
   rw [hb, ByteArray.size_extract]
   omega
  | succ f ih =>
   intro fr i b hb
   rw [cutGo] at hb
   split at hb
   ·rcases List.mem_cons.1 hb with rfl | hb
    ·rw [ByteArray.size_extract]; omega
    ·exact ih _ _ b hb
   ·exact ih _ _ b hb
 exact this _ _ _
def numGo (s : ByteArray) : Nat → Nat → Int → Int
 | 0, _, a => a
 | f + 1, i, a => if byteAt s i < 48 ∨ 57 < byteAt s i then -1 else numGo s f (i + 1) (10 * a + (byteAt s i - 48))
def numW (s : ByteArray) : Int := if (1 ≤ (s.size : Int) ∧ (s.size : Int) ≤ 7) ∧ ¬ (1 < (s.size : Int) ∧ byteAt s 0 = 48) then numGo s s.size 0 0 else -1
abbrev RdW (w : World) (A : Option Addr) (n : Nat) (xs : List ByteArray) : Prop := Rd encTx 1 w A n xs
theorem RdW.cells {w : World} {A : Option Addr} {n : Nat} {xs : List ByteArray} (h : RdW w A n xs) {k : Nat} (hk : k < n) : ∃ b off x, A = some ⟨b, off, none⟩ ∧ b < w.heap.size ∧ xs[k]? = some x ∧ w.cell? ⟨b, off + k, none⟩ = some (.string x) := by
 obtain ⟨b, off, x, hA, hb, hx, hc⟩ := h.at_ hk
 exact ⟨b, off, x, hA, hb, hx, by simpa using hc 0 _ rfl⟩
def lineGo : List ByteArray → List Int → List Int × Bool
 | [], acc => (acc, true)
 | b :: r, acc => if numW b < 0 then (acc, false) else lineGo r (acc ++ [numW b])
def lineW (s word : ByteArray) : List Int × Bool := ((lineGo ((cutW s 32).drop 1) []).1, (lineGo ((cutW s 32).drop 1) []).2 && (((cutW s 32)[0]?).map fun x => x.toList == word.toList).getD false)
def LinePost (B : Nat) (r : List Int × Bool) (w : World) (e : Ending) (w' : World) : Prop :=
 ∃ (A : Option Addr) (c : Nat), e = .returned (.tuple #[.slice A r.1.length c, .bool r.2]) ∧ Ow B w' 3 1 A r.1.length c (cellsI r.1) ∧ Below B w w'
end Go.Proofs.YtemnlheidghbmaaGreatDoor
namespace Go.Proofs.YtemnlheidghbmaaGreatDoor
open Go.RowKit Go.Sort
def partBad (prev : Option Int) (n : Nat) (e : Ent) : Prop := (inOf e.1).2 = false ∨ ¬ (1 ≤ e.2 ∧ e.2 ≤ 60 - (n : Int)) ∨ prev = some e.1
instance (prev : Option Int) (n : Nat) (e : Ent) : Decidable (partBad prev n e) := by unfold partBad; infer_instance
def insGo : List Ent → Option Int → List Inp → List Inp × Bool
 | [], _, acc => (acc, true)
 | e :: r, prev, acc => if partBad prev acc.length e then ([], false) else insGo r (some e.1) (acc ++ List.replicate e.2.toNat (inOf e.1).1)
def insW (ps : List Ent) : List Inp × Bool := insGo ps none []
def prevOf (ps : List Ent) (k : Nat) : Option Int := if k = 0 then none else (ps[k - 1]?).map (·.1)
theorem insGo_step {ps : List Ent} {k : Nat} {e : Ent} (h : ps[k]? = some e) (acc : List Inp) : insGo (ps.drop k) (prevOf ps k) acc = if partBad (prevOf ps k) acc.length e then ([], false) else insGo (ps.drop (k + 1)) (prevOf ps (k + 1)) (acc ++ List.replicate e.2.toNat (inOf e.1).1) := by
 obtain ⟨hk', he⟩ := List.getElem?_eq_some_iff.1 h
 have hp : prevOf ps (k + 1) = some e.1 := by simp [prevOf, h]
 rw [List.drop_eq_getElem_cons hk', he, insGo, hp]
def InsPost (B : Nat) (r : List Inp × Bool) (w : World) (e : Ending) (w' : World) : Prop :=
 ∃ (A : Option Addr) (c : Nat), e = .returned (.tuple #[.slice A r.1.length c, .bool r.2]) ∧ Ow B w' 80 3 A r.1.length c (cellsN r.1) ∧ Below B w w'
end Go.Proofs.YtemnlheidghbmaaGreatDoor

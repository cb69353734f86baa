/-
  Lemmas and contracts: Eg. No condition.
-/
import Derived.Test.YtemnlheidghbmaaGreatDoorKa14
namespace Go.Proofs.YtemnlheidghbmaaGreatDoor
open Go.RowKit Go.Sort
def pairsK (zs : List Int) (k : Nat) : List Ent := (List.range k).map fun j => ((zs[2 * j]?).getD 0, (zs[2 * j + 1]?).getD 0)
theorem pairsK_succ (zs : List Int) (k : Nat) : pairsK zs (k + 1) = pairsK zs k ++ [((zs[2 * k]?).getD 0, (zs[2 * k + 1]?).getD 0)] := by simp [pairsK, List.range_succ]
theorem insGo_len : ∀ (ps : List Ent) (prev : Option Int) (acc : List Inp), acc.length ≤ 60 → (insGo ps prev acc).1.length ≤ 60 := by
 intro ps
 induction ps with
 | nil => intro prev acc h; exact h
 | cons e r ih =>
  intro prev acc h
  rw [insGo]
  split
  ·simp
  ·rename_i hc
   have h2 : 1 ≤ e.2 ∧ e.2 ≤ 60 - (acc.length : Int) := by
    apply Classical.byContradiction
    intro hn
    exact hc (Or.inr (Or.inl hn))
   exact ih _ _ (by simp; omega)
theorem insW_len (ps : List Ent) : (insW ps).1.length ≤ 60 := insGo_len ps none [] (by simp)
def atI (zs : List Int) (k : Nat) : Int := (zs[k]?).getD 0
def sW1 : ByteArray := ⟨#[114, 101, 112, 108, 97, 121]⟩
def sW2 : ByteArray := ⟨#[105, 110, 112, 117, 116, 115]⟩
def sW3 : ByteArray := ⟨#[104, 97, 115, 104, 101, 115]⟩
def sW4 : ByteArray := ⟨#[116, 97, 103]⟩
def readR (h i s t : List Int) : Rep × Bool :=
 let p := insW (pairsK i (i.length / 2))
 let r : Rep := ⟨atI h 0, atI h 1, atI h 2, p.1, s, atI t 0⟩
 (r, p.2 && repOk r)
def readGo (h i s t : List Int × Bool) : Rep × Bool :=
 if (h.2 && i.2 && s.2 && t.2 && decide (h.1.length = 3) && decide (i.1.length % 2 = 0) && decide (t.1.length = 1)) = true then readR h.1 i.1 s.1 t.1 else (rep0, false)
end Go.Proofs.YtemnlheidghbmaaGreatDoor

/-
  Boards, drawn from a code: DrawBoardValid, DrawBoardLimit, DrawBoardRank, DrawBoardRemove, DrawBoardAdd. Whatever the bytes.
-/
import Derived.Test.YtnfmlmkabioepaaDb
namespace Go.Proofs.Ytnfmlmkabioepaa
open Go.RowKit Go.Sort

/-- a board that was drawn, with a rest -/
def Drawn (B : Nat) (R : List Value → Prop) (w : World) (e : Ending) (w' : World) : Prop :=
  ∃ (A : Option Addr) (c : Nat) (es : List Ent) (vs : List Value), e = .returned (.tuple (.slice A es.length c :: vs).toArray) ∧ R vs ∧ OwE B w' A es.length c es ∧ es.length ≤ 8 ∧ Below B w w'

theorem Below.only_ {B g : Nat} {a b c : World} (h : Below B a b) (k : Only g b c) (hg : B ≤ g) (hB : B ≤ b.heap.size) : Below B a c :=
  h.trans (k.below hg hB)

end Go.Proofs.Ytnfmlmkabioepaa

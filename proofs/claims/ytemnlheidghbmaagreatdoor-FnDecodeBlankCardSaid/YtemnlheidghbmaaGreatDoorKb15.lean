/-
  Lemmas and contracts: Ei. No condition.
-/
import Derived.Test.YtemnlheidghbmaaGreatDoorKb14
namespace Go.Proofs.YtemnlheidghbmaaGreatDoor
open Go.RowKit Go.Sort
end Go.Proofs.YtemnlheidghbmaaGreatDoor

/-
  spec.BoardRemove.
-/
import Derived.Test.YtnfmlmkabioepaaBm
import Derived.Test.YtnfmlmkabioepaaBs
import Derived.Test.YtnfmlmkabioepaaSc
namespace Go.Proofs.Ytnfmlmkabioepaa
open Go.RowKit Go.Sort

/-- what BoardRemove gives -/
def removeE (es : List Ent) (p : Int) : List Ent × Bool := if validE es then (withoutE p es, decide (0 ≤ findE p es 0)) else ([], false)

end Go.Proofs.Ytnfmlmkabioepaa

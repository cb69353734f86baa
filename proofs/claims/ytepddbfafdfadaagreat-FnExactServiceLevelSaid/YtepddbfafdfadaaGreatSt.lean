/-
  Twelve cells stored one behind the other: what block, world and frame are then. No condition: lemmas.
-/
import Derived.Test.YtepddbfafdfadaaGreatOw
namespace Go.Proofs.YtepddbfafdfadaaGreat
open Go.RowKit Go.Sort

theorem Blk.set12 {w : World} {g T : Nat} {cur : Array Value} (h : Blk w g T cur) (m : Nat) (v0 v1 v2 v3 v4 v5 v6 v7 v8 v9 v10 v11 : Value) : Blk ((((((((((((w.setCell ⟨g, m, none⟩ v0).setCell ⟨g, m + 1, none⟩ v1).setCell ⟨g, m + 2, none⟩ v2).setCell ⟨g, m + 3, none⟩ v3).setCell ⟨g, m + 4, none⟩ v4).setCell ⟨g, m + 5, none⟩ v5).setCell ⟨g, m + 6, none⟩ v6).setCell ⟨g, m + 7, none⟩ v7).setCell ⟨g, m + 8, none⟩ v8).setCell ⟨g, m + 9, none⟩ v9).setCell ⟨g, m + 10, none⟩ v10).setCell ⟨g, m + 11, none⟩ v11) g T (setRun cur m [v0, v1, v2, v3, v4, v5, v6, v7, v8, v9, v10, v11]) := by
  have := ((((((((((((h.set_ (m) v0).set_ (m + 1) v1).set_ (m + 2) v2).set_ (m + 3) v3).set_ (m + 4) v4).set_ (m + 5) v5).set_ (m + 6) v6).set_ (m + 7) v7).set_ (m + 8) v8).set_ (m + 9) v9).set_ (m + 10) v10).set_ (m + 11) v11)
  simp only [setRun, Nat.add_assoc, Nat.reduceAdd]
  exact this
theorem below_set12 {B g : Nat} {a w : World} (h : Below B a w) (hg : B ≤ g) (m : Nat) (v0 v1 v2 v3 v4 v5 v6 v7 v8 v9 v10 v11 : Value) : Below B a ((((((((((((w.setCell ⟨g, m, none⟩ v0).setCell ⟨g, m + 1, none⟩ v1).setCell ⟨g, m + 2, none⟩ v2).setCell ⟨g, m + 3, none⟩ v3).setCell ⟨g, m + 4, none⟩ v4).setCell ⟨g, m + 5, none⟩ v5).setCell ⟨g, m + 6, none⟩ v6).setCell ⟨g, m + 7, none⟩ v7).setCell ⟨g, m + 8, none⟩ v8).setCell ⟨g, m + 9, none⟩ v9).setCell ⟨g, m + 10, none⟩ v10).setCell ⟨g, m + 11, none⟩ v11) :=
  ((((((((((((h.setCell (p := ⟨g, m, none⟩) hg v0).setCell (p := ⟨g, m + 1, none⟩) hg v1).setCell (p := ⟨g, m + 2, none⟩) hg v2).setCell (p := ⟨g, m + 3, none⟩) hg v3).setCell (p := ⟨g, m + 4, none⟩) hg v4).setCell (p := ⟨g, m + 5, none⟩) hg v5).setCell (p := ⟨g, m + 6, none⟩) hg v6).setCell (p := ⟨g, m + 7, none⟩) hg v7).setCell (p := ⟨g, m + 8, none⟩) hg v8).setCell (p := ⟨g, m + 9, none⟩) hg v9).setCell (p := ⟨g, m + 10, none⟩) hg v10).setCell (p := ⟨g, m + 11, none⟩) hg v11)
theorem Frm.set12 {lo hi g : Nat} {a w : World} (h : Frm lo hi a w) (h1 : lo ≤ g) (h2 : g < hi) (m : Nat) (v0 v1 v2 v3 v4 v5 v6 v7 v8 v9 v10 v11 : Value) : Frm lo hi a ((((((((((((w.setCell ⟨g, m, none⟩ v0).setCell ⟨g, m + 1, none⟩ v1).setCell ⟨g, m + 2, none⟩ v2).setCell ⟨g, m + 3, none⟩ v3).setCell ⟨g, m + 4, none⟩ v4).setCell ⟨g, m + 5, none⟩ v5).setCell ⟨g, m + 6, none⟩ v6).setCell ⟨g, m + 7, none⟩ v7).setCell ⟨g, m + 8, none⟩ v8).setCell ⟨g, m + 9, none⟩ v9).setCell ⟨g, m + 10, none⟩ v10).setCell ⟨g, m + 11, none⟩ v11) :=
  ((((((((((((h.set_ (p := ⟨g, m, none⟩) h1 h2 v0).set_ (p := ⟨g, m + 1, none⟩) h1 h2 v1).set_ (p := ⟨g, m + 2, none⟩) h1 h2 v2).set_ (p := ⟨g, m + 3, none⟩) h1 h2 v3).set_ (p := ⟨g, m + 4, none⟩) h1 h2 v4).set_ (p := ⟨g, m + 5, none⟩) h1 h2 v5).set_ (p := ⟨g, m + 6, none⟩) h1 h2 v6).set_ (p := ⟨g, m + 7, none⟩) h1 h2 v7).set_ (p := ⟨g, m + 8, none⟩) h1 h2 v8).set_ (p := ⟨g, m + 9, none⟩) h1 h2 v9).set_ (p := ⟨g, m + 10, none⟩) h1 h2 v10).set_ (p := ⟨g, m + 11, none⟩) h1 h2 v11)
end Go.Proofs.YtepddbfafdfadaaGreat

/-
  slices.Insert of one entry into a row of the call's own.
-/
import Derived.Test.YtepddbfafdfadaaGreatIns
import Derived.Test.YtepddbfafdfadaaGreatBm
namespace Go.Proofs.YtepddbfafdfadaaGreat
open Go.RowKit Go.Sort

theorem Src.keep_block {w w' : World} {size m g off : Nat} {news : List Value} (h : Src w size (some ⟨g, off, none⟩) m news) (hk : ∀ i, i = g → w'.heap[i]? = w.heap[i]?) : Src w' size (some ⟨g, off, none⟩) m news :=
  ⟨h.1, fun hm => by
    obtain ⟨ad, e, hc⟩ := h.2 hm
    injection e with e
    subst e
    refine ⟨_, rfl, fun j u hu => ?_⟩
    have h1 := hc j u hu
    rw [Addr.add_lit] at h1 ⊢
    rw [World.cell?_of_block (w := w) (hk g rfl)]
    exact h1⟩

end Go.Proofs.YtepddbfafdfadaaGreat

/-
  What BoardRank and BoardLimit return, the reference's and the program's, for every slice of at most 2^40 entries.
-/
import Derived.Test.YtepddbfafdfadaaGreatBs
import Derived.Test.YtepddbfafdfadaaGreatBi
namespace Go.Proofs.YtepddbfafdfadaaGreat
open Go.RowKit Go.Sort

def rankE (es : List Ent) (p : Int) : Int := if validE es then findE p es 0 + 1 else -1
def limitE (es : List Ent) : Int := if validE es then (if es.length < 4 then 60 else (es[3]?.getD (0, 0)).2 - 1) else -1

theorem findE_le (p : Int) : ∀ (es : List Ent) (j : Int), 0 ≤ j → -1 ≤ findE p es j ∧ findE p es j < j + es.length + 1
  | [], j, h => by simp [findE]; omega
  | x :: r, j, h => by
    have := findE_le p r (j + 1) (by omega)
    simp only [findE, List.length_cons]
    split <;> omega
theorem validE_len {es : List Ent} (h : validE es = true) : es.length ≤ 4 := by
  simp only [validE, Bool.and_eq_true, decide_eq_true_eq] at h
  omega
theorem validE_at {es : List Ent} (h : validE es = true) {k : Nat} (hk : k < es.length) : vriE es k = true := by
  simp only [validE, Bool.and_eq_true, valliE, List.all_eq_true] at h
  exact h.2 k (List.mem_range.2 hk)
theorem validE_ok {es : List Ent} (h : validE es = true) {k : Nat} {e : Ent} (he : es[k]? = some e) : okE e = true := by
  have h1 := validE_at h (List.getElem?_eq_some_iff.1 he).1
  simp only [vriE, he, Bool.and_eq_true] at h1
  exact h1.1.1
theorem okE_bd {e : Ent} (h : okE e = true) : 0 ≤ e.1 ∧ e.1 ≤ 9 ∧ 0 ≤ e.2 ∧ e.2 ≤ 60 := by
  simp only [okE, inR, Bool.and_eq_true, decide_eq_true_eq] at h
  omega

end Go.Proofs.YtepddbfafdfadaaGreat

/-
  Plain words about boards: what BoardAdd and BoardRemove do to them. No program in sight.
-/
import Derived.Test.YtjafdiacgaiphaaRi
import Derived.Test.YtjafdiacgaiphaaBa

namespace Go.Proofs.Ytjafdiacgaiphaa
open Go.RowKit Go.Sort

theorem without_lt (p : Int) : ∀ (es : List Ent) (j : Int), 0 ≤ j → (0 ≤ findE p es j ↔ (withoutE p es).length < es.length)
  | [], j, _ => by simp [findE, withoutE]
  | e :: r, j, hj => by
    have ih := without_lt p r (j + 1) (by omega)
    have hle : (withoutE p r).length ≤ r.length := List.length_filter_le _ _
    by_cases hp : e.1 = p
    · have h1 : withoutE p (e :: r) = withoutE p r := by unfold withoutE; rw [List.filter_cons, if_neg (by simp [hp])]
      rw [h1, findE, if_pos hp, List.length_cons]
      omega
    · have h1 : withoutE p (e :: r) = e :: withoutE p r := by unfold withoutE; rw [List.filter_cons, if_pos (by simp [hp])]
      rw [h1, findE, if_neg hp, ih, List.length_cons, List.length_cons]
      omega
theorem valid_without {p : Int} {es : List Ent} (h : validE es = true) : validE (withoutE p es) = true := by
  obtain ⟨h1, h2, h3, h4⟩ := Good.of h
  have hs : (withoutE p es).Sublist es := List.filter_sublist
  exact Good.valid ⟨Nat.le_trans hs.length_le h1, fun e he => h2 e (hs.subset he), h3.sublist hs, h4.sublist hs⟩
theorem find_without (p : Int) (es : List Ent) (j : Int) : findE p (withoutE p es) j = -1 :=
  findE_no p _ j fun e he => by
    unfold withoutE at he
    have := (List.mem_filter.1 he).2
    simpa using this
theorem without_twice (p : Int) (es : List Ent) : withoutE p (withoutE p es) = withoutE p es := by
  unfold withoutE
  rw [List.filter_filter]
  congr 1
  funext e
  simp
theorem score_at {p : Int} : ∀ (es : List Ent) (j : Int) (k : Nat), 0 ≤ j → findE p es j = j + k → ∃ e, es[k]? = some e ∧ e.1 = p ∧ scoreE p es = e.2
  | [], j, k, hj, h => by simp [findE] at h; omega
  | x :: r, j, k, hj, h => by
    simp only [findE] at h
    split at h
    · rename_i he
      obtain rfl : k = 0 := by omega
      exact ⟨x, rfl, he, by simp [scoreE, he]⟩
    · rename_i he
      have hb := findE_bd p r (j + 1)
      cases k with
      | zero => omega
      | succ k =>
        obtain ⟨e, h1, h2, h3⟩ := score_at r (j + 1) k (by omega) (by rw [h]; push_cast; omega)
        exact ⟨e, by simpa using h1, h2, by simp [scoreE, he, h3]⟩

/-- a removed entry is added again -/
theorem add_again {p : Int} {es : List Ent} (hv : validE es = true) (hf : 0 ≤ findE p es 0) : (addE (withoutE p es) (p, scoreE p es)).2 = 0 ∧ (addE (withoutE p es) (p, scoreE p es)).1.length = es.length := by
  obtain ⟨k, e0, hk, he0, hp0⟩ := findE_ok hf
  obtain ⟨e, he, hp, hs⟩ := score_at es 0 k (Int.le_refl _) (by rw [hk]; simp)
  have hok : okE (p, scoreE p es) = true := by
    have := validE_ok hv he
    rw [hs, ← hp]
    exact this
  have hl4 := validE_len hv
  have hlt := (List.getElem?_eq_some_iff.1 he).1
  have hlen : (withoutE p es).length = es.length - 1 := by
    rw [without_at hv he hp, List.length_append, List.length_take, List.length_drop]; omega
  have hc := cntE_le (scoreE p es) (withoutE p es)
  have hw : worseE (withoutE p es) (p, scoreE p es) = false := by simp [worseE, find_without]
  have hadd : addE (withoutE p es) (p, scoreE p es) = (outE (withoutE p es) (p, scoreE p es), 0) := by
    unfold addE
    rw [valid_without hv, hok, hw, without_twice]
    simp
    omega
  refine ⟨by rw [hadd], ?_⟩
  rw [hadd]
  unfold outE
  simp only [without_twice, List.length_take, List.length_append, List.length_drop, List.length_cons, List.length_nil]
  omega
end Go.Proofs.Ytjafdiacgaiphaa

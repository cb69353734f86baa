/-
  Plain words about boards: what BoardAdd and BoardRemove do to them. No program in sight.
-/
import Derived.Test.YtnfmlmkabioepaaRi
import Derived.Test.YtnfmlmkabioepaaBa

namespace Go.Proofs.Ytnfmlmkabioepaa
open Go.RowKit Go.Sort

theorem without_lt (p : Int) : ∀ (es : List Ent) (j : Int), 0 ≤ j → (0 ≤ findE p es j ↔ (withoutE p es).length < es.length)
  | [], j, _ => by simp [findE, withoutE]
  | e :: r, j, hj => by
    have ih := without_lt p r (j + 1) (by omega)
    have hle : (withoutE p r).length ≤ r.length := List.length_filter_le _ _
    by_cases hp : e.1 = p
    · have h1 : withoutE p (e :: r) = withoutE p r := by unfold withoutE; rw [List.filter_cons, if_neg (by simp [hp])]
      rw [h1, findE, if_pos hp, List.length_cons]
      omega
    · have h1 : withoutE p (e :: r) = e :: withoutE p r := by unfold withoutE; rw [List.filter_cons, if_pos (by simp [hp])]
      rw [h1, findE, if_neg hp, ih, List.length_cons, List.length_cons]
      omega
theorem valid_without {p : Int} {es : List Ent} (h : validE es = true) : validE (withoutE p es) = true := by
  obtain ⟨h1, h2, h3, h4⟩ := Good.of h
  have hs : (withoutE p es).Sublist es := List.filter_sublist
  exact Good.valid ⟨Nat.le_trans hs.length_le h1, fun e he => h2 e (hs.subset he), h3.sublist hs, h4.sublist hs⟩
theorem find_without (p : Int) (es : List Ent) (j : Int) : findE p (withoutE p es) j = -1 :=
  findE_no p _ j fun e he => by
    unfold withoutE at he
    have := (List.mem_filter.1 he).2
    simpa using this
theorem without_twice (p : Int) (es : List Ent) : withoutE p (withoutE p es) = withoutE p es := by
  unfold withoutE
  rw [List.filter_filter]
  congr 1
  funext e
  simp
theorem score_at {p : Int} : ∀ (es : List Ent) (j : Int) (k : Nat), 0 ≤ j → findE p es j = j + k → ∃ e, es[k]? = some e ∧ e.1 = p ∧ scoreE p es = e.2
  | [], j, k, hj, h => by simp [findE] at h; omega
  | x :: r, j, k, hj, h => by
    simp only [findE] at h
    split at h
    · rename_i he
      obtain rfl : k = 0 := by omega
      exact ⟨x, rfl, he, by simp [scoreE, he]⟩
    · rename_i he
      have hb := findE_bd p r (j + 1)
      cases k with
      | zero => omega
      | succ k =>
        obtain ⟨e, h1, h2, h3⟩ := score_at r (j + 1) k (by omega) (by rw [h]; push_cast; omega)
        exact ⟨e, by simpa using h1, h2, by simp [scoreE, he, h3]⟩

/-- a removed entry is added again -/
theorem add_again {p : Int} {es : List Ent} (hv : validE es = true) (hf : 0 ≤ findE p es 0) : (addE (withoutE p es) (p, scoreE p es)).2 = 0 ∧ (addE (withoutE p es) (p, scoreE p es)).1.length = es.length := by
  obtain ⟨k, e0, hk, he0, hp0⟩ := findE_ok hf
  obtain ⟨e, he, hp, hs⟩ := score_at es 0 k (Int.le_refl _) (by rw [hk]; simp)
  have hok : okE (p, scoreE p es) = true := by
    have := validE_ok hv he
    rw [hs, ← hp]
    exact this
  have hl4 := validE_len hv
  have hlt := (List.getElem?_eq_some_iff.1 he).1
  have hlen : (withoutE p es).length = es.length - 1 := by
    rw [without_at hv he hp, List.length_append, List.length_take, List.length_drop]; omega
  have hc := cntE_le (scoreE p es) (withoutE p es)
  have hw : worseE (withoutE p es) (p, scoreE p es) = false := by simp [worseE, find_without]
  have hadd : addE (withoutE p es) (p, scoreE p es) = (outE (withoutE p es) (p, scoreE p es), 0) := by
    unfold addE
    rw [valid_without hv, hok, hw, without_twice]
    simp
    omega
  refine ⟨by rw [hadd], ?_⟩
  rw [hadd]
  unfold outE
  simp only [without_twice, List.length_take, List.length_append, List.length_drop, List.length_cons, List.length_nil]
  omega
theorem addE_len8 (es : List Ent) (x : Ent) (h : es.length ≤ 8) : (addE es x).1.length ≤ 8 := by
  unfold addE
  split
  · split
    · exact h
    · split
      · exact h
      · unfold outE; simp only [List.length_take]; omega
  · exact Nat.zero_le _

/-- the codes of BoardAdd, told apart -/
theorem addE_done {es : List Ent} {x : Ent} (h : (addE es x).2 = 0) : validE es = true ∧ okE x = true ∧ worseE es x = false ∧ cntE x.2 (withoutE x.1 es) < 4 ∧ addE es x = (outE es x, 0) := by
  unfold addE at *
  cases hv : validE es <;> cases ho : okE x <;> cases hw : worseE es x <;> simp [hv, ho, hw] at h ⊢
  split at h
  · simp at h
  · rename_i hc
    omega
theorem outE_lenEq {es : List Ent} {x : Ent} : (outE es x).length = min 4 ((withoutE x.1 es).length + 1) := by
  have := cntE_le x.2 (withoutE x.1 es)
  unfold outE
  simp only [List.length_take, List.length_append, List.length_drop, List.length_cons, List.length_nil]
  omega
theorem cntE_get {s : Int} : ∀ {es : List Ent} {k : Nat} {e : Ent}, k < cntE s es → es[k]? = some e → e.2 ≤ s
  | [], k, e, h, _ => by simp [cntE] at h
  | d :: r, k, e, h, he => by
    simp only [cntE] at h
    split at h
    · rename_i hd
      cases k with
      | zero => simp at he; subst he; exact hd
      | succ k => exact cntE_get (es := r) (k := k) (by omega) (by simpa using he)
    · omega
theorem cntE_next {s : Int} : ∀ {es : List Ent} {e : Ent}, es[cntE s es]? = some e → s < e.2
  | [], e, he => by simp at he
  | d :: r, e, he => by
    simp only [cntE] at he
    split at he
    · exact cntE_next (es := r) (by simpa using he)
    · simp at he; subst he; omega
/-- how many other players' entries have a score of at most s -/
def betterE (p s : Int) (es : List Ent) : Nat := (es.filter fun e => e.1 != p && decide (e.2 ≤ s)).length
theorem betterE_step (p s : Int) (es : List Ent) (k : Nat) (e : Ent) (he : es[k]? = some e) : betterE p s (es.take (k + 1)) = betterE p s (es.take k) + if (e.1 != p && decide (e.2 ≤ s)) = true then 1 else 0 := by
  rw [List.take_add_one, he, betterE, List.filter_append, List.length_append]
  simp only [betterE, Option.toList_some, List.filter_cons, List.filter_nil]
  split <;> simp
theorem cntE_sorted (s : Int) : ∀ es : List Ent, es.Pairwise (fun a b => a.2 ≤ b.2) → (es.filter fun e => decide (e.2 ≤ s)).length = cntE s es
  | [], _ => rfl
  | e :: r, h => by
    rw [List.pairwise_cons] at h
    rw [List.filter_cons, cntE]
    by_cases he : e.2 ≤ s
    · rw [if_pos (by simpa using he), if_pos he, List.length_cons, cntE_sorted s r h.2]
    · rw [if_neg (by simpa using he), if_neg he, List.length_eq_zero_iff, List.filter_eq_nil_iff]
      intro a ha
      have := h.1 a ha
      simp; omega
theorem better_cnt {p s : Int} {es : List Ent} (h : validE es = true) : betterE p s es = cntE s (withoutE p es) := by
  rw [← cntE_sorted s _ (Good.of (valid_without (p := p) h)).2.2.2]
  unfold betterE withoutE
  rw [List.filter_filter]
  congr 2
  funext e
  exact Bool.and_comm _ _
theorem worse_score {es : List Ent} {x : Ent} (h : validE es = true) : worseE es x = (decide (0 ≤ scoreE x.1 es) && decide (scoreE x.1 es ≤ x.2)) := by
  unfold worseE
  rcases findE_or x.1 es 0 with hf | hf
  · rw [hf, findE_none x.1 es 0 (Int.le_refl _) hf]; rfl
  · obtain ⟨k, hk⟩ := Int.eq_ofNat_of_zero_le hf
    obtain ⟨e, he, hp, hs⟩ := score_at es 0 k (Int.le_refl _) (by rw [hk]; simp)
    have hb := okE_bd (validE_ok h he)
    rw [hk, hs]
    simp [he]
    omega
theorem addE_not3 {es : List Ent} {x : Ent} (h : ¬ (addE es x).2 = 3) : validE es = true ∧ okE x = true := by
  unfold addE at h
  split at h
  · rename_i hq
    simpa using hq
  · simp at h
end Go.Proofs.Ytnfmlmkabioepaa

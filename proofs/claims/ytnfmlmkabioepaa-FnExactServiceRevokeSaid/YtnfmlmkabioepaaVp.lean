/-
  A valid board in plain words: at most four entries, each in range, no player twice, the scores in order.
-/
import Derived.Test.YtnfmlmkabioepaaSc
namespace Go.Proofs.Ytnfmlmkabioepaa
open Go.RowKit Go.Sort

theorem findE_neg (p : Int) : ∀ (es : List Ent) (j : Int), 0 ≤ j → findE p es j < 0 → ∀ e ∈ es, e.1 ≠ p
  | [], _, _, _, e, he => by cases he
  | x :: r, j, hj, h, e, he => by
    simp only [findE] at h
    split at h
    · omega
    · rename_i hne
      rcases List.mem_cons.1 he with rfl | h1
      · exact hne
      · exact findE_neg p r (j + 1) (by omega) h e h1
theorem findE_no (p : Int) : ∀ (es : List Ent) (j : Int), (∀ e ∈ es, e.1 ≠ p) → findE p es j = -1
  | [], _, _ => rfl
  | x :: r, j, h => by
    simp only [findE]
    rw [if_neg (h x (List.mem_cons_self ..))]
    exact findE_no p r (j + 1) fun e he => h e (List.mem_cons_of_mem _ he)

theorem validE_sorted_step {es : List Ent} (h : validE es = true) {k : Nat} {d e : Ent} (hd : es[k]? = some d) (he : es[k + 1]? = some e) : d.2 ≤ e.2 := by
  have h1 := validE_at h (List.getElem?_eq_some_iff.1 he).1
  simp [vriE, he, prevE, hd] at h1
  omega
theorem validE_sorted {es : List Ent} (h : validE es = true) : ∀ (n k : Nat) (d e : Ent), es[k]? = some d → es[k + n]? = some e → d.2 ≤ e.2
  | 0, k, d, e, hd, he => by
    rw [Nat.add_zero, hd] at he
    injection he with he
    rw [he]; exact Int.le_refl _
  | n + 1, k, d, e, hd, he => by
    have hlt := (List.getElem?_eq_some_iff.1 he).1
    have hm : es[k + 1]? = some es[k + 1] := List.getElem?_eq_getElem (by omega)
    exact Int.le_trans (validE_sorted_step h hd hm) (validE_sorted h n (k + 1) _ e hm (by rw [show k + 1 + n = k + (n + 1) by omega]; exact he))

def Good (es : List Ent) : Prop := es.length ≤ 4 ∧ (∀ e ∈ es, okE e = true) ∧ es.Pairwise (fun a b => a.1 ≠ b.1) ∧ es.Pairwise (fun a b => a.2 ≤ b.2)
theorem Good.of {es : List Ent} (h : validE es = true) : Good es := by
  refine ⟨validE_len h, fun e he => ?_, ?_, ?_⟩
  · obtain ⟨k, hk, rfl⟩ := List.getElem_of_mem he
    exact validE_ok h (List.getElem?_eq_getElem hk)
  · rw [List.pairwise_iff_getElem]
    intro i j hi hj hij
    have h1 := validE_at h hj
    simp only [vriE, List.getElem?_eq_getElem hj, Bool.and_eq_true, Bool.not_eq_true', decide_eq_false_iff_not] at h1
    refine findE_neg _ (es.take j) 0 (Int.le_refl _) (by omega) _ ?_
    rw [List.mem_iff_getElem?]
    exact ⟨i, by rw [List.getElem?_take, if_pos hij]; exact List.getElem?_eq_getElem hi⟩
  · rw [List.pairwise_iff_getElem]
    intro i j hi hj hij
    exact validE_sorted h (j - i) i _ _ (List.getElem?_eq_getElem hi) (by rw [show i + (j - i) = j by omega]; exact List.getElem?_eq_getElem hj)
theorem Good.valid {es : List Ent} (h : Good es) : validE es = true := by
  obtain ⟨h1, h2, h3, h4⟩ := h
  rw [List.pairwise_iff_getElem] at h3 h4
  have hv : valliE es = true := valliE_true fun j hj => by
    have hn : findE (es[j]).1 (es.take j) 0 = -1 := findE_no _ _ 0 fun e he => by
      obtain ⟨i, hi⟩ := List.mem_iff_getElem?.1 he
      rw [List.getElem?_take] at hi
      split at hi
      · rename_i hij
        obtain ⟨hil, rfl⟩ := List.getElem?_eq_some_iff.1 hi
        exact h3 i j hil hj hij
      · cases hi
    simp only [vriE, List.getElem?_eq_getElem hj, h2 _ (List.getElem_mem hj), hn, Bool.true_and]
    rcases Nat.eq_zero_or_pos j with h0 | h0
    · simp [h0]
    · have hp : prevE es j = (es[j - 1]).2 := by simp [prevE, List.getElem?_eq_getElem (show j - 1 < es.length by omega)]
      have := h4 (j - 1) j (by omega) hj (by omega)
      rw [hp]
      simp
      omega
  simp [validE, hv]
  omega
theorem valid_less {es : List Ent} (h : validE es = true) (k : Nat) : validE (es.take k ++ es.drop (k + 1)) = true := by
  obtain ⟨h1, h2, h3, h4⟩ := Good.of h
  have hs : (es.take k ++ es.drop (k + 1)).Sublist es := by rw [← List.eraseIdx_eq_take_drop_succ]; exact List.eraseIdx_sublist ..
  exact Good.valid ⟨Nat.le_trans hs.length_le h1, fun e he => h2 e (hs.subset he), h3.sublist hs, h4.sublist hs⟩
theorem valid_twice {es : List Ent} {k : Nat} (hk : k < es.length) : validE (es.take (k + 1) ++ es.drop k) = false := by
  cases hv : validE (es.take (k + 1) ++ es.drop k) with
  | false => rfl
  | true =>
    have h3 := (Good.of hv).2.2.1
    rw [List.pairwise_append] at h3
    refine absurd rfl (h3.2.2 es[k] ?_ es[k] ?_)
    · rw [List.mem_iff_getElem?]
      exact ⟨k, by rw [List.getElem?_take, if_pos (by omega)]; exact List.getElem?_eq_getElem hk⟩
    · rw [List.mem_iff_getElem?]
      exact ⟨0, by rw [List.getElem?_drop]; exact List.getElem?_eq_getElem hk⟩
end Go.Proofs.Ytnfmlmkabioepaa

/-
  Plain words about boards: whoever is at the limit enters. No program in sight.
-/
import Derived.Test.YtnfmlmkabioepaaPq
namespace Go.Proofs.Ytnfmlmkabioepaa
open Go.RowKit Go.Sort

theorem score_without {p q : Int} (hne : q ≠ p) : ∀ es : List Ent, scoreE q (withoutE p es) = scoreE q es
  | [] => rfl
  | e :: r => by
    have ih := score_without hne r
    by_cases hp : e.1 = p
    · have h1 : withoutE p (e :: r) = withoutE p r := by unfold withoutE; rw [List.filter_cons, if_neg (by simp [hp])]
      rw [h1, ih, scoreE, if_neg (by rw [hp]; exact fun h => hne h.symm)]
    · have h1 : withoutE p (e :: r) = e :: withoutE p r := by unfold withoutE; rw [List.filter_cons, if_pos (by simp [hp])]
      rw [h1, scoreE, scoreE, ih]
theorem players_le : ∀ (k : Nat) (es : List Ent), (∀ q : Nat, q < k → 0 ≤ scoreE q es) → k ≤ es.length
  | 0, _, _ => Nat.zero_le _
  | k + 1, es, h => by
    have h1 := h k (Nat.lt_succ_self k)
    have hf : 0 ≤ findE (k : Int) es 0 := by
      rcases findE_or (k : Int) es 0 with h2 | h2
      · rw [findE_none _ _ 0 (Int.le_refl _) h2] at h1; omega
      · exact h2
    have h3 := (without_lt (k : Int) es 0 (Int.le_refl _)).1 hf
    have h4 := players_le k (withoutE (k : Int) es) fun q hq => by
      rw [score_without (by omega)]
      exact h q (by omega)
    omega
theorem score_neg {p : Int} {es : List Ent} (hv : validE es = true) (h : scoreE p es < 0) : findE p es 0 = -1 := by
  rcases findE_or p es 0 with hf | hf
  · exact hf
  · obtain ⟨k, hk⟩ := Int.eq_ofNat_of_zero_le hf
    obtain ⟨e, he, _, hs⟩ := score_at es 0 k (Int.le_refl _) (by rw [hk]; simp)
    have := okE_bd (validE_ok hv he)
    omega
theorem limit_bd {es : List Ent} (h : 0 ≤ limitE es) : validE es = true ∧ limitE es ≤ 60 := by
  cases hv : validE es with
  | false => simp [limitE, hv] at h
  | true =>
    refine ⟨rfl, ?_⟩
    unfold limitE
    rw [if_pos hv]
    split
    · exact Int.le_refl _
    · rename_i hl
      have h4 := validE_len hv
      have he : es[3]? = some es[3] := List.getElem?_eq_getElem (by omega)
      have := okE_bd (validE_ok hv he)
      rw [he]; simp; omega
theorem add_new {es : List Ent} {p s : Int} (hv : validE es = true) (hp0 : 0 ≤ p) (hp9 : p ≤ 9) (hn : findE p es 0 = -1) (h0 : 0 ≤ s) (h60 : s ≤ 60) : addE es (p, s) = if 4 ≤ cntE s es then (es, 2) else (outE es (p, s), 0) := by
  have ho : okE (p, s) = true := by simp [okE, inR]; omega
  have hw : withoutE p es = es := without_none (by omega)
  simp [addE, worseE, hv, ho, hn, hw]
theorem limit_cnt {es : List Ent} (h : 0 ≤ limitE es) : cntE (limitE es) es < 4 := by
  obtain ⟨hv, _⟩ := limit_bd h
  have h4 := validE_len hv
  have hc := cntE_le (limitE es) es
  by_cases hl : es.length < 4
  · omega
  · have he : es[3]? = some es[3] := List.getElem?_eq_getElem (by omega)
    by_cases hq : cntE (limitE es) es < 4
    · exact hq
    · have h1 := cntE_get (s := limitE es) (es := es) (k := 3) (by omega) he
      have h2 : limitE es = es[3].2 - 1 := by unfold limitE; rw [if_pos hv, if_neg hl, he]; rfl
      omega
theorem cntE_all {s : Int} : ∀ {es : List Ent}, (∀ e ∈ es, e.2 ≤ s) → cntE s es = es.length
  | [], _ => rfl
  | e :: r, h => by
    rw [cntE, if_pos (h e (List.mem_cons_self ..)), cntE_all fun d hd => h d (List.mem_cons_of_mem _ hd)]
    rfl
theorem limit_over {es : List Ent} (h : 0 ≤ limitE es) : limitE es = 60 ∨ ∀ s : Int, limitE es < s → 4 ≤ cntE s es := by
  obtain ⟨hv, _⟩ := limit_bd h
  have h4 := validE_len hv
  by_cases hl : es.length < 4
  · left; simp [limitE, hv, hl]
  · right
    intro s hs
    have he : es[3]? = some es[3] := List.getElem?_eq_getElem (by omega)
    have h2 : limitE es = es[3].2 - 1 := by unfold limitE; rw [if_pos hv, if_neg hl, he]; rfl
    have ha : ∀ e ∈ es, e.2 ≤ s := by
      intro e hm
      obtain ⟨k, hk⟩ := List.mem_iff_getElem?.1 hm
      have hkl := (List.getElem?_eq_some_iff.1 hk).1
      have := validE_sorted hv (3 - k) k e es[3] hk (by rw [show k + (3 - k) = 3 by omega]; exact he)
      omega
    rw [cntE_all ha]
    omega
theorem limit_one {es : List Ent} {p : Int} (h : 0 ≤ limitE es) (hp0 : 0 ≤ p) (hp9 : p ≤ 9) (hs : scoreE p es < 0) : (addE es (p, limitE es)).2 = 0 := by
  obtain ⟨hv, h60⟩ := limit_bd h
  have hc := limit_cnt h
  rw [add_new hv hp0 hp9 (score_neg hv hs) h h60, if_neg (by omega)]
theorem limit_two {es : List Ent} {p s : Int} (h : 0 ≤ limitE es) (hp0 : 0 ≤ p) (hp9 : p ≤ 9) (hs : scoreE p es < 0) (h1 : limitE es < s) (h2 : s ≤ 60) : (addE es (p, s)).2 = 2 := by
  obtain ⟨hv, h60⟩ := limit_bd h
  rcases limit_over h with h3 | h3
  · omega
  · rw [add_new hv hp0 hp9 (score_neg hv hs) (by omega) h2, if_pos (h3 s h1)]
end Go.Proofs.Ytnfmlmkabioepaa

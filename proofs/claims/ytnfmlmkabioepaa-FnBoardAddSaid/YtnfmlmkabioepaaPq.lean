/-
  Plain words about boards: a board keeps the best scores. No program in sight.
-/
import Derived.Test.YtnfmlmkabioepaaPo
namespace Go.Proofs.Ytnfmlmkabioepaa
open Go.RowKit Go.Sort

theorem score_mem : ∀ {L : List Ent} {e : Ent}, L.Pairwise (fun a b => a.1 ≠ b.1) → e ∈ L → scoreE e.1 L = e.2
  | [], e, _, he => by cases he
  | d :: r, e, h, he => by
    rw [List.pairwise_cons] at h
    rw [scoreE]
    rcases List.mem_cons.1 he with rfl | hr
    · rw [if_pos rfl]
    · rw [if_neg (h.1 e hr), score_mem h.2 hr]
theorem score_no (p : Int) : ∀ (L : List Ent), (∀ e ∈ L, e.1 ≠ p) → scoreE p L = -1
  | [], _ => rfl
  | e :: r, h => by
    rw [scoreE, if_neg (h e (List.mem_cons_self ..)), score_no p r fun d hd => h d (List.mem_cons_of_mem _ hd)]
theorem whole_mem {es : List Ent} {x e : Ent} (he : e ∈ es) (hp : e.1 ≠ x.1) : e ∈ wholeE es x := by
  have : e ∈ withoutE x.1 es := by unfold withoutE; rw [List.mem_filter]; exact ⟨he, by simpa using hp⟩
  rw [← List.take_append_drop (cntE x.2 (withoutE x.1 es)) (withoutE x.1 es)] at this
  unfold wholeE
  rw [List.mem_append] at this
  simp only [List.mem_append, List.mem_singleton]
  rcases this with h | h
  · exact .inl (.inl h)
  · exact .inr h
theorem unique_player {L : List Ent} {d e : Ent} (h : L.Pairwise (fun a b => a.1 ≠ b.1)) (hd : d ∈ L) (he : e ∈ L) (hp : d.1 = e.1) : d = e := by
  have h1 := score_mem h hd
  have h2 := score_mem h he
  rw [hp, h2] at h1
  exact Prod.ext hp h1.symm

theorem best_at {es : List Ent} {x : Ent} (hv : validE es = true) (hok : okE x = true) (hw : worseE es x = false) (hc : cntE x.2 (withoutE x.1 es) < 4) (e : Ent) (he : e ∈ es) :
    ¬ e.2 < scoreE e.1 (outE es x) ∧ (scoreE e.1 (outE es x) < 0 → ∀ d ∈ outE es x, d.2 ≤ e.2) := by
  have hge := Good.of hv
  have heb := okE_bd (hge.2.1 e he)
  have hxb := okE_bd hok
  have hwp := whole_players (x := x) hv
  have hws := whole_scores (x := x) hv
  have hop : (outE es x).Pairwise (fun a b => a.1 ≠ b.1) := hwp.sublist (List.take_sublist _ _)
  have hxo : x ∈ outE es x := List.mem_of_getElem? (out_find (es := es) (x := x) hc).2
  by_cases hp : e.1 = x.1
  · have hs : scoreE e.1 (outE es x) = x.2 := by rw [hp]; exact score_mem hop hxo
    have h1 := worse_score (x := x) hv
    rw [hw] at h1
    have h2 : scoreE x.1 es = e.2 := by rw [← hp]; exact score_mem hge.2.2.1 he
    rw [h2] at h1
    have h3 : ¬ e.2 ≤ x.2 := by
      intro hle
      simp [hle, heb.2.2.1] at h1
    rw [hs]
    exact ⟨by omega, fun h => by omega⟩
  · by_cases ho : e ∈ outE es x
    · rw [score_mem hop ho]
      exact ⟨by omega, fun h => by omega⟩
    · have hew := whole_mem he hp
      have hno : ∀ d ∈ outE es x, d.1 ≠ e.1 := by
        intro d hd hde
        have hdw : d ∈ wholeE es x := (List.take_sublist _ _).subset hd
        exact ho (unique_player hwp hdw hew hde ▸ hd)
      rw [score_no _ _ hno]
      refine ⟨by omega, fun _ d hd => ?_⟩
      rw [outE_whole] at hd ho
      rw [← List.take_append_drop 4 (wholeE es x)] at hws hew
      rw [List.pairwise_append] at hws
      rcases List.mem_append.1 hew with h | h
      · exact absurd h ho
      · exact hws.2.2 d hd e h
theorem out_more {es : List Ent} {x : Ent} (hv : validE es = true) : es.length ≤ (outE es x).length := by
  have h4 := validE_len hv
  rw [outE_lenEq]
  by_cases hf : 0 ≤ findE x.1 es 0
  · obtain ⟨k, e, hk, he, hp⟩ := findE_ok hf
    have hlt := (List.getElem?_eq_some_iff.1 he).1
    have : (withoutE x.1 es).length = es.length - 1 := by
      rw [without_at hv he hp, List.length_append, List.length_take, List.length_drop]; omega
    omega
  · rw [without_none (by omega)]
    omega
end Go.Proofs.Ytnfmlmkabioepaa

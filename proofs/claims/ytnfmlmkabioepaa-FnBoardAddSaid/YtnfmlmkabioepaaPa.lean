/-
  Plain words about boards: an added entry is on the board, the others stay but for the last one. No program in sight.
-/
import Derived.Test.YtnfmlmkabioepaaPq
namespace Go.Proofs.Ytnfmlmkabioepaa
open Go.RowKit Go.Sort

theorem without_id {p : Int} {L : List Ent} (h : ∀ e ∈ L, e.1 ≠ p) : withoutE p L = L := by
  unfold withoutE
  rw [List.filter_eq_self]
  intro e he
  simpa using h e he
theorem without_append (p : Int) (a b : List Ent) : withoutE p (a ++ b) = withoutE p a ++ withoutE p b := by simp [withoutE]
/-- the others on the board behind an entry that was added -/
theorem without_out {es : List Ent} {x : Ent} (hc : cntE x.2 (withoutE x.1 es) < 4) : withoutE x.1 (outE es x) = (withoutE x.1 es).take 3 := by
  have hx : ∀ e ∈ withoutE x.1 es, e.1 ≠ x.1 := findE_neg x.1 _ 0 (Int.le_refl _) (by rw [find_without]; omega)
  rw [out_split es x hc, without_append, without_id fun e he => hx e (List.mem_of_mem_take he)]
  have h1 : withoutE x.1 (x :: ((withoutE x.1 es).drop (cntE x.2 (withoutE x.1 es))).take (3 - cntE x.2 (withoutE x.1 es))) = ((withoutE x.1 es).drop (cntE x.2 (withoutE x.1 es))).take (3 - cntE x.2 (withoutE x.1 es)) := by
    rw [show ∀ r, withoutE x.1 (x :: r) = withoutE x.1 r from fun r => by unfold withoutE; rw [List.filter_cons, if_neg (by simp)]]
    exact without_id fun e he => hx e (List.mem_of_mem_drop (List.mem_of_mem_take he))
  rw [h1, show 3 = cntE x.2 (withoutE x.1 es) + (3 - cntE x.2 (withoutE x.1 es)) by omega, List.take_add]
  simp
theorem added_facts {es : List Ent} {x : Ent} (hv : validE es = true) (hc : cntE x.2 (withoutE x.1 es) < 4) :
    (withoutE x.1 (outE es x)).length ≤ (withoutE x.1 es).length ∧ (withoutE x.1 es).length ≤ (withoutE x.1 (outE es x)).length + 1 ∧ (withoutE x.1 es).take (withoutE x.1 (outE es x)).length = withoutE x.1 (outE es x) ∧ scoreE x.1 (outE es x) = x.2 := by
  have h4 := validE_len hv
  have hl : (withoutE x.1 es).length ≤ es.length := List.length_filter_le _ _
  have hm : (withoutE x.1 (outE es x)).length = min 3 (withoutE x.1 es).length := by rw [without_out hc, List.length_take]
  refine ⟨by omega, by omega, ?_, ?_⟩
  · rw [without_out hc, List.length_take]
    by_cases h : 3 ≤ (withoutE x.1 es).length
    · rw [Nat.min_eq_left h]
    · rw [Nat.min_eq_right (by omega), List.take_of_length_le (Nat.le_refl _), List.take_of_length_le (by omega)]
  · exact score_mem ((whole_players hv).sublist (List.take_sublist _ _)) (List.mem_of_getElem? (out_find hc).2)
end Go.Proofs.Ytnfmlmkabioepaa

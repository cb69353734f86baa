/-
  Plain words about boards: the board behind an entry that was added. No program in sight.
-/
import Derived.Test.YtnfmlmkabioepaaPb
namespace Go.Proofs.Ytnfmlmkabioepaa
open Go.RowKit Go.Sort

theorem take_cnt {s : Int} {es : List Ent} : ∀ e ∈ es.take (cntE s es), e.2 ≤ s := by
  intro e he
  obtain ⟨k, hk⟩ := List.mem_iff_getElem?.1 he
  rw [List.getElem?_take] at hk
  split at hk
  · exact cntE_get (by assumption) hk
  · cases hk
theorem drop_cnt {s : Int} : ∀ {es : List Ent}, es.Pairwise (fun a b => a.2 ≤ b.2) → ∀ e ∈ es.drop (cntE s es), s < e.2
  | [], _, e, he => by simp at he
  | d :: r, h, e, he => by
    rw [List.pairwise_cons] at h
    simp only [cntE] at he
    split at he
    · rw [List.drop_succ_cons] at he
      exact drop_cnt h.2 e he
    · rename_i hd
      rw [List.drop_zero] at he
      rcases List.mem_cons.1 he with rfl | hr
      · omega
      · have := h.1 e hr
        omega
/-- the whole list, before it is cut at four -/
def wholeE (es : List Ent) (x : Ent) : List Ent := (withoutE x.1 es).take (cntE x.2 (withoutE x.1 es)) ++ [x] ++ (withoutE x.1 es).drop (cntE x.2 (withoutE x.1 es))
theorem outE_whole (es : List Ent) (x : Ent) : outE es x = (wholeE es x).take 4 := rfl
theorem whole_players {es : List Ent} {x : Ent} (hv : validE es = true) : (wholeE es x).Pairwise (fun a b => a.1 ≠ b.1) := by
  obtain ⟨_, _, h3, _⟩ := Good.of (valid_without (p := x.1) hv)
  have hx : ∀ e ∈ withoutE x.1 es, e.1 ≠ x.1 := findE_neg x.1 _ 0 (Int.le_refl _) (by rw [find_without]; omega)
  have hp := h3
  rw [← List.take_append_drop (cntE x.2 (withoutE x.1 es)) (withoutE x.1 es), List.pairwise_append] at hp
  unfold wholeE
  rw [List.append_assoc, List.pairwise_append]
  refine ⟨hp.1, ?_, ?_⟩
  · rw [List.singleton_append, List.pairwise_cons]
    exact ⟨fun a ha => fun h => hx a (List.mem_of_mem_drop ha) h.symm, hp.2.1⟩
  · intro a ha b hb
    rw [List.singleton_append, List.mem_cons] at hb
    rcases hb with rfl | hb
    · exact hx a (List.mem_of_mem_take ha)
    · exact hp.2.2 a ha b hb
theorem whole_scores {es : List Ent} {x : Ent} (hv : validE es = true) : (wholeE es x).Pairwise (fun a b => a.2 ≤ b.2) := by
  obtain ⟨_, _, _, h4⟩ := Good.of (valid_without (p := x.1) hv)
  have hp := h4
  rw [← List.take_append_drop (cntE x.2 (withoutE x.1 es)) (withoutE x.1 es), List.pairwise_append] at hp
  unfold wholeE
  rw [List.append_assoc, List.pairwise_append]
  refine ⟨hp.1, ?_, ?_⟩
  · rw [List.singleton_append, List.pairwise_cons]
    exact ⟨fun a ha => Int.le_of_lt (drop_cnt h4 a ha), hp.2.1⟩
  · intro a ha b hb
    rw [List.singleton_append, List.mem_cons] at hb
    rcases hb with rfl | hb
    · exact take_cnt a ha
    · exact hp.2.2 a ha b hb
theorem out_valid {es : List Ent} {x : Ent} (hv : validE es = true) (hok : okE x = true) : validE (outE es x) = true := by
  have hs : (outE es x).Sublist (wholeE es x) := List.take_sublist _ _
  obtain ⟨_, h2, _, _⟩ := Good.of (valid_without (p := x.1) hv)
  refine Good.valid ⟨by rw [outE_whole, List.length_take]; omega, fun e he => ?_, (whole_players hv).sublist hs, (whole_scores hv).sublist hs⟩
  have := hs.subset he
  unfold wholeE at this
  simp only [List.mem_append, List.mem_singleton] at this
  rcases this with (h | rfl) | h
  · exact h2 e (List.mem_of_mem_take h)
  · exact hok
  · exact h2 e (List.mem_of_mem_drop h)
theorem findE_append_no (p : Int) : ∀ (a b : List Ent) (j : Int), (∀ e ∈ a, e.1 ≠ p) → findE p (a ++ b) j = findE p b (j + a.length)
  | [], b, j, _ => by simp
  | e :: a, b, j, h => by
    rw [List.cons_append, findE, if_neg (h e (List.mem_cons_self ..)), findE_append_no p a b (j + 1) fun e he => h e (List.mem_cons_of_mem _ he)]
    congr 1
    rw [List.length_cons]; push_cast; omega
theorem out_split (es : List Ent) (x : Ent) (hc : cntE x.2 (withoutE x.1 es) < 4) : outE es x = (withoutE x.1 es).take (cntE x.2 (withoutE x.1 es)) ++ x :: ((withoutE x.1 es).drop (cntE x.2 (withoutE x.1 es))).take (3 - cntE x.2 (withoutE x.1 es)) := by
  have hl := cntE_le x.2 (withoutE x.1 es)
  rw [outE_whole, wholeE, List.append_assoc, List.take_append, List.take_of_length_le (by rw [List.length_take]; omega)]
  congr 1
  rw [List.length_take, Nat.min_eq_left hl, List.singleton_append]
  rw [show 4 - cntE x.2 (withoutE x.1 es) = (3 - cntE x.2 (withoutE x.1 es)) + 1 by omega, List.take_succ_cons]
theorem out_find {es : List Ent} {x : Ent} (hc : cntE x.2 (withoutE x.1 es) < 4) : findE x.1 (outE es x) 0 = cntE x.2 (withoutE x.1 es) ∧ (outE es x)[cntE x.2 (withoutE x.1 es)]? = some x := by
  have hl := cntE_le x.2 (withoutE x.1 es)
  have hx : ∀ e ∈ withoutE x.1 es, e.1 ≠ x.1 := findE_neg x.1 _ 0 (Int.le_refl _) (by rw [find_without]; omega)
  have hlt : ((withoutE x.1 es).take (cntE x.2 (withoutE x.1 es))).length = cntE x.2 (withoutE x.1 es) := by rw [List.length_take, Nat.min_eq_left hl]
  rw [out_split es x hc]
  refine ⟨?_, ?_⟩
  · rw [findE_append_no _ _ _ _ fun e he => hx e (List.mem_of_mem_take he), findE, if_pos rfl, hlt]; simp
  · rw [List.getElem?_append_right (by omega), hlt, Nat.sub_self]; rfl
/-- the same player's entry again, at the same score or a worse one -/
theorem add_twice {es : List Ent} {x : Ent} (hv : validE es = true) (hok : okE x = true) (hc : cntE x.2 (withoutE x.1 es) < 4) (s : Int) (h1 : x.2 ≤ s) (h2 : s ≤ 60) : addE (outE es x) (x.1, s) = (outE es x, 1) := by
  obtain ⟨hf, hg⟩ := out_find (es := es) (x := x) hc
  have hb := okE_bd hok
  have ho : okE (x.1, s) = true := by simp [okE, inR]; omega
  have hw : worseE (outE es x) (x.1, s) = true := by
    simp [worseE, hf, hg]
    omega
  simp [addE, out_valid hv hok, ho, hw]
end Go.Proofs.Ytnfmlmkabioepaa

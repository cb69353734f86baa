/-
  Lemmas and contracts: Pd. No condition.
-/
import Derived.Test.YtemnlheidghbmaaGreatDoorKb26
namespace Go.Proofs.YtemnlheidghbmaaGreatDoor
open Go.RowKit Go.Sort
theorem wr_small {x : Int} (h1 : -100 ≤ x) (h2 : x ≤ 100) : wrap64 x = x := by unfold wrap64; omega
theorem code_small {s p : Int} (h1 : -1 ≤ s) (h2 : s ≤ 1) (h3 : 0 ≤ p) (h4 : p ≤ 2) : codeW ⟨s, p, false⟩ = 3 * p + s + 1 := by
 simp only [codeW, Bool.false_eq_true, if_false]
 rw [wr_small (x := 3 * p) (by omega) (by omega), wr_small (x := 3 * p + s) (by omega) (by omega), wr_small (by omega) (by omega)]
theorem inOf_code {x : Inp} (h : inOk x = true) : inOf (codeW x) = (x, true) ∧ inR (codeW x) 0 9 = true := by
 obtain ⟨s, p, z⟩ := x
 have hb := inOk_bd h
 simp only at hb
 obtain ⟨h1, h2, h3, h4⟩ := hb
 cases z
 ·rw [code_small h1 h2 h3 h4]
  have hr : inR (3 * p + s + 1) 0 9 = true := by simp [inR]; omega
  refine ⟨?_, hr⟩
  unfold inOf
  rw [if_pos hr, if_neg (by omega), show (3 * p + s + 1) % 3 - 1 = s by omega, show (3 * p + s + 1) / 3 = p by omega]
 ·simp [inOk] at h
  obtain ⟨_, rfl, rfl⟩ := h
  exact ⟨rfl, rfl⟩
theorem code_inOf {c : Int} (h : (inOf c).2 = true) : codeW (inOf c).1 = c ∧ inOk (inOf c).1 = true := by
 have hr : inR c 0 9 = true := by
  cases hc : inR c 0 9
  ·simp [inOf, hc] at h
  ·rfl
 refine ⟨?_, inOf_ok hr⟩
 have hr2 := hr
 simp [inR] at hr2
 unfold inOf
 rw [if_pos hr]
 by_cases h9 : c = 9
 ·rw [if_pos h9, h9]; rfl
 ·rw [if_neg h9, code_small (by omega) (by omega) (by omega) (by omega)]
  omega
inductive Spells : List Ent → List Inp → Prop
 | nil : Spells [] []
 | snoc {qs : List Ent} {ys : List Inp} {c : Int} {x : Inp} {m : Nat} (h : Spells qs ys) (hc : inOf c = (x, true)) (hm : 1 ≤ m) (hl : ∀ e, qs[qs.length - 1]? = some e → e.1 ≠ c) : Spells (qs ++ [(c, (m : Int))]) (ys ++ List.replicate m x)
theorem last_snoc (qs : List Ent) (e : Ent) : (qs ++ [e])[(qs ++ [e]).length - 1]? = some e := by simp
theorem step_same (qs : List Ent) (c m : Int) : partStep (qs ++ [(c, m)]) c = qs ++ [(c, wrap64 (m + 1))] := by
 unfold partStep
 rw [last_snoc]
 simp only [if_pos]
 rw [List.set_append_right _ _ (by simp)]
 simp
theorem step_new {qs : List Ent} {c : Int} (h : ∀ e, qs[qs.length - 1]? = some e → e.1 ≠ c) : partStep qs c = qs ++ [(c, 1)] := by
 unfold partStep
 split
 ·rename_i e he
  rw [if_neg (h e he)]
 ·rfl
theorem spells_step {ps : List Ent} {xs : List Inp} (h : Spells ps xs) {x : Inp} (hx : inOk x = true) (hn : xs.length ≤ 60) : Spells (partStep ps (codeW x)) (xs ++ [x]) := by
 obtain ⟨hi, _⟩ := inOf_code hx
 cases h with
 | nil => exact Spells.snoc (m := 1) Spells.nil hi (Nat.le_refl _) (by simp)
 | snoc h hc hm hl =>
  rename_i qs ys c y m
  by_cases e : c = codeW x
  ·subst e
   rw [step_same]
   rw [hi] at hc
   injection hc with hc
   subst hc
   have hm60 : m ≤ 60 := by simp at hn; omega
   have hw : wrap64 ((m : Int) + 1) = ((m + 1 : Nat) : Int) := by unfold wrap64; omega
   rw [hw, List.append_assoc, ← List.replicate_succ']
   exact Spells.snoc h hi (by omega) hl
  ·rw [step_new (by intro e' he'; rw [last_snoc] at he'; injection he' with he'; subst he'; exact e)]
   exact Spells.snoc (m := 1) (Spells.snoc h hc hm hl) hi (Nat.le_refl _) (by intro e' he'; rw [last_snoc] at he'; injection he' with he'; subst he'; exact e)
theorem parts_spell {xs : List Inp} (h : insOk xs = true) : ∀ k, k ≤ xs.length → Spells (partsW (xs.take k)) (xs.take k) := by
 intro k
 induction k with
 | zero => intro _; exact Spells.nil
 | succ k ih =>
  intro hk
  have hx := List.getElem?_eq_getElem (l := xs) (i := k) (by omega)
  simp only [insOk, Bool.and_eq_true, List.all_eq_true, decide_eq_true_eq] at h
  have hxo := h.1 _ (List.getElem_mem (l := xs) (n := k) (by omega))
  rw [partsW_succ hx, List.take_add_one, hx]
  exact spells_step (ih (by omega)) hxo (by rw [List.length_take]; omega)
theorem insGo_app : ∀ (ps : List Ent) (prev : Option Int) (acc xs : List Inp) (c : Int) (m : Nat) (x : Inp), insGo ps prev acc = (xs, true) → inOf c = (x, true) → 1 ≤ m → xs.length + m ≤ 60 → (∀ e, ps[ps.length - 1]? = some e → e.1 ≠ c) → (ps = [] → prev ≠ some c) →
  insGo (ps ++ [(c, (m : Int))]) prev acc = (xs ++ List.replicate m x, true)
 |[], prev, acc, xs, c, m, x, h, hc, hm, hl, _, hp => by
  simp only [insGo, Prod.mk.injEq, and_true] at h
  subst h
  rw [List.nil_append, insGo, if_neg]
  ·rw [insGo, hc]; simp
  ·intro hb
   rcases hb with hb | hb | hb
   ·rw [hc] at hb; cases hb
   ·exact hb (by simp only; omega)
   ·exact hp rfl hb
 |e :: r, prev, acc, xs, c, m, x, h, hc, hm, hl, hlast, _ => by
  rw [insGo] at h
  split at h
  ·cases h
  ·rename_i hb
   rw [List.cons_append, insGo, if_neg hb]
   refine insGo_app r _ _ xs c m x h hc hm hl ?_ ?_
   ·intro e' he'
    cases r with
    | nil => simp at he'
    | cons a t => exact hlast e' (by simpa using he')
   ·intro hr
    subst hr
    intro hp
    injection hp with hp
    exact hlast e (by simp) hp
theorem spells_ins {ps : List Ent} {xs : List Inp} (h : Spells ps xs) (hn : xs.length ≤ 60) : insW ps = (xs, true) := by
 induction h with
 | nil => rfl
 | snoc h hc hm hl ih =>
  simp at hn
  exact insGo_app _ none [] _ _ _ _ (ih (by omega)) hc hm hn hl (fun _ => by simp)
theorem parts_ins {xs : List Inp} (h : insOk xs = true) : insW (partsW xs) = (xs, true) := by
 have h2 := parts_spell h xs.length (Nat.le_refl _)
 rw [List.take_length] at h2
 simp only [insOk, Bool.and_eq_true, decide_eq_true_eq] at h
 exact spells_ins h2 (by omega)
end Go.Proofs.YtemnlheidghbmaaGreatDoor

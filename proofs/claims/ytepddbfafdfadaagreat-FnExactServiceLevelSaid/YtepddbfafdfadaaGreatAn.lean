/-
  A region that draws its order, by an invariant: what holds of the operations that have come up so far. One proof for each operation, none for each order. No condition: lemmas over any program.
-/
import Derived.Test.YtepddbfafdfadaaGreatMem
namespace Go.Proofs.YtepddbfafdfadaaGreat
open Go.RowKit Go.Sort

section
variable {P : Program} {ops : Array Oper} {Q : Exit → Act → World → Prop}
/-- every operation waits for earlier ones alone -/
def topoB (ops : Array Oper) : Bool := (List.range ops.size).all fun i => ((ops[i]?).map fun o => o.after.all fun e => !Region.binds .any e || decide (e.on < i)).getD true
def left_ (n : Nat) (listed : Array Bool) : Nat := (List.range n).countP fun i => !listed.getD i true

theorem getD_set_self {listed : Array Bool} {i : Nat} (h : i < listed.size) (d : Bool) : (listed.setIfInBounds i true).getD i d = true := by
  simp [Array.getD_eq_getD_getElem?, h]
theorem getD_set_other {listed : Array Bool} {i j : Nat} (h : i ≠ j) (d : Bool) : (listed.setIfInBounds i true).getD j d = listed.getD j d := by
  simp [Array.getD_eq_getD_getElem?, Array.getElem?_setIfInBounds_ne h]
theorem getD_any {listed : Array Bool} {i : Nat} (h : i < listed.size) (d e : Bool) : listed.getD i d = listed.getD i e := by
  simp [Array.getD_eq_getD_getElem?, h]

theorem left_set (n i : Nat) (listed : Array Bool) (hn : n ≤ listed.size) (hi : i < n) (hl : listed.getD i true = false) : left_ n listed = left_ n (listed.setIfInBounds i true) + 1 := by
  induction n with
  | zero => omega
  | succ n ih =>
    unfold left_ at *
    rw [List.range_succ, List.countP_append, List.countP_append]
    by_cases h : i = n
    · subst h
      have e1 : (List.range i).countP (fun j => !listed.getD j true) = (List.range i).countP (fun j => !(listed.setIfInBounds i true).getD j true) := by
        apply List.countP_congr
        intro j hj
        have := List.mem_range.1 hj
        rw [getD_set_other (by omega)]
      rw [e1]
      rw [List.countP_singleton, List.countP_singleton, hl, getD_set_self (show i < listed.size by omega) true]
      simp
    · have e1 := ih (by omega) (by omega)
      rw [e1]
      have e2 : (listed.setIfInBounds i true).getD n true = listed.getD n true := getD_set_other h true
      simp only [List.countP_singleton, e2]
      omega
theorem left_zero {n : Nat} {listed : Array Bool} (h : left_ n listed = 0) : ∀ i, i < n → listed.getD i true = true := by
  intro i hi
  have := List.countP_eq_zero.1 h i (List.mem_range.2 hi)
  simpa using this
theorem ready_nil_all (ht : topoB ops = true) {listed : Array Bool} (hr : Region.ready .any ops listed = []) : ∀ i, i < ops.size → listed.getD i true = true := by
  intro i
  induction i using Nat.strongRecOn with
  | ind i ih =>
    intro hi
    cases hl : listed.getD i true with
    | true => rfl
    | false =>
      exfalso
      have hm : i ∈ Region.ready .any ops listed := by
        rw [mem_ready]
        refine ⟨hl, ops[i], Array.getElem?_eq_getElem hi, fun e he hbe => ?_⟩
        have h1 := List.all_eq_true.1 ht i (List.mem_range.2 hi)
        rw [Array.getElem?_eq_getElem hi] at h1
        simp only [Option.map_some, Option.getD_some] at h1
        have h2 : e.on < i := by
          rw [Array.all_eq_true] at h1
          obtain ⟨k, hk, rfl⟩ := Array.mem_iff_getElem.1 he
          simpa [hbe] using h1 k hk
        have h3 := ih e.on h2 (by omega)
        rcases Nat.lt_or_ge e.on listed.size with h4 | h4
        · rw [getD_any h4 false true]; exact h3
        · exfalso
          have : listed.getD i true = true := by simp [Array.getD_eq_getD_getElem?, Array.getElem?_eq_none (show listed.size ≤ i by omega)]
          rw [hl] at this
          cases this
      rw [hr] at hm
      cases hm

theorem wpAny_inv (ht : topoB ops = true) (R : Array Bool → Act → World → Prop)
    (step : ∀ (listed : Array Bool) (a : Act) (w : World) (i : Nat) (o : Oper), listed.size = ops.size → ops[i]? = some o → listed.getD i true = false → (∀ e ∈ o.after, Region.binds .any e = true → listed.getD e.on false = true) → R listed a w →
      ∀ K : Act → World → Prop, (∀ a' w', R (listed.setIfInBounds i true) a' w' → K a' w') → if Region.wanted o (yielded ops a.tmps) = true then Oper.wp P o a w K Q else K (a.put o.dst undef) w)
    (fin : ∀ (listed : Array Bool) (a : Act) (w : World), (∀ i, i < ops.size → listed.getD i true = true) → R listed a w → Q .normal a w) :
    ∀ (fuel : Nat) (listed : Array Bool) (a : Act) (w : World), listed.size = ops.size → left_ ops.size listed = fuel → R listed a w → wpAny P .any ops Q fuel listed a w := by
  intro fuel
  induction fuel with
  | zero =>
    intro listed a w _ hc hR
    have hall := left_zero hc
    refine ⟨?_, fin _ _ _ hall hR⟩
    rw [List.eq_nil_iff_forall_not_mem]
    intro j hj
    obtain ⟨h1, o, h2, _⟩ := mem_ready.1 hj
    rw [hall j (Array.getElem?_eq_some_iff.1 h2).1] at h1
    cases h1
  | succ fuel ih =>
    intro listed a w hs hc hR
    refine ⟨fun hr => fin _ _ _ (ready_nil_all ht hr) hR, fun i hi => ?_⟩
    obtain ⟨h1, o, h2, h3⟩ := mem_ready.1 hi
    refine wpOp_step h2 fun K' hK => ?_
    refine step listed a w i o hs h2 h1 h3 hR K' fun a' w' hR' => hK _ _ (ih _ _ _ (by simpa using hs) ?_ hR')
    have hlt := (Array.getElem?_eq_some_iff.1 h2).1
    have := left_set ops.size i listed (by omega) hlt h1
    omega

theorem wp_region_inv {id : Nat} {a : Act} {w : World} (hm : P.follows .mixedOrders = true) (ht : topoB ops = true) (R : Array Bool → Act → World → Prop)
    (start : R (Array.replicate ops.size false) a w.drew)
    (step : ∀ (listed : Array Bool) (a : Act) (w : World) (i : Nat) (o : Oper), listed.size = ops.size → ops[i]? = some o → listed.getD i true = false → (∀ e ∈ o.after, Region.binds .any e = true → listed.getD e.on false = true) → R listed a w →
      ∀ K : Act → World → Prop, (∀ a' w', R (listed.setIfInBounds i true) a' w' → K a' w') → if Region.wanted o (yielded ops a.tmps) = true then Oper.wp P o a w K Q else K (a.put o.dst undef) w)
    (fin : ∀ (listed : Array Bool) (a : Act) (w : World), (∀ i, i < ops.size → listed.getD i true = true) → R listed a w → Q .normal a w) :
    (Code.region id ops true).wp P Q a w := by
  refine wp_region_any hm (wpAny_inv ht R step fin _ _ _ _ (by simp) ?_ start)
  unfold left_
  have : (List.range ops.size).countP (fun i => !(Array.replicate ops.size false).getD i true) = (List.range ops.size).countP (fun _ => true) := by
    apply List.countP_congr
    intro j hj
    have := List.mem_range.1 hj
    simp [Array.getD_eq_getD_getElem?, this]
  rw [this]
  simp
/-- what has come up, has what it waits for behind it -/
def Closed (ops : Array Oper) (listed : Array Bool) : Prop :=
  ∀ (i : Nat) (o : Oper), ops[i]? = some o → listed.getD i false = true → ∀ e ∈ o.after, Region.binds .any e = true → listed.getD e.on false = true
theorem Closed.set_ {listed : Array Bool} {i : Nat} {o : Oper} (h : Closed ops listed) (hs : listed.size = ops.size) (ho : ops[i]? = some o) (hd : ∀ e ∈ o.after, Region.binds .any e = true → listed.getD e.on false = true) : Closed ops (listed.setIfInBounds i true) := by
  have hi : i < listed.size := by rw [hs]; exact (Array.getElem?_eq_some_iff.1 ho).1
  have keep : ∀ j, listed.getD j false = true → (listed.setIfInBounds i true).getD j false = true := fun j hj => by
    by_cases e : i = j
    · subst e; exact getD_set_self hi false
    · rw [getD_set_other e]; exact hj
  intro j oj hoj hj e he hb
  by_cases hij : i = j
  · subst hij
    rw [ho] at hoj
    injection hoj with hoj
    subst hoj
    exact keep _ (hd e he hb)
  · rw [getD_set_other hij] at hj
    exact keep _ (h j oj hoj hj e he hb)
theorem wp_region_inv2 {id : Nat} {a : Act} {w : World} (hm : P.follows .mixedOrders = true) (ht : topoB ops = true) (R : Array Bool → Act → World → Prop)
    (start : R (Array.replicate ops.size false) a w.drew)
    (step : ∀ (listed : Array Bool) (a : Act) (w : World) (i : Nat) (o : Oper), listed.size = ops.size → Closed ops listed → ops[i]? = some o → listed.getD i true = false → (∀ e ∈ o.after, Region.binds .any e = true → listed.getD e.on false = true) → R listed a w →
      ∀ K : Act → World → Prop, (∀ a' w', R (listed.setIfInBounds i true) a' w' → K a' w') → if Region.wanted o (yielded ops a.tmps) = true then Oper.wp P o a w K Q else K (a.put o.dst undef) w)
    (fin : ∀ (listed : Array Bool) (a : Act) (w : World), (∀ i, i < ops.size → listed.getD i true = true) → R listed a w → Q .normal a w) :
    (Code.region id ops true).wp P Q a w :=
  wp_region_inv hm ht (fun listed a w => R listed a w ∧ Closed ops listed)
    ⟨start, fun i o ho hi => by
      have hlt := (Array.getElem?_eq_some_iff.1 ho).1
      simp [Array.getD_eq_getD_getElem?, hlt] at hi⟩
    (fun listed a w i o hs ho hl hd hR K hK => step listed a w i o hs hR.2 ho hl hd hR.1 K fun a' w' h => hK a' w' ⟨h, hR.2.set_ hs ho hd⟩)
    (fun listed a w hall hR => fin listed a w hall hR.1)
end
end Go.Proofs.YtepddbfafdfadaaGreat

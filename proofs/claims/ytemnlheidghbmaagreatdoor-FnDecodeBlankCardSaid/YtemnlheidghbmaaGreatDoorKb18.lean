/-
  Lemmas and contracts: Gl. No condition.
-/
import Derived.Test.YtemnlheidghbmaaGreatDoorKb8
namespace Go.Proofs.YtemnlheidghbmaaGreatDoor
open Go.RowKit Go.Sort
def updB (l : Nat → Bool) (i : Nat) : Nat → Bool := fun j => if j = i then true else l j
theorem updB_set {listed : Array Bool} {i : Nat} (h : i < listed.size) : updB (fun j => listed.getD j false) i = fun j => (listed.setIfInBounds i true).getD j false := by
 funext j
 unfold updB
 by_cases e : j = i
 ·subst e; rw [if_pos rfl, getD_set_self h]
 ·rw [if_neg e, getD_set_other (fun h => e h.symm)]
section
variable {P : Program} {ops : Array Oper} {Q : Exit → Act → World → Prop}
theorem wpAny_growl {n : Nat} (ht : topoB ops = true) (hs : Region.sinkB .any ops n = true) (hc : Region.chainB .any ops n = true) (hn : n < ops.size)
  (hq : Region.lexHead .any ops (ops.size - n) n 0 (Array.replicate ops.size false) = true)
  (G : World → World → Prop) (J : (Nat → Bool) → World → Prop) (φ : Nat → Value → World → Prop) (mk : (Nat → Value) → Act)
  (mono : ∀ i v w w', G w w' → φ i v w → φ i v w')
  (step : ∀ (lq : Nat → Bool) (s : Nat → Value) (w : World) (i : Nat) (o : Oper), lq i = false → i < n → ops[i]? = some o → J lq w → (∀ j, waits o j = true → j < n → lq j = true ∧ φ j (s j) w) →
   ∀ K : Act → World → Prop, (∀ v w', G w w' → J (updB lq i) w' → φ i v w' → K (mk (updV s i v)) w') → if Region.wanted o (yielded ops (mk s).tmps) = true then Oper.wp P o (mk s) w K Q else K ((mk s).put o.dst undef) w)
  (tail : ∀ (s : Nat → Value) (w : World), (∃ lq, (∀ j, j < n → lq j = true) ∧ J lq w) → (∀ j, j < n → φ j (s j) w) → wpList P ops Q (ops.toList.drop n) (mk s) w) :
  ∀ (f m : Nat) (listed : Array Bool) (s : Nat → Value) (w : World), HeadInv .any ops n listed → left_ n listed = f → m + f = n → J (fun j => listed.getD j false) w → (∀ j, j < n → listed.getD j false = true → φ j (s j) w) →
   wpAny P .any ops Q (f + (ops.size - n)) listed (mk s) w := by
 intro f
 induction f with
 | zero =>
  intro m listed s w inv hl hm hJ hφ
  have hall := left_zero hl
  rw [Nat.zero_add]
  have hseq : Region.seqB .any ops (ops.size - n) n listed = true := by
   have := seq_of_head (ops := ops) (g := ops.size - n) n 0 (Array.replicate ops.size false) listed hq (by simp; omega) (by simpa using inv.size) (fun j _ h => hall j (by omega)) (fun j h => by
    by_cases hj : j < ops.size
    ·rw [inv.tail j (by omega) hj]
     simp [Array.getD_eq_getD_getElem?, hj]
    ·have h3 : listed.size ≤ j := by rw [inv.size]; omega
     simp [Array.getD_eq_getD_getElem?, Array.getElem?_eq_none h3, hj])
   simpa using this
  have hlen : (ops.toList.drop n).length = ops.size - n := by simp
  have := wpAny_of_seq (md := .any) (Q' := Q) (P := P) (ops := ops) (ops.toList.drop n) n listed (mk s) w (fun j => by simp [List.getElem?_drop]) (by rw [hlen]; exact hseq) (tail s w ⟨_, fun j hj => by
   have := hall j hj
   have hjs : j < listed.size := by rw [inv.size]; omega
   rw [getD_any hjs false true]
   exact this, hJ⟩ (fun j hj => hφ j hj (by
   have := hall j hj
   have hjs : j < listed.size := by rw [inv.size]; omega
   rw [getD_any hjs false true]
   exact this)))
  rwa [hlen] at this
 | succ f ih =>
  intro m listed s w inv hl hm hJ hφ
  have hsz := inv.size
  have hex : ∃ i, i < n ∧ listed.getD i true = false := by
   apply Classical.byContradiction
   intro hno
   have h0 : left_ n listed = 0 := by
    unfold left_
    rw [List.countP_eq_zero]
    intro j hj
    have hjn := List.mem_range.1 hj
    cases h : listed.getD j true with
    | true => simp
    | false => exact absurd ⟨j, hjn, h⟩ hno
   omega
  obtain ⟨i0, hi0, hu0⟩ := hex
  rw [show f + 1 + (ops.size - n) = (f + (ops.size - n)) + 1 by omega]
  refine ⟨fun hr => ?_, fun i hi => ?_⟩
  ·have := ready_nil_all ht hr i0 (by omega)
   rw [hu0] at this
   cases this
  ·have hin : i < n := by
    by_cases h : i < n
    ·exact h
    ·exact absurd hi (tail_waits hs hc hn inv _ i0 rfl hi0 hu0 i (by omega))
   obtain ⟨h1, o, h2, h3⟩ := mem_ready.1 hi
   refine wpOp_step h2 fun K' hK => ?_
   refine step _ s w i o (by rw [getD_any (by rw [hsz]; omega) false true]; exact h1) hin h2 hJ (fun j hw hj => ?_) K' (fun v w' hG hJ' hv => hK _ _ ?_)
   ·unfold waits at hw
    obtain ⟨e, he, hb⟩ := Array.any_eq_true'.1 hw
    simp only [Bool.and_eq_true, beq_iff_eq] at hb
    have := h3 e he hb.1
    rw [hb.2] at this
    exact ⟨this, hφ j hj this⟩
   ·refine ih (m + 1) _ (updV s i v) w' (inv.set hi hin) ?_ (by omega) (by rw [updB_set (by rw [hsz]; omega)] at hJ'; exact hJ') (fun j hj hlj => ?_)
    ·have := left_set n i listed (by omega) hin h1
     omega
    ·unfold updV
     by_cases e : j = i
     ·subst e; rw [if_pos rfl]; exact hv
     ·rw [if_neg e]
      rw [getD_set_other (fun h => e h.symm)] at hlj
      exact mono _ _ _ _ hG (hφ j hj hlj)
theorem wp_region_growl {id : Nat} {w : World} {l : List Oper} (n : Nat) (hm : P.follows .mixedOrders = true) (ht : topoB l.toArray = true) (hB : Region.lexTailB .any l.toArray n = true)
  (G : World → World → Prop) (J : (Nat → Bool) → World → Prop) (φ : Nat → Value → World → Prop) (mk : (Nat → Value) → Act) (s0 : Nat → Value)
  (mono : ∀ i v w w', G w w' → φ i v w → φ i v w')
  (start : J (fun _ => false) w.drew)
  (step : ∀ (lq : Nat → Bool) (s : Nat → Value) (w : World) (i : Nat) (o : Oper), lq i = false → i < n → l[i]? = some o → J lq w → (∀ j, waits o j = true → j < n → lq j = true ∧ φ j (s j) w) →
   ∀ K : Act → World → Prop, (∀ v w', G w w' → J (updB lq i) w' → φ i v w' → K (mk (updV s i v)) w') → if Region.wanted o (yielded l.toArray (mk s).tmps) = true then Oper.wp P o (mk s) w K Q else K ((mk s).put o.dst undef) w)
  (tail : ∀ (s : Nat → Value) (w : World), (∃ lq, (∀ j, j < n → lq j = true) ∧ J lq w) → (∀ j, j < n → φ j (s j) w) → wpList P l.toArray Q (l.drop n) (mk s) w) :
  (Code.region id l.toArray true).wp P Q (mk s0) w := by
 simp only [Region.lexTailB, Bool.and_eq_true, decide_eq_true_eq] at hB
 obtain ⟨⟨⟨⟨hsel, hn⟩, hs⟩, hc⟩, hlex⟩ := hB
 refine wp_region_any hm ?_
 have inv0 : HeadInv .any l.toArray n (Array.replicate l.toArray.size false) := by
  refine ⟨by simp, fun j oj _ hl => ?_, fun t _ hts => getD_in (by simpa using hts) (getD_replicate_false _ _)⟩
  rw [getD_replicate_false] at hl
  cases hl
 have hl0 : left_ n (Array.replicate l.toArray.size false) = n := by
  unfold left_
  have : (List.range n).countP (fun i => !(Array.replicate l.toArray.size false).getD i true) = (List.range n).countP (fun _ => true) := by
   apply List.countP_congr
   intro j hj
   have := List.mem_range.1 hj
   simp [Array.getD_eq_getD_getElem?, show j < l.length by simp at hn; omega]
  rw [this]
  simp
 have H := wpAny_growl (P := P) (Q := Q) ht hs hc hn hlex G J φ mk mono (fun m s w i o a b c => step m s w i o a b (by simpa using c)) (fun s w a b => by simpa using tail s w a b) n 0 _ s0 w.drew inv0 hl0 (by omega) (by rw [show (fun j => (Array.replicate l.toArray.size false).getD j false) = fun _ => false from funext fun j => getD_replicate_false _ _]; exact start) (fun j _ h => by rw [getD_replicate_false] at h; cases h)
 rw [show n + (l.toArray.size - n) = l.toArray.size by omega] at H
 exact H
end
end Go.Proofs.YtemnlheidghbmaaGreatDoor

/-
  Lemmas and contracts: Lo Pj. No condition.
-/
import Derived.Test.YtemnlheidghbmaaGreatDoorChecked
import Derived.Conc.Holds
import Derived.Handed
import Derived.SevenTiedAt
import Derived.Stop.LaidErr
import Derived.Lib.LaidTab
import Derived.Shelf.Vars
import Derived.Test.YtemnlheidghbmaaGreatDoorKb29
namespace Go.Proofs.YtemnlheidghbmaaGreatDoor
open Go Go.RowKit
theorem leaving_of_alone {P : Program} (last : Machine) (w : World) (t : Trace) (h : aloneAtReturn P last w t) : leavingAtReturn P last w t := by
 obtain ⟨⟨h1, h2⟩, h3, h4⟩ := h
 refine ⟨h3, ⟨?_, h2⟩, h4⟩
 intro g hg
 refine ⟨0, ?_⟩
 unfold Machine.othersDone at h1
 have h5 := List.all_eq_true.1 h1 g hg
 show g.status = .finished
 cases hs : g.status <;> rw [hs] at h5 <;> first | rfl | cases h5
section
variable {H : Type} {enc : TypeId × Value → H}
theorem leaving_of_change {a : Assume} {C : Checked} {os : Os} {f : FuncId} {fn : Func} {s : ChangeSpec} {conds : List PathCond} {apart fresh handsOn again : Bool} {X : World → Array Value → Prop}
  (hX : ∀ (w w' : World) (args : Array Value), w.heap = w'.heap → X w args → X w' args)
  (own : ownKnob C.prog.godebug = none) (started : os.Started) (noInit : C.prog.inits.idxOf? f = none) (hfn : C.prog.funcs[f]? = some fn)
  (witness : ∃ (w : World) (tape : Tape) (i : Input), w.os = os ∧ (w.forCall tape i).Shaped C.prog ∧ i.vars = [] ∧ Input.okWide C.prog (w.forCall tape i) .any w.heap.size f i ∧
   ((s.pre enc C.prog fn conds apart (w.forCall tape i).memory i.args ∧ X (w.forCall tape i).memory i.args) ∧ sizedMet enc C.prog fn (OpenSpec.ofChange s) apart (w.forCall tape i).memory i.args) ∧ a.holds C.prog (lone (Frame.enter C.prog f i.args .normal) [] (w.forCall tape i)))
  (contract : ∀ (W : World) (base : Nat) (args : Array Value) (ds gs : List (DataW H)) (before : List MemPlace),
   (∀ (j : Nat) t v, fn.params[j]? = some t → args[j]? = some v → Value.okWide C.prog W .any base t v) →
   DataW.Whole enc C.prog fn.params.toList s.vars apart W args.toList ds gs before →
   X W args → W.ShapedOpen C.prog →
   Calls C.prog f args W fun e W' => ∃ v, e = .returned v ∧ s.post enc C.prog fn apart fresh handsOn again W args v W') :
  ReturnsInLeavingWide a C os f .any (fun w args => (s.pre enc C.prog fn conds apart w args ∧ X w args) ∧ sizedMet enc C.prog fn (OpenSpec.ofChange s) apart w args) (s.post enc C.prog fn apart fresh handsOn again) := by
 intro enter
 refine ReturnsInOpen.mono (fun m w t h => leaving_of_alone m w t h) (fun _ h => h) (returnsInHanded_of_calls own started noInit witness ?_ enter)
 intro w tape i _ hsh _ hok hpre hholds
 obtain ⟨_, _, _, fn', hfn', _, _, _, _, hval⟩ := hok
 have e : fn' = fn := Option.some.inj (hfn'.symm.trans hfn)
 subst e
 obtain ⟨⟨⟨ds, gs, before, hw, hc⟩, hx⟩, hz⟩ := hpre
 have hw' := DataW.Whole.of_heap (w' := w.forCall tape i) (by rfl) hw
 refine (contract (w.forCall tape i) w.heap.size i.args ds gs before hval hw' (hX _ _ _ (by rfl) hx) hsh).mono fun e W' ⟨v, he, hp⟩ => ?_
 subst he
 exact ChangeSpec.post_blind hp
end
theorem holds_tied_goes_at (Lk : Looks) {p : Pinned} {s : OpenSpec} {c : OpenClaim} (kinds : List LaidKind) (tests : Bool) (har : Bool × String) (lk : Bool)
  (hc : c.holds p s) (hw : c.wfByText s = true)
  (htie : c.laidByTextAt Lk p kinds tests)
  (hst : c.start = .entering) (hnb : c.noBlocks = false ∧ c.again = false) (hm : p.checked.prog.mainIs = some (har.1, har.2.toList)) (hn : (!har.1 && har.2.isEmpty && !lk) = false)
  (hl : ∀ f fn, p.checked.prog.funcNamed c.func = some f → p.checked.prog.funcs[f]? = some fn → lk = p.checked.prog.looks [] ∧ ∀ (j : Nat) t, fn.params[j]? = some t → p.checked.prog.wantsStandIn t = false)
  (hg : true = c.goesBy p.checked.prog) :
  Claim7.holds p (.plain s) { stood := { row := c, standIns := [], harness := har, looks := lk }, kinds := [], alts := [], goes := true, laidByText := true, laidKinds := kinds, laidTests := tests, laidLooks := Lk } := by
 have h6 : ∀ r : OpenClaim, Claim7.isSixth { stood := { row := r, standIns := [], harness := har, looks := lk }, kinds := [] } = false := fun r => by simpa [Claim7.isSixth] using hn
 refine ⟨Claim7.tied_new_at Lk kinds tests (Claim7.new_of_sixth hc har lk hst hnb hm (h6 c) hl) hw, (fun D hD => by cases hD), htie, (fun h => by cases h), hg⟩
end Go.Proofs.YtemnlheidghbmaaGreatDoor
namespace Go.Proofs.YtemnlheidghbmaaGreatDoor
open Go.RowKit Go.Sort
theorem body_cnt {w : ByteArray} (h : (10 : UInt8) ∉ toL w) (zs : List Int) : (toL (bodyB w zs)).count 10 = 0 := List.count_eq_zero.2 (body_no h zs)
theorem enc_X (r : Rep) : ∃ X : List UInt8, toL (encW r) = X ++ [10] ∧ X.count 10 = 3 := by
 refine ⟨toL (bodyB sW1 [r.lv, r.pl, r.sc]) ++ 10 :: (toL (bodyB sW2 (flatP (partsW r.ins))) ++ 10 :: (toL (bodyB sW3 r.hs) ++ 10 :: toL (bodyB sW4 [r.tag]))), by rw [enc_L]; simp, ?_⟩
 simp only [List.count_append, List.count_cons_self, body_cnt (w := sW1) (by decide), body_cnt (w := sW2) (by decide), body_cnt (w := sW3) (by decide), body_cnt (w := sW4) (by decide)]
theorem enc_cnt (r : Rep) : (toL (encW r)).count 10 = 4 := by
 obtain ⟨X, h1, h2⟩ := enc_X r
 rw [h1, List.count_append, h2]
 rfl
theorem cut_no (r : Rep) {k : Nat} (hk : k < (encW r).size) : (decW ((encW r).extract 0 k)).2 = false := by
 cases h : (decW ((encW r).extract 0 k)).2 with
 | false => rfl
 | true =>
  exfalso
  obtain ⟨_, he⟩ := enc_dec (r := (decW ((encW r).extract 0 k)).1) (Prod.ext rfl h)
  obtain ⟨X, h1, h2⟩ := enc_X r
  have hc := enc_cnt (decW ((encW r).extract 0 k)).1
  rw [← he, toL_extract] at hc
  have hl : (toL (encW r)).length = X.length + 1 := by rw [h1]; simp
  rw [toL_len] at hl
  have ht : ((toL (encW r)).drop 0).take (k - 0) = X.take k := by
   rw [List.drop_zero, Nat.sub_zero, h1, List.take_append_of_le_length (by omega)]
  rw [ht] at hc
  have := (List.take_sublist k X).count_le (10 : UInt8)
  omega
theorem more_no (r : Rep) : (decW (encW r ++ ⟨#[10]⟩)).2 = false := by
 generalize hS : encW r ++ (⟨#[10]⟩ : ByteArray) = s
 cases h : (decW s).2 with
 | false => rfl
 | true =>
  exfalso
  obtain ⟨_, he⟩ := enc_dec (r := (decW s).1) (Prod.ext rfl h)
  have hc := enc_cnt (decW s).1
  rw [← he, ← hS, toL_append, List.count_append, enc_cnt] at hc
  have : (toL (⟨#[10]⟩ : ByteArray)).count 10 = 1 := rfl
  omega
def nb : List UInt8 → Bool
 | x :: y :: l => !(x == 32 && y == 10) && nb (y :: l)
 | _ => true
theorem nb_no : ∀ (a b : List UInt8), nb (a ++ 32 :: 10 :: b) = false
 | [], b => by simp [nb]
 | [x], b => by simp [nb]
 |x :: y :: a, b => by
  have := nb_no (y :: a) b
  simp only [List.cons_append] at this ⊢
  simp only [nb, this, Bool.and_false]
theorem nb_app : ∀ (a rest : List UInt8), (10 : UInt8) ∉ a → (∀ l x, a = l ++ [x] → x ≠ 32) → nb rest = true → nb (a ++ 10 :: rest) = true
 |[], rest, _, _, hr => by
  cases rest with
  | nil => rfl
  | cons y l => simp only [List.nil_append, nb, hr, Bool.and_true]; rfl
 |[x], rest, hn, hl, hr => by
  have hx : x ≠ 32 := hl [] x rfl
  have := nb_app [] rest (by simp) (fun l x h => by simp at h) hr
  simp only [List.nil_append] at this
  simp only [List.cons_append, List.nil_append, nb, this, Bool.and_true]
  simp [hx]
 |x :: y :: a, rest, hn, hl, hr => by
  have hy : y ≠ 10 := fun h => hn (by simp [h])
  have := nb_app (y :: a) rest (fun h => hn (List.mem_cons_of_mem _ h)) (fun l z h => hl (x :: l) z (by rw [h]; rfl)) hr
  simp only [List.cons_append] at this ⊢
  simp only [nb, this, Bool.and_true]
  simp [hy]
theorem last_app {a b : List UInt8} (hb : b ≠ []) (h : ∀ l x, b = l ++ [x] → x ≠ 32) : ∀ l x, a ++ b = l ++ [x] → x ≠ 32 := by
 intro l x he
 obtain ⟨l', y, rfl⟩ : ∃ l' y, b = l' ++ [y] := by
  obtain ⟨l', y, e⟩ := (List.eq_nil_or_concat b).resolve_left hb
  exact ⟨l', y, by rw [e, List.concat_eq_append]⟩
 have hxy : y = x := by
  have h2 : (a ++ (l' ++ [y])).getLast? = (l ++ [x]).getLast? := by rw [he]
  rw [← List.append_assoc] at h2
  simpa using h2
 subst hxy
 exact h l' y rfl
theorem last_of {b : List UInt8} (h : (32 : UInt8) ∉ b) : ∀ l x, b = l ++ [x] → x ≠ 32 := fun l x he hx => h (by rw [he, hx]; simp)
theorem decN_ne (n : Nat) : toL (decN n) ≠ [] := by
 by_cases h : n < 10
 ·rw [decN_small h, toL_dig h]; simp
 ·rw [decN_big h, toL_append, toL_dig (Nat.mod_lt _ (by omega))]; simp
theorem nums_last : ∀ zs : List Int, zs ≠ [] → toL (numsW zs) ≠ [] ∧ ∀ l x, toL (numsW zs) = l ++ [x] → x ≠ 32
 | [], h => absurd rfl h
 |z :: zs, _ => by
  rw [nums_cons]
  refine ⟨by simp, ?_⟩
  have hd : toL (decZ z) ≠ [] := decN_ne _
  have hd2 : ∀ l x, toL (decZ z) = l ++ [x] → x ≠ 32 := last_of (dec_no (by decide))
  cases zs with
  | nil =>
   have : toL (numsW []) = [] := by simp [numsW, toL]
   rw [this, List.append_nil]
   exact last_app (a := [32]) hd hd2
  | cons y ys =>
   obtain ⟨h1, h2⟩ := nums_last (y :: ys) (by simp)
   rw [← List.cons_append]
   exact last_app (a := 32 :: toL (decZ z)) h1 h2
theorem body_last {w : ByteArray} (h : (32 : UInt8) ∉ toL w) (zs : List Int) : ∀ l x, toL (bodyB w zs) = l ++ [x] → x ≠ 32 := by
 unfold bodyB
 rw [toL_append]
 by_cases hz : zs = []
 ·subst hz
  have : toL (numsW []) = [] := by simp [numsW, toL]
  rw [this, List.append_nil]
  exact last_of h
 ·obtain ⟨h1, h2⟩ := nums_last zs hz
  exact last_app h1 h2
theorem enc_nb (r : Rep) : nb (toL (encW r)) = true := by
 rw [enc_L]
 refine nb_app _ _ (body_no (by decide) _) (body_last (by decide) _) (nb_app _ _ (body_no (by decide) _) (body_last (by decide) _) (nb_app _ _ (body_no (by decide) _) (body_last (by decide) _) (nb_app _ _ (body_no (by decide) _) (body_last (by decide) _) rfl)))
theorem blank_no (r : Rep) {k : Nat} (hk : k < (encW r).size) (hb : (encW r)[k] = 10) : (decW ((encW r).extract 0 k ++ ⟨#[32]⟩ ++ (encW r).extract k (encW r).size)).2 = false := by
 generalize hS : (encW r).extract 0 k ++ ⟨#[32]⟩ ++ (encW r).extract k (encW r).size = s
 cases h : (decW s).2 with
 | false => rfl
 | true =>
  exfalso
  obtain ⟨_, he⟩ := enc_dec (r := (decW s).1) (Prod.ext rfl h)
  have hn := enc_nb (decW s).1
  rw [← he, ← hS, toL_append, toL_append, toL_extract (encW r) k, toL_at _ _ hk, hb] at hn
  have e1 : (10 :: (toL (encW r)).drop (k + 1)).take ((encW r).size - k) = 10 :: ((toL (encW r)).drop (k + 1)).take ((encW r).size - k - 1) := by
   rw [show (encW r).size - k = ((encW r).size - k - 1) + 1 by omega]
   rfl
  rw [e1, List.append_assoc] at hn
  have := nb_no (toL ((encW r).extract 0 k)) (((toL (encW r)).drop (k + 1)).take ((encW r).size - k - 1))
  rw [show toL ((encW r).extract 0 k) ++ (toL (⟨#[32]⟩ : ByteArray) ++ 10 :: ((toL (encW r)).drop (k + 1)).take ((encW r).size - k - 1)) = toL ((encW r).extract 0 k) ++ 32 :: 10 :: ((toL (encW r)).drop (k + 1)).take ((encW r).size - k - 1) from rfl] at hn
  rw [this] at hn
  cases hn
theorem enc_end (r : Rep) {k : Nat} (hk : k < (encW r).size) (h : k + 1 = (encW r).size) : (encW r)[k] = 10 := by
 obtain ⟨X, h1, _⟩ := enc_X r
 have hd := toL_at (encW r) k hk
 have hl : (toL (encW r)).length = X.length + 1 := by rw [h1]; simp
 rw [toL_len] at hl
 have hX : k = X.length := by omega
 subst hX
 rw [h1, List.drop_left] at hd
 simp only [List.cons.injEq] at hd
 exact hd.1.symm
end Go.Proofs.YtemnlheidghbmaaGreatDoor

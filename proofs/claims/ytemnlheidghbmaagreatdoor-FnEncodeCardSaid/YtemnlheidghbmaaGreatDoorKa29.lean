/-
  Lemmas and contracts: Pe Pf Pg Lo. No condition.
-/
import Derived.Test.YtemnlheidghbmaaGreatDoorChecked
import Derived.Conc.Holds
import Derived.Handed
import Derived.SevenTiedAt
import Derived.Stop.LaidErr
import Derived.Lib.LaidTab
import Derived.Shelf.Vars
import Derived.Test.YtemnlheidghbmaaGreatDoorKa23
import Derived.Test.YtemnlheidghbmaaGreatDoorKa28
namespace Go.Proofs.YtemnlheidghbmaaGreatDoor
open Go.RowKit Go.Sort
theorem cut_one (z : UInt8) : ∀ l : List UInt8, z ∉ l → cutL z l = [l]
 | [], _ => rfl
 |b :: l, h => by
  rw [cutL, if_neg (fun e => h (by rw [e]; exact List.mem_cons_self ..)), cut_one z l (fun hm => h (List.mem_cons_of_mem _ hm))]
theorem cut_app (z : UInt8) : ∀ a b : List UInt8, z ∉ a → cutL z (a ++ z :: b) = a :: cutL z b
 | [], b, _ => by rw [List.nil_append, cutL, if_pos rfl]
 |x :: a, b, h => by
  rw [List.cons_append, cutL, if_neg (fun e => h (by rw [e]; exact List.mem_cons_self ..)), cut_app z a b (fun hm => h (List.mem_cons_of_mem _ hm))]
theorem toL_append (a b : ByteArray) : toL (a ++ b) = toL a ++ toL b := by
 unfold toL
 simp
theorem numL_join : ∀ (l r : List UInt8) (a : Int), 0 ≤ a → 0 ≤ numL l a → numL (l ++ r) a = numL r (numL l a)
 | [], r, a, ha, _ => rfl
 |c :: l, r, a, ha, h => by
  rw [numL] at h
  by_cases hc : (c.toNat : Int) < 48 ∨ 57 < (c.toNat : Int)
  ·rw [if_pos hc] at h; omega
  ·rw [if_neg hc] at h
   rw [List.cons_append, numL, numL, if_neg hc, if_neg hc]
   exact numL_join l r _ (by omega) h
def dig (d : Nat) : UInt8 := UInt8.ofNat (48 + d)
theorem toL_dig {d : Nat} (h : d < 10) : toL (digB d) = [dig d] := by rw [digB_eq d h]; rfl
theorem dig_nat {d : Nat} (h : d < 10) : (dig d).toNat = 48 + d := by
 unfold dig
 rw [UInt8.toNat_ofNat_of_lt' (by show 48 + d < 256; omega)]
theorem num_dec (n : Nat) : numL (toL (decN n)) 0 = (n : Int) ∧ (∀ b ∈ toL (decN n), 48 ≤ b.toNat ∧ b.toNat ≤ 57) ∧ (1 ≤ n → ∃ b r, toL (decN n) = b :: r ∧ b.toNat ≠ 48) ∧ toL (decN n) ≠ [] := by
 induction n using Nat.strongRecOn with
 | ind n ih =>
  by_cases h : n < 10
  ·rw [decN_small h, toL_dig h]
   have hd := dig_nat h
   refine ⟨?_, ?_, fun h1 => ⟨_, _, rfl, by omega⟩, by simp⟩
   ·rw [numL, if_neg (by omega), numL]; omega
   ·intro b hb
    rw [List.mem_singleton.1 hb]
    omega
  ·obtain ⟨i1, i2, i3, i4⟩ := ih (n / 10) (by omega)
   have hm : n % 10 < 10 := Nat.mod_lt _ (by decide)
   have hd := dig_nat hm
   rw [decN_big h, toL_append, toL_dig hm]
   refine ⟨?_, ?_, fun _ => ?_, by simp⟩
   ·rw [numL_join _ _ _ (Int.le_refl _) (by omega), i1, numL, if_neg (by omega), numL]
    omega
   ·intro b hb
    rcases List.mem_append.1 hb with hb | hb
    ·exact i2 b hb
    ·rw [List.mem_singleton.1 hb]; omega
   ·obtain ⟨b, r, e, hb⟩ := i3 (by omega)
    exact ⟨b, r ++ [dig (n % 10)], by rw [e]; rfl, hb⟩
theorem numW_L (s : ByteArray) : numW s = if (1 ≤ (toL s).length ∧ (toL s).length ≤ 7) ∧ ¬ (1 < (toL s).length ∧ (toL s).head? = some 48) then numL (toL s) 0 else -1 := by
 have hL := numGo_L s s.size 0 0 (by omega)
 rw [List.drop_zero] at hL
 have hlen := toL_len s
 have h48 : (1 < s.size) → ((byteAt s 0 = 48) ↔ (toL s).head? = some 48) := by
  intro h1
  have ha := toL_at s 0 (by omega)
  rw [List.drop_zero] at ha
  rw [byteAt_get (by omega)]
  constructor
  ·intro h
   rw [ha, List.head?_cons]
   congr 1
   exact UInt8.toNat_inj.1 (by have : (48 : UInt8).toNat = 48 := rfl; omega)
  ·intro hr
   rw [ha, List.head?_cons] at hr
   injection hr with hr
   rw [hr]; rfl
 unfold numW
 rw [hL, hlen]
 by_cases h1 : 1 < s.size
 ·by_cases h2 : byteAt s 0 = 48
  ·have h3 := (h48 h1).1 h2
   rw [if_neg (by rintro ⟨_, h⟩; exact h ⟨by omega, h2⟩), if_neg (by rintro ⟨_, h⟩; exact h ⟨h1, h3⟩)]
  ·have h3 : ¬ (toL s).head? = some 48 := fun h => h2 ((h48 h1).2 h)
   by_cases h4 : s.size ≤ 7
   ·rw [if_pos ⟨by omega, fun h => h2 h.2⟩, if_pos ⟨by omega, fun h => h3 h.2⟩]
   ·rw [if_neg (by rintro ⟨h, _⟩; omega), if_neg (by rintro ⟨h, _⟩; omega)]
 ·by_cases h4 : 1 ≤ s.size
  ·rw [if_pos ⟨by omega, fun h => by omega⟩, if_pos ⟨by omega, fun h => h1 h.1⟩]
  ·rw [if_neg (by rintro ⟨h, _⟩; omega), if_neg (by rintro ⟨h, _⟩; omega)]
theorem numW_dec {n : Nat} (h : n ≤ 9999999) : numW (decN n) = n := by
 obtain ⟨h1, h2, h3, h4⟩ := num_dec n
 rw [numW_L, if_pos, h1]
 have hs := decN_len 6 n (by omega)
 have hp := List.length_pos_iff.2 h4
 refine ⟨⟨hp, by rw [toL_len]; omega⟩, ?_⟩
 rintro ⟨hl, hr⟩
 rcases Nat.eq_zero_or_pos n with h0 | h0
 ·subst h0
  rw [decN_small (by decide), toL_dig (by decide)] at hl
  simp at hl
 ·obtain ⟨b, r', e, hb⟩ := h3 h0
  rw [e, List.head?_cons] at hr
  injection hr with hr1
  exact hb (by rw [hr1]; rfl)
end Go.Proofs.YtemnlheidghbmaaGreatDoor
namespace Go.Proofs.YtemnlheidghbmaaGreatDoor
open Go.RowKit Go.Sort
def decZ (z : Int) : ByteArray := decN z.toNat
theorem nums_start (zs : List Int) (a : ByteArray) : zs.foldl (fun a z => a ++ (⟨#[32]⟩ : ByteArray) ++ decN z.toNat) a = a ++ numsW zs := by
 unfold numsW
 have : ∀ (zs : List Int) (a b : ByteArray), zs.foldl (fun a z => a ++ (⟨#[32]⟩ : ByteArray) ++ decN z.toNat) (a ++ b) = a ++ zs.foldl (fun a z => a ++ (⟨#[32]⟩ : ByteArray) ++ decN z.toNat) b := by
  intro zs
  induction zs with
  | nil => intro a b; rfl
  | cons z r ih =>
   intro a b
   simp only [List.foldl_cons]
   rw [ByteArray.append_assoc, ByteArray.append_assoc, ih, ByteArray.append_assoc]
 have h := this zs a ByteArray.empty
 rw [ByteArray.append_empty] at h
 exact h
theorem nums_cons (z : Int) (zs : List Int) : toL (numsW (z :: zs)) = 32 :: (toL (decZ z) ++ toL (numsW zs)) := by
 have h : numsW (z :: zs) = (ByteArray.empty ++ (⟨#[32]⟩ : ByteArray) ++ decN z.toNat) ++ numsW zs := nums_start zs _
 rw [h, toL_append, toL_append, toL_append]
 rfl
theorem dec_no {z : Int} {b : UInt8} (h : b.toNat < 48) : b ∉ toL (decZ z) := fun hb => by
 have := (num_dec z.toNat).2.1 b hb
 omega
theorem cut_nums : ∀ (zs : List Int) (a : List UInt8), (32 : UInt8) ∉ a → cutL 32 (a ++ toL (numsW zs)) = a :: zs.map fun z => toL (decZ z)
 |[], a, h => by
  rw [show toL (numsW []) = [] from rfl, List.append_nil, cut_one 32 a h]; rfl
 |z :: zs, a, h => by
  rw [nums_cons, cut_app 32 _ _ h, cut_nums zs _ (dec_no (by decide))]
  rfl
theorem cutW_nums {w : ByteArray} (zs : List Int) (h : (32 : UInt8) ∉ toL w) : cutW (w ++ numsW zs) 32 = w :: zs.map decZ := by
 apply map_toL_inj
 have hc := cutW_cut (w ++ numsW zs) 32
 refine (show List.map toL (cutW (w ++ numsW zs) 32) = _ from hc).trans ?_
 rw [toL_append, cut_nums zs _ h, List.map_cons, List.map_map]
 rfl
theorem lineGo_dec : ∀ (zs acc : List Int), (∀ z ∈ zs, Small z) → lineGo (zs.map decZ) acc = (acc ++ zs, true)
 | [], acc, _ => by rw [List.append_nil]; rfl
 |z :: zs, acc, h => by
  have hz := h z (List.mem_cons_self ..)
  have hn : numW (decZ z) = z := by
   unfold decZ
   rw [numW_dec (by have := hz.2; omega)]
   have := hz.1
   omega
  rw [List.map_cons, lineGo, hn, if_neg (by have := hz.1; omega), lineGo_dec zs _ (fun y hy => h y (List.mem_cons_of_mem _ hy)), List.append_assoc]
  rfl
theorem lineW_to {w : ByteArray} (zs : List Int) (h : (32 : UInt8) ∉ toL w) (hz : ∀ z ∈ zs, Small z) : lineW (w ++ numsW zs) w = (zs, true) := by
 unfold lineW
 rw [cutW_nums zs h]
 simp only [List.drop_succ_cons, List.drop_zero]
 rw [lineGo_dec zs [] hz]
 simp
end Go.Proofs.YtemnlheidghbmaaGreatDoor
namespace Go.Proofs.YtemnlheidghbmaaGreatDoor
open Go.RowKit Go.Sort
theorem nums_no {b : UInt8} (h : b.toNat < 48) (h2 : b ≠ 32) : ∀ zs : List Int, b ∉ toL (numsW zs)
 | [] => by simp [numsW, toL]
 |z :: zs => by
  rw [nums_cons]
  intro hb
  rcases List.mem_cons.1 hb with hb | hb
  ·exact h2 hb
  ·rcases List.mem_append.1 hb with hb | hb
   ·exact dec_no h hb
   ·exact nums_no h h2 zs hb
def bodyB (w : ByteArray) (zs : List Int) : ByteArray := w ++ numsW zs
theorem body_no {w : ByteArray} (h : (10 : UInt8) ∉ toL w) (zs : List Int) : (10 : UInt8) ∉ toL (bodyB w zs) := by
 unfold bodyB
 rw [toL_append]
 intro hb
 rcases List.mem_append.1 hb with hb | hb
 ·exact h hb
 ·exact nums_no (by decide) (by decide) zs hb
theorem toL_ln (w : ByteArray) (zs : List Int) : toL (lnW w zs) = toL (bodyB w zs) ++ [10] := by
 unfold lnW bodyB
 rw [toL_append]
 rfl
theorem enc_L (r : Rep) : toL (encW r) = toL (bodyB sW1 [r.lv, r.pl, r.sc]) ++ 10 :: (toL (bodyB sW2 (flatP (partsW r.ins))) ++ 10 :: (toL (bodyB sW3 r.hs) ++ 10 :: (toL (bodyB sW4 [r.tag]) ++ 10 :: []))) := by
 rw [encW_lines, toL_append, toL_append, toL_append, toL_ln, toL_ln, toL_ln, toL_ln]
 simp only [List.append_assoc]
 rfl
theorem enc_cut (r : Rep) : cutW (encW r) 10 = [bodyB sW1 [r.lv, r.pl, r.sc], bodyB sW2 (flatP (partsW r.ins)), bodyB sW3 r.hs, bodyB sW4 [r.tag], ByteArray.empty] := by
 apply map_toL_inj
 have hc := cutW_cut (encW r) 10
 refine (show List.map toL (cutW (encW r) 10) = _ from hc).trans ?_
 rw [enc_L, cut_app 10 _ _ (body_no (by decide) _), cut_app 10 _ _ (body_no (by decide) _), cut_app 10 _ _ (body_no (by decide) _), cut_app 10 _ _ (body_no (by decide) _)]
 rfl
theorem flatP_app (a b : List Ent) : flatP (a ++ b) = flatP a ++ flatP b := by simp [flatP]
theorem pairs_flat : ∀ (ps : List Ent), pairsK (flatP ps) ((flatP ps).length / 2) = ps := by
 intro ps
 rw [flatP_len, Nat.mul_div_cancel_left _ (by decide)]
 have : ∀ k, k ≤ ps.length → pairsK (flatP ps) k = ps.take k := by
  intro k
  induction k with
  | zero => intro _; rfl
  | succ k ih =>
   intro hk
   have he := List.getElem?_eq_getElem (l := ps) (i := k) (by omega)
   rw [pairsK_succ, ih (by omega), List.take_add_one, he]
   have hf : flatP ps = flatP (ps.take k) ++ ([ps[k].1, ps[k].2] ++ flatP (ps.drop (k + 1))) := by
    rw [← List.append_assoc, ← flatP_succ he, ← flatP_app, List.take_append_drop]
   have hl : (flatP (ps.take k)).length = 2 * k := by rw [flatP_len, List.length_take]; omega
   have g0 : (flatP ps)[2 * k]? = some ps[k].1 := by rw [hf, List.getElem?_append_right (by omega), hl, Nat.sub_self]; rfl
   have g1 : (flatP ps)[2 * k + 1]? = some ps[k].2 := by rw [hf, List.getElem?_append_right (by omega), hl, show 2 * k + 1 - 2 * k = 1 by omega]; rfl
   rw [g0, g1]
   rfl
 rw [this ps.length (Nat.le_refl _), List.take_length]
theorem rep_small {r : Rep} (h : repOk r = true) : (∀ z ∈ [r.lv, r.pl, r.sc], Small z) ∧ (∀ z ∈ flatP (partsW r.ins), Small z) ∧ (∀ z ∈ r.hs, Small z) ∧ ∀ z ∈ [r.tag], Small z := by
 obtain ⟨f1, f2, f3, f4, f5, f6, f7, f8⟩ := repOk_facts h
 refine ⟨?_, ?_, ?_, ?_⟩
 ·intro z hz
  simp at hz
  unfold Small
  rcases hz with rfl | rfl | rfl <;> omega
 ·intro z hz
  simp only [flatP, List.mem_flatMap] at hz
  obtain ⟨e, he, hz⟩ := hz
  have := parts_bd r.ins f6 (by omega) e he
  simp at hz
  unfold Small
  rcases hz with rfl | rfl <;> omega
 ·intro z hz
  have := f5 z hz
  unfold Small
  omega
 ·intro z hz
  unfold Small
  rw [List.mem_singleton.1 hz]
  omega
theorem insOk_of {r : Rep} (h : repOk r = true) : insOk r.ins = true := by
 simp only [repOk, Bool.and_eq_true] at h
 exact h.1.1.2
theorem read_self {r : Rep} (h : repOk r = true) : readGo ([r.lv, r.pl, r.sc], true) (flatP (partsW r.ins), true) (r.hs, true) ([r.tag], true) = (r, true) := by
 have hl : (flatP (partsW r.ins)).length % 2 = 0 := by rw [flatP_len]; omega
 have hp : insW (partsW r.ins) = (r.ins, true) := parts_ins (insOk_of h)
 unfold readGo
 rw [if_pos (by simp [hl])]
 unfold readR
 simp only [pairs_flat, hp, atI, List.getElem?_cons_zero, List.getElem?_cons_succ, Option.getD_some, Bool.true_and]
 rw [show (⟨r.lv, r.pl, r.sc, r.ins, r.hs, r.tag⟩ : Rep) = r from rfl, h]
theorem readGo'_of : ∀ (ws : List ByteArray) (acc zs : List Int), lineGo ws acc = (zs, true) → readGo' ws acc = (zs, true)
 | [], acc, zs, h => h
 |b :: r, acc, zs, h => by
  rw [lineGo] at h
  split at h
  ·cases h
  ·rename_i hb
   rw [readGo', numW_atoi (by omega)]
   exact readGo'_of r _ zs h
theorem readI_of {s w : ByteArray} {zs : List Int} (h : lineW s w = (zs, true)) : readI s = (zs, true) := by
 unfold lineW at h
 simp only [Prod.mk.injEq, Bool.and_eq_true] at h
 exact readGo'_of _ [] zs (Prod.ext h.1 h.2.1)
theorem decI_enc {r : Rep} (h : repOk r = true) : decI (encW r) = (r, true) := by
 obtain ⟨s1, s2, s3, s4⟩ := rep_small h
 unfold decI
 rw [enc_cut]
 refine (if_pos (by rfl)).trans ?_
 have hr : readGo (readI (bodyB sW1 [r.lv, r.pl, r.sc])) (readI (bodyB sW2 (flatP (partsW r.ins)))) (readI (bodyB sW3 r.hs)) (readI (bodyB sW4 [r.tag])) = (r, true) := by
  unfold bodyB
  rw [readI_of (lineW_to _ (by decide) s1), readI_of (lineW_to _ (by decide) s2), readI_of (lineW_to _ (by decide) s3), readI_of (lineW_to _ (by decide) s4)]
  exact read_self h
 show endI (encW r) (readGo (readI (bodyB sW1 _)) (readI (bodyB sW2 _)) (readI (bodyB sW3 _)) (readI (bodyB sW4 _))) = _
 rw [hr]
 simp [endI, textW, h]
end Go.Proofs.YtemnlheidghbmaaGreatDoor
namespace Go.Proofs.YtemnlheidghbmaaGreatDoor
open Go Go.RowKit
theorem leaving_of_alone {P : Program} (last : Machine) (w : World) (t : Trace) (h : aloneAtReturn P last w t) : leavingAtReturn P last w t := by
 obtain ⟨⟨h1, h2⟩, h3, h4⟩ := h
 refine ⟨h3, ⟨?_, h2⟩, h4⟩
 intro g hg
 refine ⟨0, ?_⟩
 unfold Machine.othersDone at h1
 have h5 := List.all_eq_true.1 h1 g hg
 show g.status = .finished
 cases hs : g.status <;> rw [hs] at h5 <;> first | rfl | cases h5
section
variable {H : Type} {enc : TypeId × Value → H}
theorem leaving_of_change {a : Assume} {C : Checked} {os : Os} {f : FuncId} {fn : Func} {s : ChangeSpec} {conds : List PathCond} {apart fresh handsOn again : Bool} {X : World → Array Value → Prop}
  (hX : ∀ (w w' : World) (args : Array Value), w.heap = w'.heap → X w args → X w' args)
  (own : ownKnob C.prog.godebug = none) (started : os.Started) (noInit : C.prog.inits.idxOf? f = none) (hfn : C.prog.funcs[f]? = some fn)
  (witness : ∃ (w : World) (tape : Tape) (i : Input), w.os = os ∧ (w.forCall tape i).Shaped C.prog ∧ i.vars = [] ∧ Input.okWide C.prog (w.forCall tape i) .any w.heap.size f i ∧
   ((s.pre enc C.prog fn conds apart (w.forCall tape i).memory i.args ∧ X (w.forCall tape i).memory i.args) ∧ sizedMet enc C.prog fn (OpenSpec.ofChange s) apart (w.forCall tape i).memory i.args) ∧ a.holds C.prog (lone (Frame.enter C.prog f i.args .normal) [] (w.forCall tape i)))
  (contract : ∀ (W : World) (base : Nat) (args : Array Value) (ds gs : List (DataW H)) (before : List MemPlace),
   (∀ (j : Nat) t v, fn.params[j]? = some t → args[j]? = some v → Value.okWide C.prog W .any base t v) →
   DataW.Whole enc C.prog fn.params.toList s.vars apart W args.toList ds gs before →
   X W args → W.ShapedOpen C.prog →
   Calls C.prog f args W fun e W' => ∃ v, e = .returned v ∧ s.post enc C.prog fn apart fresh handsOn again W args v W') :
  ReturnsInLeavingWide a C os f .any (fun w args => (s.pre enc C.prog fn conds apart w args ∧ X w args) ∧ sizedMet enc C.prog fn (OpenSpec.ofChange s) apart w args) (s.post enc C.prog fn apart fresh handsOn again) := by
 intro enter
 refine ReturnsInOpen.mono (fun m w t h => leaving_of_alone m w t h) (fun _ h => h) (returnsInHanded_of_calls own started noInit witness ?_ enter)
 intro w tape i _ hsh _ hok hpre hholds
 obtain ⟨_, _, _, fn', hfn', _, _, _, _, hval⟩ := hok
 have e : fn' = fn := Option.some.inj (hfn'.symm.trans hfn)
 subst e
 obtain ⟨⟨⟨ds, gs, before, hw, hc⟩, hx⟩, hz⟩ := hpre
 have hw' := DataW.Whole.of_heap (w' := w.forCall tape i) (by rfl) hw
 refine (contract (w.forCall tape i) w.heap.size i.args ds gs before hval hw' (hX _ _ _ (by rfl) hx) hsh).mono fun e W' ⟨v, he, hp⟩ => ?_
 subst he
 exact ChangeSpec.post_blind hp
end
theorem holds_tied_goes_at (Lk : Looks) {p : Pinned} {s : OpenSpec} {c : OpenClaim} (kinds : List LaidKind) (tests : Bool) (har : Bool × String) (lk : Bool)
  (hc : c.holds p s) (hw : c.wfByText s = true)
  (htie : c.laidByTextAt Lk p kinds tests)
  (hst : c.start = .entering) (hnb : c.noBlocks = false ∧ c.again = false) (hm : p.checked.prog.mainIs = some (har.1, har.2.toList)) (hn : (!har.1 && har.2.isEmpty && !lk) = false)
  (hl : ∀ f fn, p.checked.prog.funcNamed c.func = some f → p.checked.prog.funcs[f]? = some fn → lk = p.checked.prog.looks [] ∧ ∀ (j : Nat) t, fn.params[j]? = some t → p.checked.prog.wantsStandIn t = false)
  (hg : true = c.goesBy p.checked.prog) :
  Claim7.holds p (.plain s) { stood := { row := c, standIns := [], harness := har, looks := lk }, kinds := [], alts := [], goes := true, laidByText := true, laidKinds := kinds, laidTests := tests, laidLooks := Lk } := by
 have h6 : ∀ r : OpenClaim, Claim7.isSixth { stood := { row := r, standIns := [], harness := har, looks := lk }, kinds := [] } = false := fun r => by simpa [Claim7.isSixth] using hn
 refine ⟨Claim7.tied_new_at Lk kinds tests (Claim7.new_of_sixth hc har lk hst hnb hm (h6 c) hl) hw, (fun D hD => by cases hD), htie, (fun h => by cases h), hg⟩
end Go.Proofs.YtemnlheidghbmaaGreatDoor

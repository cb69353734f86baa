/-
  Lemmas and contracts: Eh Pd Iq Ia. No condition.
-/
import Derived.Shelf.Strings.Split
import Derived.Lib.AtoiAll
import Derived.Test.YtemnlheidghbmaaGreatDoorKa8
import Derived.Test.YtemnlheidghbmaaGreatDoorKa9
import Derived.Test.YtemnlheidghbmaaGreatDoorKa22
namespace Go.Proofs.YtemnlheidghbmaaGreatDoor
open Go.RowKit Go.Sort
def atS (ls : List ByteArray) (k : Nat) : ByteArray := (ls[k]?).getD ByteArray.empty
end Go.Proofs.YtemnlheidghbmaaGreatDoor
namespace Go.Proofs.YtemnlheidghbmaaGreatDoor
open Go.RowKit Go.Sort
theorem wr_small {x : Int} (h1 : -100 ≤ x) (h2 : x ≤ 100) : wrap64 x = x := by unfold wrap64; omega
theorem code_small {s p : Int} (h1 : -1 ≤ s) (h2 : s ≤ 1) (h3 : 0 ≤ p) (h4 : p ≤ 2) : codeW ⟨s, p, false⟩ = 3 * p + s + 1 := by
 simp only [codeW, Bool.false_eq_true, if_false]
 rw [wr_small (x := 3 * p) (by omega) (by omega), wr_small (x := 3 * p + s) (by omega) (by omega), wr_small (by omega) (by omega)]
theorem inOf_code {x : Inp} (h : inOk x = true) : inOf (codeW x) = (x, true) ∧ inR (codeW x) 0 9 = true := by
 obtain ⟨s, p, z⟩ := x
 have hb := inOk_bd h
 simp only at hb
 obtain ⟨h1, h2, h3, h4⟩ := hb
 cases z
 ·rw [code_small h1 h2 h3 h4]
  have hr : inR (3 * p + s + 1) 0 9 = true := by simp [inR]; omega
  refine ⟨?_, hr⟩
  unfold inOf
  rw [if_pos hr, if_neg (by omega), show (3 * p + s + 1) % 3 - 1 = s by omega, show (3 * p + s + 1) / 3 = p by omega]
 ·simp [inOk] at h
  obtain ⟨_, rfl, rfl⟩ := h
  exact ⟨rfl, rfl⟩
inductive Spells : List Ent → List Inp → Prop
 | nil : Spells [] []
 | snoc {qs : List Ent} {ys : List Inp} {c : Int} {x : Inp} {m : Nat} (h : Spells qs ys) (hc : inOf c = (x, true)) (hm : 1 ≤ m) (hl : ∀ e, qs[qs.length - 1]? = some e → e.1 ≠ c) : Spells (qs ++ [(c, (m : Int))]) (ys ++ List.replicate m x)
theorem last_snoc (qs : List Ent) (e : Ent) : (qs ++ [e])[(qs ++ [e]).length - 1]? = some e := by simp
theorem step_same (qs : List Ent) (c m : Int) : partStep (qs ++ [(c, m)]) c = qs ++ [(c, wrap64 (m + 1))] := by
 unfold partStep
 rw [last_snoc]
 simp only [if_pos]
 rw [List.set_append_right _ _ (by simp)]
 simp
theorem step_new {qs : List Ent} {c : Int} (h : ∀ e, qs[qs.length - 1]? = some e → e.1 ≠ c) : partStep qs c = qs ++ [(c, 1)] := by
 unfold partStep
 split
 ·rename_i e he
  rw [if_neg (h e he)]
 ·rfl
theorem spells_step {ps : List Ent} {xs : List Inp} (h : Spells ps xs) {x : Inp} (hx : inOk x = true) (hn : xs.length ≤ 60) : Spells (partStep ps (codeW x)) (xs ++ [x]) := by
 obtain ⟨hi, _⟩ := inOf_code hx
 cases h with
 | nil => exact Spells.snoc (m := 1) Spells.nil hi (Nat.le_refl _) (by simp)
 | snoc h hc hm hl =>
  rename_i qs ys c y m
  by_cases e : c = codeW x
  ·subst e
   rw [step_same]
   rw [hi] at hc
   injection hc with hc
   subst hc
   have hm60 : m ≤ 60 := by simp at hn; omega
   have hw : wrap64 ((m : Int) + 1) = ((m + 1 : Nat) : Int) := by unfold wrap64; omega
   rw [hw, List.append_assoc, ← List.replicate_succ']
   exact Spells.snoc h hi (by omega) hl
  ·rw [step_new (by intro e' he'; rw [last_snoc] at he'; injection he' with he'; subst he'; exact e)]
   exact Spells.snoc (m := 1) (Spells.snoc h hc hm hl) hi (Nat.le_refl _) (by intro e' he'; rw [last_snoc] at he'; injection he' with he'; subst he'; exact e)
theorem parts_spell {xs : List Inp} (h : insOk xs = true) : ∀ k, k ≤ xs.length → Spells (partsW (xs.take k)) (xs.take k) := by
 intro k
 induction k with
 | zero => intro _; exact Spells.nil
 | succ k ih =>
  intro hk
  have hx := List.getElem?_eq_getElem (l := xs) (i := k) (by omega)
  simp only [insOk, Bool.and_eq_true, List.all_eq_true, decide_eq_true_eq] at h
  have hxo := h.1 _ (List.getElem_mem (l := xs) (n := k) (by omega))
  rw [partsW_succ hx, List.take_add_one, hx]
  exact spells_step (ih (by omega)) hxo (by rw [List.length_take]; omega)
theorem insGo_app : ∀ (ps : List Ent) (prev : Option Int) (acc xs : List Inp) (c : Int) (m : Nat) (x : Inp), insGo ps prev acc = (xs, true) → inOf c = (x, true) → 1 ≤ m → xs.length + m ≤ 60 → (∀ e, ps[ps.length - 1]? = some e → e.1 ≠ c) → (ps = [] → prev ≠ some c) →
  insGo (ps ++ [(c, (m : Int))]) prev acc = (xs ++ List.replicate m x, true)
 |[], prev, acc, xs, c, m, x, h, hc, hm, hl, _, hp => by
  simp only [insGo, Prod.mk.injEq, and_true] at h
  subst h
  rw [List.nil_append, insGo, if_neg]
  ·rw [insGo, hc]; simp
  ·intro hb
   rcases hb with hb | hb | hb
   ·rw [hc] at hb; cases hb
   ·exact hb (by simp only; omega)
   ·exact hp rfl hb
 |e :: r, prev, acc, xs, c, m, x, h, hc, hm, hl, hlast, _ => by
  rw [insGo] at h
  split at h
  ·cases h
  ·rename_i hb
   rw [List.cons_append, insGo, if_neg hb]
   refine insGo_app r _ _ xs c m x h hc hm hl ?_ ?_
   ·intro e' he'
    cases r with
    | nil => simp at he'
    | cons a t => exact hlast e' (by simpa using he')
   ·intro hr
    subst hr
    intro hp
    injection hp with hp
    exact hlast e (by simp) hp
theorem spells_ins {ps : List Ent} {xs : List Inp} (h : Spells ps xs) (hn : xs.length ≤ 60) : insW ps = (xs, true) := by
 induction h with
 | nil => rfl
 | snoc h hc hm hl ih =>
  simp at hn
  exact insGo_app _ none [] _ _ _ _ (ih (by omega)) hc hm hn hl (fun _ => by simp)
theorem parts_ins {xs : List Inp} (h : insOk xs = true) : insW (partsW xs) = (xs, true) := by
 have h2 := parts_spell h xs.length (Nat.le_refl _)
 rw [List.take_length] at h2
 simp only [insOk, Bool.and_eq_true, decide_eq_true_eq] at h
 exact spells_ins h2 (by omega)
end Go.Proofs.YtemnlheidghbmaaGreatDoor
namespace Go.Proofs.YtemnlheidghbmaaGreatDoor
open Go.RowKit Go.Sort
def cutL (z : UInt8) : List UInt8 → List (List UInt8)
 | [] => [[]]
 |b :: l => if b = z then [] :: cutL z l else match cutL z l with
  | [] => [[b]]
  | h :: t => (b :: h) :: t
theorem index_hit (z : UInt8) (l : List UInt8) : Lib.index (z :: l) [z] = 0 := by
 rw [Lib.index, if_pos (by simp)]
theorem index_far {b z : UInt8} (h : b ≠ z) (l : List UInt8) : Lib.index (b :: l) [z] = if Lib.index l [z] == -1 then -1 else Lib.index l [z] + 1 := by
 rw [Lib.index, if_neg (by simp; exact fun e => h e.symm)]
theorem index_nil_one (z : UInt8) : Lib.index [] [z] = -1 := rfl
theorem count_one (z : UInt8) : ∀ (l : List UInt8) (f : Nat), l.length < f → Lib.countFrom [z] f l = l.count z
 | [], f + 1, _ => by rw [Lib.countFrom, index_nil_one, if_pos (by decide)]; rfl
 |b :: l, f + 1, h => by
  by_cases e : b = z
  ·subst e
   rw [Lib.countFrom, index_hit, if_neg (by decide), List.count_cons_self]
   show 1 + Lib.countFrom [b] f l = _
   rw [count_one b l f (by simpa using h)]
   omega
  ·have ih := count_one z l (f + 1) (by simp at h; omega)
   rw [List.count_cons_of_ne e, ← ih, Lib.countFrom, Lib.countFrom, index_far e]
   by_cases h1 : Lib.index l [z] = -1
   ·simp [h1]
   ·have h2 := Lib.index_ge l [z]
    obtain ⟨i, hi⟩ := Int.eq_ofNat_of_zero_le (show 0 ≤ Lib.index l [z] by omega)
    rw [hi, if_neg (by simp; omega), if_neg (by simp), if_neg (by simp)]
    show 1 + Lib.countFrom [z] f ((b :: l).drop (((i : Int) + 1).toNat + 1)) = 1 + Lib.countFrom [z] f (l.drop ((i : Int).toNat + 1))
    rw [show ((i : Int) + 1).toNat = i + 1 by omega, show ((i : Int)).toNat = i by omega]
    rfl
theorem split_cut (z : UInt8) : ∀ (l : List UInt8) (k : Nat), l.count z ≤ k → Lib.splitK [z] 0 k l = cutL z l
 | [], 0, _ => rfl
 | [], k + 1, _ => by rw [Lib.splitK, index_nil_one, if_pos (by decide)]; rfl
 |b :: l, k, h => by
  by_cases e : b = z
  ·subst e
   rw [List.count_cons_self] at h
   obtain ⟨k, rfl⟩ : ∃ q, k = q + 1 := ⟨k - 1, by omega⟩
   rw [Lib.splitK, index_hit, if_neg (by decide), cutL, if_pos rfl]
   show [] :: Lib.splitK [b] 0 k l = _
   rw [split_cut b l k (by omega)]
  ·rw [List.count_cons_of_ne e] at h
   rw [cutL, if_neg e]
   cases k with
   | zero =>
    rw [← split_cut z l 0 h]
    rfl
   | succ k =>
    rw [← split_cut z l (k + 1) h, Lib.splitK, Lib.splitK, index_far e]
    by_cases h1 : Lib.index l [z] = -1
    ·simp [h1]
    ·have h2 := Lib.index_ge l [z]
     obtain ⟨i, hi⟩ := Int.eq_ofNat_of_zero_le (show 0 ≤ Lib.index l [z] by omega)
     rw [hi, if_neg (by simp; omega), if_neg (by simp), if_neg (by simp)]
     show (b :: l).take (((i : Int) + 1).toNat + 0) :: Lib.splitK [z] 0 k ((b :: l).drop (((i : Int) + 1).toNat + 1)) = (b :: l.take ((i : Int).toNat + 0)) :: Lib.splitK [z] 0 k (l.drop ((i : Int).toNat + 1))
     rw [show ((i : Int) + 1).toNat = i + 1 by omega, show ((i : Int)).toNat = i by omega]
     rfl
def toL (b : ByteArray) : List UInt8 := b.data.toList
theorem toL_inj {a b : ByteArray} (h : toL a = toL b) : a = b := by
 cases a; cases b
 unfold toL at h
 simpa using h
theorem map_toL_inj : ∀ {a b : List ByteArray}, a.map toL = b.map toL → a = b
 | [], [], _ => rfl
 | [], _ :: _, h => by cases h
 | _ :: _, [], h => by cases h
 |x :: a, y :: b, h => by
  simp only [List.map_cons, List.cons.injEq] at h
  rw [toL_inj h.1, map_toL_inj h.2]
theorem toL_len (s : ByteArray) : (toL s).length = s.size := Array.length_toList
theorem toL_extract (s : ByteArray) (a b : Nat) : toL (s.extract a b) = ((toL s).drop a).take (b - a) := by
 unfold toL
 rw [Lib.extract_data]
theorem toL_at (s : ByteArray) (i : Nat) (h : i < s.size) : (toL s).drop i = s[i] :: (toL s).drop (i + 1) := by
 have h' : i < (toL s).length := by rw [toL_len]; exact h
 rw [List.drop_eq_getElem_cons h']
 congr 1
theorem cutGo_cut (s : ByteArray) (z : UInt8) : ∀ (f fr i : Nat), fr ≤ i → i + f = s.size → ∃ h t, cutL z ((toL s).drop i) = h :: t ∧ (cutGo s (z.toNat : Int) f fr i).map toL = (((toL s).drop fr).take (i - fr) ++ h) :: t
 |0, fr, i, h1, h2 => by
  refine ⟨[], [], ?_, ?_⟩
  ·rw [List.drop_of_length_le (by rw [toL_len]; omega)]; rfl
  ·simp only [cutGo, List.map_cons, List.map_nil, toL_extract, List.append_nil]
   rw [show i = s.size by omega]
 |f + 1, fr, i, h1, h2 => by
  have hi : i < s.size := by omega
  rw [toL_at s i hi, cutL, cutGo, byteAt_get hi]
  by_cases e : s[i] = z
  ·obtain ⟨h, t, c1, c2⟩ := cutGo_cut s z f (i + 1) (i + 1) (Nat.le_refl _) (by omega)
   refine ⟨[], cutL z ((toL s).drop (i + 1)), by rw [if_pos e], ?_⟩
   rw [if_pos (by rw [e]), List.map_cons, c2, c1, toL_extract, List.append_nil, Nat.sub_self]
   rfl
  ·obtain ⟨h, t, c1, c2⟩ := cutGo_cut s z f fr (i + 1) (by omega) (by omega)
   refine ⟨s[i] :: h, t, by rw [if_neg e, c1], ?_⟩
   rw [if_neg (by intro h; exact e (UInt8.toNat_inj.1 (by omega))), c2]
   congr 1
   have h5 : i - fr < ((toL s).drop fr).length := by rw [List.length_drop, toL_len]; omega
   rw [show i + 1 - fr = (i - fr) + 1 by omega, List.take_add_one, List.getElem?_eq_getElem h5, List.append_assoc]
   congr 1
   simp [List.getElem_drop, show fr + (i - fr) = i by omega]
   rfl
theorem cutW_cut (s : ByteArray) (z : UInt8) : (cutW s (z.toNat : Int)).map toL = cutL z (toL s) := by
 obtain ⟨h, t, c1, c2⟩ := cutGo_cut s z s.size 0 0 (Nat.le_refl _) (by omega)
 unfold cutW
 rw [c2, ← List.drop_zero (l := toL s), c1]
 rfl
theorem splitB_cut (s : ByteArray) (z : UInt8) : Lib.splitB ⟨#[z]⟩ 0 (Lib.countB s ⟨#[z]⟩) s = cutW s (z.toNat : Int) := by
 apply map_toL_inj
 rw [cutW_cut]
 have h := Lib.splitB_data ⟨#[z]⟩ 0 (Lib.countB s ⟨#[z]⟩) s
 refine (show List.map toL _ = _ from h).trans ?_
 refine split_cut z (toL s) _ ?_
 rw [← count_one z (toL s) ((toL s).length + 1) (by omega)]
 exact Nat.le_refl _
def numL : List UInt8 → Int → Int
 | [], a => a
 | c :: r, a => if (c.toNat : Int) < 48 ∨ 57 < (c.toNat : Int) then -1 else numL r (10 * a + ((c.toNat : Int) - 48))
theorem numGo_L (s : ByteArray) : ∀ (f i : Nat) (a : Int), i + f = s.size → numGo s f i a = numL ((toL s).drop i) a
 | 0, i, a, h => by rw [List.drop_of_length_le (by rw [toL_len]; omega)]; rfl
 |f + 1, i, a, h => by
  have hi : i < s.size := by omega
  rw [toL_at s i hi, numGo, numL, byteAt_get hi, numGo_L s f (i + 1) _ (by omega)]
theorem parse_num : ∀ (l : List UInt8) (A : Nat), (A + 1) * 10 ^ l.length ≤ 1000000000000000000 → 0 ≤ numL l A → Lib.parseUint10 A l = .ok (numL l A).toNat
 | [], A, _, _ => by simp [Lib.parseUint10, numL]
 |c :: r, A, hA, hn => by
  rw [numL] at hn ⊢
  by_cases hc : (c.toNat : Int) < 48 ∨ 57 < (c.toNat : Int)
  ·rw [if_pos hc] at hn; omega
  ·rw [if_neg hc] at hn ⊢
   have hp : 0 < 10 ^ r.length := Nat.pow_pos (by decide)
   have hA1 : (A + 1) * 10 * 10 ^ r.length ≤ 1000000000000000000 := by
    rw [List.length_cons, Nat.pow_succ, Nat.mul_comm (10 ^ r.length), ← Nat.mul_assoc] at hA
    exact hA
   have hA2 : (A + 1) * 10 ≤ 1000000000000000000 := Nat.le_trans (Nat.le_mul_of_pos_right _ hp) hA1
   have e : (10 * (A : Int) + ((c.toNat : Int) - 48)) = ((A * 10 + (c.toNat - 48) : Nat) : Int) := by omega
   rw [e] at hn ⊢
   rw [Lib.parseUint10, if_pos (by omega), if_neg (by omega), if_neg (by omega)]
   refine parse_num r _ ?_ hn
   refine Nat.le_trans (Nat.mul_le_mul_right _ ?_) hA1
   omega
theorem numL_bd : ∀ (l : List UInt8) (A : Nat), numL l A < (((A + 1) * 10 ^ l.length : Nat) : Int)
 | [], A => by simp [numL]; omega
 |c :: r, A => by
  rw [numL]
  by_cases hc : (c.toNat : Int) < 48 ∨ 57 < (c.toNat : Int)
  ·rw [if_pos hc]
   omega
  ·rw [if_neg hc]
   have e : (10 * (A : Int) + ((c.toNat : Int) - 48)) = ((A * 10 + (c.toNat - 48) : Nat) : Int) := by omega
   rw [e]
   have ih := numL_bd r (A * 10 + (c.toNat - 48))
   refine Int.lt_of_lt_of_le ih (Int.ofNat_le.2 ?_)
   rw [List.length_cons, Nat.pow_succ, Nat.mul_comm (10 ^ r.length), ← Nat.mul_assoc]
   exact Nat.mul_le_mul_right _ (by omega)
theorem atoi_list {l : List UInt8} (h1 : 1 ≤ l.length) (h7 : l.length ≤ 7) (h : 0 ≤ numL l 0) : Lib.atoiAll l = .ok (numL l 0) := by
 have h10 : 10 ^ l.length ≤ 10 ^ 7 := Nat.pow_le_pow_right (by decide) h7
 have hp := parse_num l 0 (by omega) h
 have hb := numL_bd l 0
 cases l with
 | nil => simp at h1
 | cons c r =>
  have hcd : 48 ≤ c.toNat ∧ c.toNat ≤ 57 := by
   rw [numL] at h
   split at h
   ·omega
   ·omega
  have h1 : ¬ (c.toNat = 43 ∨ c.toNat = 45) := by omega
  have h2 : ¬ c.toNat = 45 := by omega
  have hu : ¬ 9223372036854775808 ≤ (numL (c :: r) 0).toNat := by
   have : numL (c :: r) ((0 : Nat) : Int) = numL (c :: r) 0 := rfl
   omega
  have hpm : Lib.parseMag (c :: r) = .ok (numL (c :: r) 0).toNat := by
   unfold Lib.parseMag
   rw [if_neg (by simp)]
   exact hp
  unfold Lib.atoiAll
  simp only [if_neg h1, hpm]
  rw [if_neg (by omega), if_neg (by omega), if_neg h2]
  congr 1
  omega
def atoiW (b : ByteArray) : Option Int :=
 match Lib.atoiAll (toL b) with
 | .ok v => some v
 | _ => none
theorem numW_atoi {s : ByteArray} (h : 0 ≤ numW s) : atoiW s = some (numW s) := by
 unfold numW at h ⊢
 split at h
 ·rename_i hc
  rw [if_pos hc]
  have hL := numGo_L s s.size 0 0 (by omega)
  rw [List.drop_zero] at hL
  rw [hL] at h ⊢
  unfold atoiW
  rw [atoi_list (by rw [toL_len]; omega) (by rw [toL_len]; omega) h]
 ·omega
end Go.Proofs.YtemnlheidghbmaaGreatDoor
namespace Go.Proofs.YtemnlheidghbmaaGreatDoor
open Go.RowKit Go.Sort
set_option maxRecDepth 100000 in
set_option maxHeartbeats 1000000 in
theorem implInputValid_any (x : Inp) (w : World) : Calls Tryz.prog 105 #[inV x] w fun e w' => e = .returned (.bool (inOk x)) ∧ Below w.heap.size w w' := by
 obtain ⟨s, p, z⟩ := x
 cases z
 ·go_enter Tryz.func105, Tryz.ntmps105
  go_wp2_with fail
  refine (inRange_any _ _ _ _).mono ?_
  rintro e w' ⟨rfl, rfl⟩
  cases h1 : inR s (-1) 1
  ·go_wp2_with fail
   go_ret
   exact ⟨ret_bool (by simp [inOk, h1]), by go_grown⟩
  ·go_wp2_with fail
   refine (inRange_any _ _ _ _).mono ?_
   rintro e w' ⟨rfl, rfl⟩
   go_wp2_with fail
   go_ret
   exact ⟨ret_bool (by simp [inOk, h1]), by go_grown⟩
 ·go_enter Tryz.func105, Tryz.ntmps105
  by_cases h3 : s = 0
  ·subst h3
   by_cases h4 : p = 0
   ·subst h4
    go_wp2_with fail
    go_ret
    exact ⟨ret_bool (by simp [inOk, inR]), by go_grown⟩
   ·have h4' : (p == 0) = false := by simpa using h4
    go_wp2_with fail
    go_ret
    exact ⟨ret_bool (by simp [inOk, h4]), by go_grown⟩
  ·have h3' : (s == 0) = false := by simpa using h3
   go_wp2_with fail
   go_ret
   exact ⟨ret_bool (by simp [inOk, h3]), by go_grown⟩
def codeI (x : Inp) : Int := if inOk x then codeW x else -1
set_option maxRecDepth 100000 in
set_option maxHeartbeats 1000000 in
theorem implInputCode_any (x : Inp) (w : World) : Calls Tryz.prog 61 #[inV x] w fun e w' => e = .returned (.int .i64 (codeI x)) ∧ Below w.heap.size w w' := by
 obtain ⟨s, p, z⟩ := x
 go_enter Tryz.func61, Tryz.ntmps61
 go_wp2_with fail
 refine (implInputValid_any ⟨s, p, z⟩ _).mono ?_
 rintro e w1 ⟨rfl, hb⟩
 have KR := Lib.hid ((Blk.new w 80 #[.int .i64 s, .int .i64 p, .bool z]).next hb)
 have HB := Lib.hid (ba hb)
 clear hb
 have cr := fun o => KR.out.cell o
 have fr := fun o => KR.out.frozen o
 have zr := KR.out.lt
 cases ho : inOk ⟨s, p, z⟩
 ·go_wp2_with fail
  go_ret
  exact ⟨ret_int (by simp [codeI, ho]), HB.out⟩
 ·cases z
  ·have HO := Lib.hid ho
   clear ho
   go_wp2_with fail
   go_ret
   exact ⟨ret_int (by simp [codeI, codeW, HO.out]), HB.out⟩
  ·have HO := Lib.hid ho
   clear ho
   go_wp2_with fail
   go_ret
   exact ⟨ret_int (by simp [codeI, codeW, HO.out]), HB.out⟩
set_option maxRecDepth 100000 in
set_option maxHeartbeats 1000000 in
theorem implInputOf_any (k : Int) (w : World) : Calls Tryz.prog 128 #[.int .i64 k] w fun e w' => e = .returned (.tuple #[inV (inOf k).1, .bool (inOf k).2]) ∧ Below w.heap.size w w' := by
 go_enter Tryz.func128, Tryz.ntmps128
 by_cases h9 : k = 9
 ·subst h9
  go_wp2_with fail
  refine bodyPost_ret (v := .tuple #[inV ⟨0, 0, true⟩, .bool true]) (by simp [results, Tryz.results128, go_sem]) rfl ⟨rfl, ?_⟩
  go_grown
 ·have h9' : (k == 9) = false := by simpa using h9
  go_wp2_with fail
  refine (inRange_any _ _ _ _).mono ?_
  rintro e w' ⟨rfl, rfl⟩
  cases h1 : inR k 0 8
  ·have hf : inOf k = (⟨0, 0, false⟩, false) := by
    have : inR k 0 9 = false := by simp [inR] at h1 ⊢; omega
    simp [inOf, this]
   have HF := Lib.hid hf
   clear hf
   go_wp2_with fail
   refine bodyPost_ret (v := .tuple #[inV ⟨0, 0, false⟩, .bool false]) (by simp [results, Tryz.results128, go_sem]) rfl ⟨by rw [HF.out], ?_⟩
   go_grown
  ·have hb : 0 ≤ k ∧ k ≤ 8 := by simpa [inR] using h1
   have hf : inOf k = (⟨k % 3 - 1, k / 3, false⟩, true) := by
    have : inR k 0 9 = true := by simp [inR]; omega
    simp [inOf, this, h9]
   obtain ⟨hb0, hb9⟩ := hb
   have HF := Lib.hid hf
   clear hf h1 h9
   go_wp2_with fail
   refine bodyPost_ret (v := .tuple #[inV ⟨k % 3 - 1, k / 3, false⟩, .bool true]) (by simp [results, Tryz.results128, go_sem]) rfl ⟨by rw [HF.out], ?_⟩
   go_grown
set_option maxHeartbeats 400000 in
theorem inputsOk1_any (x : Inp) (w : World) :
  Calls Tryz.prog 104 #[inV x] w fun e w' => e = .returned (.bool (!inOk x)) ∧ Below w.heap.size w w' := by
 obtain ⟨s, p, z⟩ := x
 go_enter Tryz.func104, Tryz.ntmps104
 go_wp2_with fail
 refine (implInputValid_any ⟨s, p, z⟩ _).mono ?_
 rintro e w1 ⟨rfl, hb1⟩
 have HB1 := Lib.hid (ba hb1)
 clear hb1
 go_wp2_with fail
 go_ret
 exact ⟨rfl, HB1.out⟩
set_option maxHeartbeats 2000000 in
theorem indexFuncN_any (A : Option Addr) (n c : Nat) (xs : List Inp) (w : World) (hr : RdN w A n xs) (hn : n ≤ 1099511627776) :
  Calls Tryz.prog 144 #[.slice A n c, .func (.func 104) #[] #[]] w fun e w' => ∃ v : Int, e = .returned (.int .i64 v) ∧ decide (0 ≤ v) = (!xs.all inOk) ∧ Below w.heap.size w w' := by
 have HR := Lib.hid hr; clear hr
 go_enter Tryz.func144, Tryz.ntmps144
 go_wp2
 go_loopw [8] (fun i wr => ∃ k : Nat, k ≤ n ∧ i = .int .i64 k ∧ Hid (Below w.heap.size w wr ∧ xs.all inOk = (xs.drop k).all inOk)) (fun i _ => n - (intOf i).toNat)
 case atStart => exact ⟨0, Nat.zero_le _, rfl, Below.refl _ _, rfl⟩
 case round =>
  obtain ⟨k, hk, rfl, HF⟩ := hrel
  by_cases hlt : k < n
  ·obtain ⟨b, off, x, hA, hb, hx, h0, h1, h2⟩ := RdN.cells (HR.out.below HF.out.1) hlt
   subst hA
   have HS := Lib.hid (all_dropB (p := inOk) hx)
   clear hx
   cases ho : inOk x
   ·have HO := Lib.hid ho
    have c1 := fun W => inputsOk1_any x W
    rw [ho] at c1
    have C1 := Lib.hid c1
    clear ho c1
    go_wp2_with (first | (go_at_call 104; refine (C1.out _).mono ?_; rintro e w' ⟨rfl, hb1⟩))
    go_ret
    exact ⟨_, rfl, by rw [HF.out.2, HS.out, HO.out]; simp, below_next HF.out.1 hb1⟩
   ·have HO := Lib.hid ho
    have c1 := fun W => inputsOk1_any x W
    rw [ho] at c1
    have C1 := Lib.hid c1
    clear ho c1
    go_wp2_with (first | (go_at_call 104; refine (C1.out _).mono ?_; rintro e w' ⟨rfl, hb1⟩))
    exact ⟨⟨k + 1, by omega, by go_num, below_next HF.out.1 hb1, by rw [HF.out.2, HS.out, HO.out]; rfl⟩, by simp [intOf]; omega⟩
  ·go_wp2
   go_ret
   exact ⟨_, rfl, by rw [HF.out.2, List.drop_of_length_le (by rw [HR.out.len]; omega)]; rfl, HF.out.1⟩
set_option maxHeartbeats 1000000 in
theorem containsFuncN_any (A : Option Addr) (n c : Nat) (xs : List Inp) (w : World) (hr : RdN w A n xs) (hn : n ≤ 1099511627776) :
  Calls Tryz.prog 103 #[.slice A n c, .func (.func 104) #[] #[]] w fun e w' => e = .returned (.bool (!xs.all inOk)) ∧ Below w.heap.size w w' := by
 have H1 := Lib.hid (indexFuncN_any A n c xs w hr hn)
 clear hr
 go_enter Tryz.func103, Tryz.ntmps103
 go_wp2_with fail
 refine H1.out.mono ?_
 rintro e w1 ⟨v, rfl, hv, hb1⟩
 have HV := Lib.hid hv
 clear hv
 go_wp2_with fail
 go_ret
 exact ⟨ret_bool HV.out, hb1⟩
set_option maxHeartbeats 1000000 in
theorem inputsOk_any (A : Option Addr) (n c : Nat) (xs : List Inp) (w : World) (hr : RdN w A n xs) (hn : n ≤ 1099511627776) :
  Calls Tryz.prog 51 #[.slice A n c] w fun e w' => e = .returned (.bool (insOk xs)) ∧ Below w.heap.size w w' := by
 have H1 := Lib.hid (containsFuncN_any A n c xs w hr hn)
 have HL := Lib.hid hr.len
 clear hr
 go_enter Tryz.func51, Tryz.ntmps51
 by_cases h6 : n ≤ 60
 ·have h6' : (n : Int) ≤ 60 := by omega
  go_wp2_with fail
  refine H1.out.mono ?_
  rintro e w1 ⟨rfl, hb1⟩
  go_wp2_with fail
  go_ret
  exact ⟨ret_bool (by simp [insOk, HL.out, h6']), hb1⟩
 ·have h6' : ¬ (n : Int) ≤ 60 := by omega
  go_wp2_with fail
  go_ret
  exact ⟨ret_bool (by simp [insOk, HL.out]; omega), by go_grown⟩
set_option maxHeartbeats 400000 in
theorem replayValid1_any (n : Int) (w : World) :
  Calls Tryz.prog 54 #[.int .i64 n] w fun e w' => e = .returned (.bool (!hashOk n)) ∧ w = w' := by
 go_enter Tryz.func54, Tryz.ntmps54
 go_wp2_with fail
 refine (isHash_any _ _).mono ?_
 rintro e w1 ⟨rfl, rfl⟩
 go_wp2_with fail
 go_ret
 exact ⟨rfl, rfl⟩
set_option maxHeartbeats 2000000 in
theorem repHs_index (A : Option Addr) (n c : Nat) (zs : List Int) (w : World) (hr : RdI .i64 w A n zs) (hn : n ≤ 1099511627776) :
  Calls Tryz.prog 106 #[.slice A n c, .func (.func 54) #[] #[]] w fun e w' => ∃ v : Int, e = .returned (.int .i64 v) ∧ decide (0 ≤ v) = (!zs.all hashOk) ∧ w = w' := by
 have HR := Lib.hid hr; clear hr
 go_enter Tryz.func106, Tryz.ntmps106
 go_wp2
 go_loop [8] (fun i => ∃ k : Nat, k ≤ n ∧ i = .int .i64 k ∧ Hid (zs.all hashOk = (zs.drop k).all hashOk)) (fun i => n - (intOf i).toNat)
 case atStart => exact ⟨0, Nat.zero_le _, rfl, rfl⟩
 case round =>
  obtain ⟨k, hk, rfl, HF⟩ := hrel
  by_cases hlt : k < n
  ·obtain ⟨b, off, x, hA, hb, hx, h0⟩ := HR.out.at_ hlt
   subst hA
   have HS := Lib.hid (all_drop (p := hashOk) hx)
   clear hx
   cases ho : hashOk x
   ·have HO := Lib.hid ho
    have c1 := fun W => replayValid1_any x W
    rw [ho] at c1
    have C1 := Lib.hid c1
    clear ho c1
    go_wp2_with (first | (go_at_call 54; refine (C1.out _).mono ?_; rintro e w' ⟨rfl, rfl⟩))
    go_ret
    exact ⟨_, rfl, by rw [HF.out, HS.out, HO.out]; simp, rfl⟩
   ·have HO := Lib.hid ho
    have c1 := fun W => replayValid1_any x W
    rw [ho] at c1
    have C1 := Lib.hid c1
    clear ho c1
    go_wp2_with (first | (go_at_call 54; refine (C1.out _).mono ?_; rintro e w' ⟨rfl, rfl⟩))
    go_round
    case rel => exact ⟨k + 1, by omega, by go_num, by show _ = _; rw [HF.out, HS.out, HO.out]; rfl⟩
    case measure => simp [intOf]; omega
  ·go_wp2
   go_ret
   exact ⟨_, rfl, by rw [HF.out, List.drop_of_length_le (by rw [HR.out.len]; omega)]; rfl, rfl⟩
set_option maxHeartbeats 1000000 in
theorem repHs_contains (A : Option Addr) (n c : Nat) (zs : List Int) (w : World) (hr : RdI .i64 w A n zs) (hn : n ≤ 1099511627776) :
  Calls Tryz.prog 53 #[.slice A n c, .func (.func 54) #[] #[]] w fun e w' => e = .returned (.bool (!zs.all hashOk)) ∧ w = w' := by
 have H1 := Lib.hid (repHs_index A n c zs w hr hn)
 clear hr
 go_enter Tryz.func53, Tryz.ntmps53
 go_wp2_with fail
 refine H1.out.mono ?_
 rintro e w1 ⟨v, rfl, hv, rfl⟩
 have HV := Lib.hid hv
 clear hv
 go_wp2_with fail
 go_ret
 exact ⟨ret_bool HV.out, rfl⟩
set_option maxRecDepth 100000 in
set_option maxHeartbeats 4000000 in
theorem implReplayValid_any (r : Rep) (si sh : Sl) (w : World) (hr : RdR w r si sh) :
  Calls Tryz.prog 16 #[repV r si sh] w fun e w' => e = .returned (.bool (repOk r)) ∧ Below w.heap.size w w' := by
 obtain ⟨hi, hh, ⟨_, hn1⟩, _, hn2⟩ := hr
 have HI := Lib.hid hi
 have HH := Lib.hid hh
 clear hi hh
 go_enter Tryz.func16, Tryz.ntmps16
 go_wp2_with fail
 refine (inRange_any _ _ _ _).mono ?_
 rintro e w1 ⟨rfl, rfl⟩
 have HB := Lib.hid ((Below.refl w.heap.size w).alloc (Nat.le_refl _) (.cells (repC r si sh) 33))
 cases h1 : inR r.lv 0 99
 ·go_wp2_with fail
  go_ret
  exact ⟨ret_bool (by simp [repOk, h1]), HB.out⟩
 ·go_wp2_with fail
  refine (inRange_any _ _ _ _).mono ?_
  rintro e w1 ⟨rfl, rfl⟩
  cases h2 : inR r.pl 0 9
  ·go_wp2_with fail
   go_ret
   exact ⟨ret_bool (by simp [repOk, h2]), HB.out⟩
  ·go_wp2_with fail
   refine (inRange_any _ _ _ _).mono ?_
   rintro e w1 ⟨rfl, rfl⟩
   cases h3 : inR r.sc 0 60
   ·go_wp2_with fail
    go_ret
    exact ⟨ret_bool (by simp [repOk, h3]), HB.out⟩
   ·go_wp2_with fail
    refine (inputsOk_any si.a si.n si.c r.ins _ (HI.out.below HB.out) (by omega)).mono ?_
    rintro e w2 ⟨rfl, hb⟩
    have KR := Lib.hid ((Blk.new w 33 (repC r si sh)).next hb)
    replace HB := Lib.hid (below_next HB.out hb)
    clear hb
    have cr := fun o => KR.out.cell o
    have fr := fun o => KR.out.frozen o
    have zr := KR.out.lt
    cases h4 : insOk r.ins
    ·go_wp2_with fail
     go_ret
     exact ⟨ret_bool (by simp [repOk, h4]), HB.out⟩
    ·by_cases h5 : (sh.n : Int) = (si.n : Int) / 5
     ·have h5' : ((sh.n : Int) == (si.n : Int) / 5) = true := by simpa using h5
      have H5 := Lib.hid (show (r.hs.length : Int) = (r.ins.length : Int) / 5 by rw [HH.out.len, HI.out.len]; exact h5)
      clear h5
      go_wp2_with fail
      refine (isHash_any _ _).mono ?_
      rintro e w3 ⟨rfl, rfl⟩
      cases h6 : hashOk r.tag
      ·go_wp2_with fail
       go_ret
       exact ⟨ret_bool (by simp [repOk, h6]), HB.out⟩
      ·go_wp2_with fail
       refine (repHs_contains sh.a sh.n sh.c r.hs _ (HH.out.below HB.out) (by omega)).mono ?_
       rintro e w3 ⟨rfl, rfl⟩
       go_wp2_with fail
       go_ret
       exact ⟨ret_bool (by simp [repOk, h1, h2, h3, h4, H5.out, h6]), HB.out⟩
     ·have h5' : ((sh.n : Int) == (si.n : Int) / 5) = false := by simpa using h5
      have H5 := Lib.hid (show ¬ (r.hs.length : Int) = (r.ins.length : Int) / 5 by rw [HH.out.len, HI.out.len]; exact h5)
      clear h5
      go_wp2_with fail
      go_ret
      exact ⟨ret_bool (by simp [repOk, H5.out]), HB.out⟩
end Go.Proofs.YtemnlheidghbmaaGreatDoor

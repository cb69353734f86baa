/-
  Lemmas and contracts: Pe Pf Pg Im Sm Sr. No condition.
-/
import Derived.Laws.StructEq
import Derived.Test.YtemnlheidghbmaaGreatDoorKb4
import Derived.Test.YtemnlheidghbmaaGreatDoorKb8
import Derived.Test.YtemnlheidghbmaaGreatDoorKb9
import Derived.Test.YtemnlheidghbmaaGreatDoorKb26
import Derived.Test.YtemnlheidghbmaaGreatDoorKb27
import Derived.Test.YtemnlheidghbmaaGreatDoorKb28
namespace Go.Proofs.YtemnlheidghbmaaGreatDoor
open Go.RowKit Go.Sort
theorem ins_spell : ∀ (ps qs : List Ent) (prev : Option Int) (acc xs : List Inp), insGo ps prev acc = (xs, true) → Spells qs acc → (∀ e, qs[qs.length - 1]? = some e → prev = some e.1) → Spells (qs ++ ps) xs
 |[], qs, prev, acc, xs, h, hs, _ => by
  simp only [insGo, Prod.mk.injEq, and_true] at h
  subst h
  rw [List.append_nil]
  exact hs
 |e :: r, qs, prev, acc, xs, h, hs, hp => by
  rw [insGo] at h
  split at h
  ·cases h
  ·rename_i hb
   have h1 : (inOf e.1).2 = true := by cases hq : (inOf e.1).2; exact absurd (Or.inl hq) hb; rfl
   have h2 : 1 ≤ e.2 ∧ e.2 ≤ 60 - (acc.length : Int) := Classical.byContradiction fun hq => hb (Or.inr (Or.inl hq))
   have h3 : ¬ prev = some e.1 := fun hq => hb (Or.inr (Or.inr hq))
   obtain ⟨c, m⟩ := e
   simp only at h1 h2 h3
   obtain ⟨k, rfl⟩ := Int.eq_ofNat_of_zero_le (show 0 ≤ m by omega)
   have hi : inOf c = ((inOf c).1, true) := by rw [← h1]
   have hs2 := Spells.snoc hs hi (m := k) (by omega) (fun e' he' hq => h3 (by rw [hp e' he', hq]))
   have ih := ins_spell r (qs ++ [(c, (k : Int))]) (some c) _ xs h hs2 (by intro e' he'; rw [last_snoc] at he'; injection he' with he'; subst he'; rfl)
   rw [List.append_assoc] at ih
   exact ih
theorem partsW_snoc (ys : List Inp) (x : Inp) : partsW (ys ++ [x]) = partStep (partsW ys) (codeW x) := by simp [partsW]
theorem spells_parts {ps : List Ent} {xs : List Inp} (h : Spells ps xs) (hn : xs.length ≤ 60) : partsW xs = ps := by
 induction h with
 | nil => rfl
 | snoc h hc hm hl ih =>
  rename_i qs ys c x m
  have hx : (inOf c).2 = true := by rw [hc]
  have hcx := (code_inOf hx).1
  rw [hc] at hcx
  simp only at hcx
  have ih := ih (by simp at hn; omega)
  have key : ∀ k, 1 ≤ k → k ≤ 60 → partsW (ys ++ List.replicate k x) = qs ++ [(c, (k : Int))] := by
   intro k
   induction k with
   | zero => intro h; omega
   | succ k ihk =>
    intro _ hk
    rw [List.replicate_succ', ← List.append_assoc, partsW_snoc, hcx]
    rcases Nat.eq_zero_or_pos k with h0 | h0
    ·subst h0
     rw [List.replicate_zero, List.append_nil, ih, step_new hl]
     rfl
    ·rw [ihk h0 (by omega), step_same]
     congr 2
     unfold wrap64
     simp only [Prod.mk.injEq, true_and]
     omega
  exact key m hm (by simp at hn; omega)
theorem ins_parts {ps : List Ent} {xs : List Inp} (h : insW ps = (xs, true)) : partsW xs = ps := by
 have hl := insW_len ps
 rw [h] at hl
 have := ins_spell ps [] none [] xs h Spells.nil (by simp)
 exact spells_parts this hl
def joinL (z : UInt8) : List (List UInt8) → List UInt8
 | [] => []
 | [a] => a
 | a :: b :: r => a ++ z :: joinL z (b :: r)
theorem join_cut (z : UInt8) : ∀ l, joinL z (cutL z l) = l
 | [] => rfl
 |b :: l => by
  obtain ⟨h, t, e⟩ := cutL_ne z l
  have ih := join_cut z l
  rw [cutL]
  rw [e] at ih ⊢
  by_cases hb : b = z
  ·rw [if_pos hb]
   show [] ++ z :: joinL z (h :: t) = b :: l
   rw [ih, hb]; rfl
  ·rw [if_neg hb]
   cases t with
   | nil => show b :: h = b :: l; rw [← ih]; rfl
   | cons a r =>
    show (b :: h) ++ z :: joinL z (a :: r) = b :: l
    rw [← ih]; rfl
theorem cut_one (z : UInt8) : ∀ l : List UInt8, z ∉ l → cutL z l = [l]
 | [], _ => rfl
 |b :: l, h => by
  rw [cutL, if_neg (fun e => h (by rw [e]; exact List.mem_cons_self ..)), cut_one z l (fun hm => h (List.mem_cons_of_mem _ hm))]
theorem cut_app (z : UInt8) : ∀ a b : List UInt8, z ∉ a → cutL z (a ++ z :: b) = a :: cutL z b
 | [], b, _ => by rw [List.nil_append, cutL, if_pos rfl]
 |x :: a, b, h => by
  rw [List.cons_append, cutL, if_neg (fun e => h (by rw [e]; exact List.mem_cons_self ..)), cut_app z a b (fun hm => h (List.mem_cons_of_mem _ hm))]
theorem toL_append (a b : ByteArray) : toL (a ++ b) = toL a ++ toL b := by
 unfold toL
 simp
theorem numL_app : ∀ (l r : List UInt8) (a : Int), 0 ≤ a → 0 ≤ numL (l ++ r) a → 0 ≤ numL l a ∧ numL (l ++ r) a = numL r (numL l a)
 | [], r, a, ha, _ => ⟨ha, rfl⟩
 |c :: l, r, a, ha, h => by
  rw [List.cons_append, numL] at h
  by_cases hc : (c.toNat : Int) < 48 ∨ 57 < (c.toNat : Int)
  ·rw [if_pos hc] at h; omega
  ·rw [if_neg hc] at h
   have ih := numL_app l r _ (by omega) h
   rw [List.cons_append, numL, numL, if_neg hc, if_neg hc]
   exact ih
theorem numL_join : ∀ (l r : List UInt8) (a : Int), 0 ≤ a → 0 ≤ numL l a → numL (l ++ r) a = numL r (numL l a)
 | [], r, a, ha, _ => rfl
 |c :: l, r, a, ha, h => by
  rw [numL] at h
  by_cases hc : (c.toNat : Int) < 48 ∨ 57 < (c.toNat : Int)
  ·rw [if_pos hc] at h; omega
  ·rw [if_neg hc] at h
   rw [List.cons_append, numL, numL, if_neg hc, if_neg hc]
   exact numL_join l r _ (by omega) h
def dig (d : Nat) : UInt8 := UInt8.ofNat (48 + d)
theorem toL_dig {d : Nat} (h : d < 10) : toL (digB d) = [dig d] := by rw [digB_eq d h]; rfl
theorem dig_nat {d : Nat} (h : d < 10) : (dig d).toNat = 48 + d := by
 unfold dig
 rw [UInt8.toNat_ofNat_of_lt' (by show 48 + d < 256; omega)]
theorem num_dec (n : Nat) : numL (toL (decN n)) 0 = (n : Int) ∧ (∀ b ∈ toL (decN n), 48 ≤ b.toNat ∧ b.toNat ≤ 57) ∧ (1 ≤ n → ∃ b r, toL (decN n) = b :: r ∧ b.toNat ≠ 48) ∧ toL (decN n) ≠ [] := by
 induction n using Nat.strongRecOn with
 | ind n ih =>
  by_cases h : n < 10
  ·rw [decN_small h, toL_dig h]
   have hd := dig_nat h
   refine ⟨?_, ?_, fun h1 => ⟨_, _, rfl, by omega⟩, by simp⟩
   ·rw [numL, if_neg (by omega), numL]; omega
   ·intro b hb
    rw [List.mem_singleton.1 hb]
    omega
  ·obtain ⟨i1, i2, i3, i4⟩ := ih (n / 10) (by omega)
   have hm : n % 10 < 10 := Nat.mod_lt _ (by decide)
   have hd := dig_nat hm
   rw [decN_big h, toL_append, toL_dig hm]
   refine ⟨?_, ?_, fun _ => ?_, by simp⟩
   ·rw [numL_join _ _ _ (Int.le_refl _) (by omega), i1, numL, if_neg (by omega), numL]
    omega
   ·intro b hb
    rcases List.mem_append.1 hb with hb | hb
    ·exact i2 b hb
    ·rw [List.mem_singleton.1 hb]; omega
   ·obtain ⟨b, r, e, hb⟩ := i3 (by omega)
    exact ⟨b, r ++ [dig (n % 10)], by rw [e]; rfl, hb⟩
theorem dig_of {b : UInt8} (h1 : 48 ≤ b.toNat) (h2 : b.toNat ≤ 57) : dig (b.toNat - 48) = b := by
 apply UInt8.toNat_inj.1
 rw [dig_nat (by omega)]
 omega
theorem dec_num : ∀ (f : Nat) (l : List UInt8), l.length = f → l ≠ [] → 0 ≤ numL l 0 → (∀ b r, l = b :: r → r ≠ [] → b.toNat ≠ 48) → l = toL (decN (numL l 0).toNat)
 | 0, l, hf, hne, _, _ => absurd (List.eq_nil_of_length_eq_zero hf) hne
 |f + 1, l, hf, hne, hn, hlead => by
  obtain ⟨l', d, rfl⟩ : ∃ l' d, l = l' ++ [d] := ⟨l.dropLast, l.getLast hne, (List.dropLast_concat_getLast hne).symm⟩
  obtain ⟨h1, h2⟩ := numL_app l' [d] 0 (Int.le_refl _) hn
  rw [h2] at hn ⊢
  have hd : 48 ≤ d.toNat ∧ d.toNat ≤ 57 := by
   rw [numL] at hn
   split at hn
   ·omega
   ·omega
  have hv : numL [d] (numL l' 0) = 10 * numL l' 0 + ((d.toNat : Int) - 48) := by rw [numL, if_neg (by omega), numL]
  rw [hv]
  cases hl' : l' with
  | nil =>
   have e : (10 * numL [] 0 + ((d.toNat : Int) - 48)).toNat = d.toNat - 48 := by simp [numL]; omega
   rw [e, decN_small (by omega), toL_dig (by omega), dig_of hd.1 hd.2]
   rfl
  | cons b r =>
   rw [← hl']
   have hne' : l' ≠ [] := by rw [hl']; simp
   have hb := hlead b (r ++ [d]) (by rw [hl']; rfl) (by simp)
   have ih := dec_num f l' (by simp at hf; omega) hne' h1 (fun b' r' e hr => by rw [hl'] at e; injection e with e1 e2; rw [← e1]; exact hb)
   have hpos : 1 ≤ numL l' 0 := by
    rcases Int.lt_or_le (numL l' 0) 1 with h0 | h0
    ·have hz : (numL l' 0).toNat = 0 := by omega
     rw [hz, decN_small (by decide), toL_dig (by decide)] at ih
     rw [hl'] at ih
     injection ih with e1 e2
     exact absurd (by rw [e1]; rfl) hb
    ·exact h0
   obtain ⟨q, hq⟩ := Int.eq_ofNat_of_zero_le h1
   rw [hq] at ih hpos ⊢
   have e : (10 * (q : Int) + ((d.toNat : Int) - 48)).toNat = 10 * q + (d.toNat - 48) := by omega
   rw [e, decN_big (by omega), toL_append, show (10 * q + (d.toNat - 48)) / 10 = q by omega, show (10 * q + (d.toNat - 48)) % 10 = d.toNat - 48 by omega, toL_dig (by omega), dig_of hd.1 hd.2]
   rw [show ((q : Int)).toNat = q from rfl] at ih
   rw [← ih]
theorem numW_L (s : ByteArray) : numW s = if (1 ≤ (toL s).length ∧ (toL s).length ≤ 7) ∧ ¬ (1 < (toL s).length ∧ (toL s).head? = some 48) then numL (toL s) 0 else -1 := by
 have hL := numGo_L s s.size 0 0 (by omega)
 rw [List.drop_zero] at hL
 have hlen := toL_len s
 have h48 : (1 < s.size) → ((byteAt s 0 = 48) ↔ (toL s).head? = some 48) := by
  intro h1
  have ha := toL_at s 0 (by omega)
  rw [List.drop_zero] at ha
  rw [byteAt_get (by omega)]
  constructor
  ·intro h
   rw [ha, List.head?_cons]
   congr 1
   exact UInt8.toNat_inj.1 (by have : (48 : UInt8).toNat = 48 := rfl; omega)
  ·intro hr
   rw [ha, List.head?_cons] at hr
   injection hr with hr
   rw [hr]; rfl
 unfold numW
 rw [hL, hlen]
 by_cases h1 : 1 < s.size
 ·by_cases h2 : byteAt s 0 = 48
  ·have h3 := (h48 h1).1 h2
   rw [if_neg (by rintro ⟨_, h⟩; exact h ⟨by omega, h2⟩), if_neg (by rintro ⟨_, h⟩; exact h ⟨h1, h3⟩)]
  ·have h3 : ¬ (toL s).head? = some 48 := fun h => h2 ((h48 h1).2 h)
   by_cases h4 : s.size ≤ 7
   ·rw [if_pos ⟨by omega, fun h => h2 h.2⟩, if_pos ⟨by omega, fun h => h3 h.2⟩]
   ·rw [if_neg (by rintro ⟨h, _⟩; omega), if_neg (by rintro ⟨h, _⟩; omega)]
 ·by_cases h4 : 1 ≤ s.size
  ·rw [if_pos ⟨by omega, fun h => by omega⟩, if_pos ⟨by omega, fun h => h1 h.1⟩]
  ·rw [if_neg (by rintro ⟨h, _⟩; omega), if_neg (by rintro ⟨h, _⟩; omega)]
theorem numW_dec {n : Nat} (h : n ≤ 9999999) : numW (decN n) = n := by
 obtain ⟨h1, h2, h3, h4⟩ := num_dec n
 rw [numW_L, if_pos, h1]
 have hs := decN_len 6 n (by omega)
 have hp := List.length_pos_iff.2 h4
 refine ⟨⟨hp, by rw [toL_len]; omega⟩, ?_⟩
 rintro ⟨hl, hr⟩
 rcases Nat.eq_zero_or_pos n with h0 | h0
 ·subst h0
  rw [decN_small (by decide), toL_dig (by decide)] at hl
  simp at hl
 ·obtain ⟨b, r', e, hb⟩ := h3 h0
  rw [e, List.head?_cons] at hr
  injection hr with hr1
  exact hb (by rw [hr1]; rfl)
theorem dec_numW {b : ByteArray} (h : 0 ≤ numW b) : b = decN (numW b).toNat ∧ numW b ≤ 9999999 := by
 rw [numW_L] at h ⊢
 split at h
 ·rename_i hc
  rw [if_pos hc]
  refine ⟨toL_inj (dec_num _ (toL b) rfl (by intro e; rw [e] at hc; simp at hc) h (fun x r e hr hx => hc.2 ⟨by rw [e]; cases r; exact absurd rfl hr; simp, by rw [e, List.head?_cons]; congr 1; exact UInt8.toNat_inj.1 hx⟩)), ?_⟩
  have hb := numL_bd (toL b) 0
  have hp : 10 ^ (toL b).length ≤ 10 ^ 7 := Nat.pow_le_pow_right (by decide) hc.1.2
  have : numL (toL b) ((0 : Nat) : Int) = numL (toL b) 0 := rfl
  omega
 ·omega
end Go.Proofs.YtemnlheidghbmaaGreatDoor
namespace Go.Proofs.YtemnlheidghbmaaGreatDoor
open Go.RowKit Go.Sort
def decZ (z : Int) : ByteArray := decN z.toNat
theorem nums_start (zs : List Int) (a : ByteArray) : zs.foldl (fun a z => a ++ (⟨#[32]⟩ : ByteArray) ++ decN z.toNat) a = a ++ numsW zs := by
 unfold numsW
 have : ∀ (zs : List Int) (a b : ByteArray), zs.foldl (fun a z => a ++ (⟨#[32]⟩ : ByteArray) ++ decN z.toNat) (a ++ b) = a ++ zs.foldl (fun a z => a ++ (⟨#[32]⟩ : ByteArray) ++ decN z.toNat) b := by
  intro zs
  induction zs with
  | nil => intro a b; rfl
  | cons z r ih =>
   intro a b
   simp only [List.foldl_cons]
   rw [ByteArray.append_assoc, ByteArray.append_assoc, ih, ByteArray.append_assoc]
 have h := this zs a ByteArray.empty
 rw [ByteArray.append_empty] at h
 exact h
theorem nums_cons (z : Int) (zs : List Int) : toL (numsW (z :: zs)) = 32 :: (toL (decZ z) ++ toL (numsW zs)) := by
 have h : numsW (z :: zs) = (ByteArray.empty ++ (⟨#[32]⟩ : ByteArray) ++ decN z.toNat) ++ numsW zs := nums_start zs _
 rw [h, toL_append, toL_append, toL_append]
 rfl
theorem dec_no {z : Int} {b : UInt8} (h : b.toNat < 48) : b ∉ toL (decZ z) := fun hb => by
 have := (num_dec z.toNat).2.1 b hb
 omega
theorem cut_nums : ∀ (zs : List Int) (a : List UInt8), (32 : UInt8) ∉ a → cutL 32 (a ++ toL (numsW zs)) = a :: zs.map fun z => toL (decZ z)
 |[], a, h => by
  rw [show toL (numsW []) = [] from rfl, List.append_nil, cut_one 32 a h]; rfl
 |z :: zs, a, h => by
  rw [nums_cons, cut_app 32 _ _ h, cut_nums zs _ (dec_no (by decide))]
  rfl
theorem join_nums : ∀ (zs : List Int) (a : List UInt8), joinL 32 (a :: zs.map fun z => toL (decZ z)) = a ++ toL (numsW zs)
 | [], a => by rw [show toL (numsW []) = [] from rfl, List.append_nil]; rfl
 |z :: zs, a => by
  rw [List.map_cons]
  show a ++ 32 :: joinL 32 (toL (decZ z) :: zs.map fun z => toL (decZ z)) = _
  rw [join_nums zs, nums_cons]
theorem cutW_nums {w : ByteArray} (zs : List Int) (h : (32 : UInt8) ∉ toL w) : cutW (w ++ numsW zs) 32 = w :: zs.map decZ := by
 apply map_toL_inj
 have hc := cutW_cut (w ++ numsW zs) 32
 refine (show List.map toL (cutW (w ++ numsW zs) 32) = _ from hc).trans ?_
 rw [toL_append, cut_nums zs _ h, List.map_cons, List.map_map]
 rfl
theorem lineGo_dec : ∀ (zs acc : List Int), (∀ z ∈ zs, Small z) → lineGo (zs.map decZ) acc = (acc ++ zs, true)
 | [], acc, _ => by rw [List.append_nil]; rfl
 |z :: zs, acc, h => by
  have hz := h z (List.mem_cons_self ..)
  have hn : numW (decZ z) = z := by
   unfold decZ
   rw [numW_dec (by have := hz.2; omega)]
   have := hz.1
   omega
  rw [List.map_cons, lineGo, hn, if_neg (by have := hz.1; omega), lineGo_dec zs _ (fun y hy => h y (List.mem_cons_of_mem _ hy)), List.append_assoc]
  rfl
theorem eq_bytes {a b : ByteArray} (h : (a.toList == b.toList) = true) : a = b := by
 have h1 : a.toList = b.toList := by simpa using h
 rw [Lib.toList_data, Lib.toList_data] at h1
 exact toL_inj h1
theorem lineW_to {w : ByteArray} (zs : List Int) (h : (32 : UInt8) ∉ toL w) (hz : ∀ z ∈ zs, Small z) : lineW (w ++ numsW zs) w = (zs, true) := by
 unfold lineW
 rw [cutW_nums zs h]
 simp only [List.drop_succ_cons, List.drop_zero]
 rw [lineGo_dec zs [] hz]
 simp
theorem lineGo_of : ∀ (ws : List ByteArray) (acc zs : List Int), lineGo ws acc = (zs, true) → ∃ ys, zs = acc ++ ys ∧ ws = ys.map decZ ∧ ∀ z ∈ ys, Small z
 |[], acc, zs, h => by
  simp only [lineGo, Prod.mk.injEq, and_true] at h
  exact ⟨[], by rw [List.append_nil]; exact h.symm, rfl, by simp⟩
 |b :: r, acc, zs, h => by
  rw [lineGo] at h
  split at h
  ·cases h
  ·rename_i hb
   obtain ⟨ys, h1, h2, h3⟩ := lineGo_of r _ zs h
   obtain ⟨d1, d2⟩ := dec_numW (b := b) (by omega)
   refine ⟨numW b :: ys, by rw [h1, List.append_assoc]; rfl, by rw [List.map_cons, ← h2]; congr 1, ?_⟩
   intro z hz
   rcases List.mem_cons.1 hz with rfl | hz
   ·exact ⟨by omega, d2⟩
   ·exact h3 z hz
theorem lineW_of {s w : ByteArray} {zs : List Int} (h : lineW s w = (zs, true)) : s = w ++ numsW zs ∧ ∀ z ∈ zs, Small z := by
 unfold lineW at h
 simp only [Prod.mk.injEq, Bool.and_eq_true] at h
 obtain ⟨h1, h2, h3⟩ := h
 obtain ⟨ys, e1, e2, e3⟩ := lineGo_of ((cutW s 32).drop 1) [] zs (Prod.ext h1 h2)
 rw [List.nil_append] at e1
 subst e1
 refine ⟨?_, e3⟩
 obtain ⟨w0, t, ht⟩ : ∃ w0 t, cutW s 32 = w0 :: t := by
  have hl := (cutW_len s 32).2
  cases hc : cutW s 32 with
  | nil => rw [hc] at hl; simp at hl
  | cons a r => exact ⟨a, r, rfl⟩
 rw [ht] at h3 e2
 simp only [List.getElem?_cons_zero, Option.map_some, Option.getD_some] at h3
 have hw := eq_bytes h3
 subst hw
 simp only [List.drop_succ_cons, List.drop_zero] at e2
 apply toL_inj
 have hj := join_cut 32 (toL s)
 have hc := cutW_cut s 32
 rw [show cutW s ((32 : UInt8).toNat : Int) = cutW s 32 from rfl, ht, e2] at hc
 rw [← hc, List.map_cons, List.map_map] at hj
 rw [toL_append, ← join_nums zs, ← hj]
 rfl
end Go.Proofs.YtemnlheidghbmaaGreatDoor
namespace Go.Proofs.YtemnlheidghbmaaGreatDoor
open Go.RowKit Go.Sort
theorem nums_no {b : UInt8} (h : b.toNat < 48) (h2 : b ≠ 32) : ∀ zs : List Int, b ∉ toL (numsW zs)
 | [] => by simp [numsW, toL]
 |z :: zs => by
  rw [nums_cons]
  intro hb
  rcases List.mem_cons.1 hb with hb | hb
  ·exact h2 hb
  ·rcases List.mem_append.1 hb with hb | hb
   ·exact dec_no h hb
   ·exact nums_no h h2 zs hb
def bodyB (w : ByteArray) (zs : List Int) : ByteArray := w ++ numsW zs
theorem body_no {w : ByteArray} (h : (10 : UInt8) ∉ toL w) (zs : List Int) : (10 : UInt8) ∉ toL (bodyB w zs) := by
 unfold bodyB
 rw [toL_append]
 intro hb
 rcases List.mem_append.1 hb with hb | hb
 ·exact h hb
 ·exact nums_no (by decide) (by decide) zs hb
theorem toL_ln (w : ByteArray) (zs : List Int) : toL (lnW w zs) = toL (bodyB w zs) ++ [10] := by
 unfold lnW bodyB
 rw [toL_append]
 rfl
theorem enc_L (r : Rep) : toL (encW r) = toL (bodyB sW1 [r.lv, r.pl, r.sc]) ++ 10 :: (toL (bodyB sW2 (flatP (partsW r.ins))) ++ 10 :: (toL (bodyB sW3 r.hs) ++ 10 :: (toL (bodyB sW4 [r.tag]) ++ 10 :: []))) := by
 rw [encW_lines, toL_append, toL_append, toL_append, toL_ln, toL_ln, toL_ln, toL_ln]
 simp only [List.append_assoc]
 rfl
theorem enc_cut (r : Rep) : cutW (encW r) 10 = [bodyB sW1 [r.lv, r.pl, r.sc], bodyB sW2 (flatP (partsW r.ins)), bodyB sW3 r.hs, bodyB sW4 [r.tag], ByteArray.empty] := by
 apply map_toL_inj
 have hc := cutW_cut (encW r) 10
 refine (show List.map toL (cutW (encW r) 10) = _ from hc).trans ?_
 rw [enc_L, cut_app 10 _ _ (body_no (by decide) _), cut_app 10 _ _ (body_no (by decide) _), cut_app 10 _ _ (body_no (by decide) _), cut_app 10 _ _ (body_no (by decide) _)]
 rfl
theorem flatP_app (a b : List Ent) : flatP (a ++ b) = flatP a ++ flatP b := by simp [flatP]
theorem pairs_flat : ∀ (ps : List Ent), pairsK (flatP ps) ((flatP ps).length / 2) = ps := by
 intro ps
 rw [flatP_len, Nat.mul_div_cancel_left _ (by decide)]
 have : ∀ k, k ≤ ps.length → pairsK (flatP ps) k = ps.take k := by
  intro k
  induction k with
  | zero => intro _; rfl
  | succ k ih =>
   intro hk
   have he := List.getElem?_eq_getElem (l := ps) (i := k) (by omega)
   rw [pairsK_succ, ih (by omega), List.take_add_one, he]
   have hf : flatP ps = flatP (ps.take k) ++ ([ps[k].1, ps[k].2] ++ flatP (ps.drop (k + 1))) := by
    rw [← List.append_assoc, ← flatP_succ he, ← flatP_app, List.take_append_drop]
   have hl : (flatP (ps.take k)).length = 2 * k := by rw [flatP_len, List.length_take]; omega
   have g0 : (flatP ps)[2 * k]? = some ps[k].1 := by rw [hf, List.getElem?_append_right (by omega), hl, Nat.sub_self]; rfl
   have g1 : (flatP ps)[2 * k + 1]? = some ps[k].2 := by rw [hf, List.getElem?_append_right (by omega), hl, show 2 * k + 1 - 2 * k = 1 by omega]; rfl
   rw [g0, g1]
   rfl
 rw [this ps.length (Nat.le_refl _), List.take_length]
theorem flat_pairs {zs : List Int} (h : zs.length % 2 = 0) : flatP (pairsK zs (zs.length / 2)) = zs := by
 have : ∀ k, 2 * k ≤ zs.length → flatP (pairsK zs k) = zs.take (2 * k) := by
  intro k
  induction k with
  | zero => intro _; rfl
  | succ k ih =>
   intro hk
   have h0 := List.getElem?_eq_getElem (l := zs) (i := 2 * k) (by omega)
   have h1 := List.getElem?_eq_getElem (l := zs) (i := 2 * k + 1) (by omega)
   rw [pairsK_succ, show flatP (pairsK zs k ++ [((zs[2 * k]?).getD 0, (zs[2 * k + 1]?).getD 0)]) = flatP (pairsK zs k) ++ [(zs[2 * k]?).getD 0, (zs[2 * k + 1]?).getD 0] by simp [flatP], ih (by omega), show 2 * (k + 1) = 2 * k + 1 + 1 by omega, h0, h1]
   have e : zs.take (2 * k + 1 + 1) = zs.take (2 * k) ++ [zs[2 * k]] ++ [zs[2 * k + 1]] := by rw [List.take_add_one, List.take_add_one, h0, h1]; rfl
   rw [e, List.append_assoc]
   rfl
 rw [this _ (by omega), List.take_of_length_le (by omega)]
theorem rep_small {r : Rep} (h : repOk r = true) : (∀ z ∈ [r.lv, r.pl, r.sc], Small z) ∧ (∀ z ∈ flatP (partsW r.ins), Small z) ∧ (∀ z ∈ r.hs, Small z) ∧ ∀ z ∈ [r.tag], Small z := by
 obtain ⟨f1, f2, f3, f4, f5, f6, f7, f8⟩ := repOk_facts h
 refine ⟨?_, ?_, ?_, ?_⟩
 ·intro z hz
  simp at hz
  unfold Small
  rcases hz with rfl | rfl | rfl <;> omega
 ·intro z hz
  simp only [flatP, List.mem_flatMap] at hz
  obtain ⟨e, he, hz⟩ := hz
  have := parts_bd r.ins f6 (by omega) e he
  simp at hz
  unfold Small
  rcases hz with rfl | rfl <;> omega
 ·intro z hz
  have := f5 z hz
  unfold Small
  omega
 ·intro z hz
  unfold Small
  rw [List.mem_singleton.1 hz]
  omega
theorem insOk_of {r : Rep} (h : repOk r = true) : insOk r.ins = true := by
 simp only [repOk, Bool.and_eq_true] at h
 exact h.1.1.2
theorem read_self {r : Rep} (h : repOk r = true) : readGo ([r.lv, r.pl, r.sc], true) (flatP (partsW r.ins), true) (r.hs, true) ([r.tag], true) = (r, true) := by
 have hl : (flatP (partsW r.ins)).length % 2 = 0 := by rw [flatP_len]; omega
 have hp : insW (partsW r.ins) = (r.ins, true) := parts_ins (insOk_of h)
 unfold readGo
 rw [if_pos (by simp [hl])]
 unfold readR
 simp only [pairs_flat, hp, atI, List.getElem?_cons_zero, List.getElem?_cons_succ, Option.getD_some, Bool.true_and]
 rw [show (⟨r.lv, r.pl, r.sc, r.ins, r.hs, r.tag⟩ : Rep) = r from rfl, h]
theorem dec_enc {r : Rep} (h : repOk r = true) : decW (encW r) = (r, true) := by
 obtain ⟨s1, s2, s3, s4⟩ := rep_small h
 unfold decW
 rw [enc_cut]
 rw [if_pos ⟨rfl, (by show ByteArray.empty.toList.isEmpty = true; rw [Lib.toList_data]; rfl)⟩]
 have hr : readL [bodyB sW1 [r.lv, r.pl, r.sc], bodyB sW2 (flatP (partsW r.ins)), bodyB sW3 r.hs, bodyB sW4 [r.tag], ByteArray.empty] = (r, true) := by
  unfold readL
  show readGo (lineW (bodyB sW1 _) sW1) (lineW (bodyB sW2 _) sW2) (lineW (bodyB sW3 _) sW3) (lineW (bodyB sW4 _) sW4) = _
  unfold bodyB
  rw [lineW_to _ (by decide) s1, lineW_to _ (by decide) s2, lineW_to _ (by decide) s3, lineW_to _ (by decide) s4]
  exact read_self h
 rw [hr]
 rfl
theorem len3 {zs : List Int} (h : zs.length = 3) : zs = [atI zs 0, atI zs 1, atI zs 2] := by
 match zs, h with
 | [a, b, c], _ => rfl
theorem len1 {zs : List Int} (h : zs.length = 1) : zs = [atI zs 0] := by
 match zs, h with
 | [a], _ => rfl
theorem len5 {ls : List ByteArray} (h : ls.length = 5) : ∃ a b c d e, ls = [a, b, c, d, e] := by
 match ls, h with
 | [a, b, c, d, e], _ => exact ⟨a, b, c, d, e, rfl⟩
theorem empty_of {b : ByteArray} (h : b.toList.isEmpty = true) : b = ByteArray.empty := by
 apply toL_inj
 rw [Lib.toList_data] at h
 show toL b = []
 unfold toL
 exact List.isEmpty_iff.1 h
theorem readGo_of {h i s t : List Int × Bool} {r : Rep} (e : readGo h i s t = (r, true)) : h = ([r.lv, r.pl, r.sc], true) ∧ i = (flatP (partsW r.ins), true) ∧ s = (r.hs, true) ∧ t = ([r.tag], true) ∧ repOk r = true := by
 unfold readGo at e
 split at e
 ·rename_i hc
  simp only [Bool.and_eq_true, decide_eq_true_eq] at hc
  obtain ⟨⟨⟨⟨⟨⟨c1, c2⟩, c3⟩, c4⟩, c5⟩, c6⟩, c7⟩ := hc
  obtain ⟨h0, hb⟩ := h
  obtain ⟨i0, ib⟩ := i
  obtain ⟨s0, sb⟩ := s
  obtain ⟨t0, tb⟩ := t
  simp only at c1 c2 c3 c4 c5 c6 c7
  subst c1 c2 c3 c4
  simp only [readR, Prod.mk.injEq, Bool.and_eq_true] at e
  obtain ⟨e1, e2, e3⟩ := e
  rw [e1] at e3
  have hp : insW (pairsK i0 (i0.length / 2)) = ((insW (pairsK i0 (i0.length / 2))).1, true) := Prod.ext rfl e2
  have hpp := ins_parts hp
  subst e1
  refine ⟨?_, ?_, rfl, ?_, e3⟩
  ·rw [← len3 c5]
  ·simp only
   rw [hpp, flat_pairs c6]
  ·rw [← len1 c7]
 ·cases e
theorem enc_dec {s : ByteArray} {r : Rep} (h : decW s = (r, true)) : repOk r = true ∧ s = encW r := by
 unfold decW at h
 split at h
 ·rename_i hc
  split at h
  ·obtain ⟨L0, L1, L2, L3, L4, hls⟩ := len5 hc.1
   rename_i h2
   have h4 : L4 = ByteArray.empty := by
    have h5 := hc.2
    rw [hls] at h5
    exact empty_of h5
   subst h4
   injection h with h _
   have hr : readL (cutW s 10) = (r, true) := Prod.ext h h2
   rw [hls] at hr
   have hr2 : readGo (lineW L0 sW1) (lineW L1 sW2) (lineW L2 sW3) (lineW L3 sW4) = (r, true) := hr
   obtain ⟨e0, e1, e2, e3, e4⟩ := readGo_of hr2
   refine ⟨e4, ?_⟩
   obtain ⟨g0, _⟩ := lineW_of e0
   obtain ⟨g1, _⟩ := lineW_of e1
   obtain ⟨g2, _⟩ := lineW_of e2
   obtain ⟨g3, _⟩ := lineW_of e3
   apply toL_inj
   rw [enc_L]
   have hj := join_cut 10 (toL s)
   have hcc := cutW_cut s 10
   rw [show cutW s ((10 : UInt8).toNat : Int) = cutW s 10 from rfl, hls] at hcc
   rw [← hcc] at hj
   rw [← hj]
   show toL L0 ++ 10 :: (toL L1 ++ 10 :: (toL L2 ++ 10 :: (toL L3 ++ 10 :: []))) = _
   rw [g0, g1, g2, g3]
   rfl
  ·cases h
 ·cases h
theorem readGo'_of : ∀ (ws : List ByteArray) (acc zs : List Int), lineGo ws acc = (zs, true) → readGo' ws acc = (zs, true)
 | [], acc, zs, h => h
 |b :: r, acc, zs, h => by
  rw [lineGo] at h
  split at h
  ·cases h
  ·rename_i hb
   rw [readGo', numW_atoi (by omega)]
   exact readGo'_of r _ zs h
theorem readI_of {s w : ByteArray} {zs : List Int} (h : lineW s w = (zs, true)) : readI s = (zs, true) := by
 unfold lineW at h
 simp only [Prod.mk.injEq, Bool.and_eq_true] at h
 exact readGo'_of _ [] zs (Prod.ext h.1 h.2.1)
theorem decI_enc {r : Rep} (h : repOk r = true) : decI (encW r) = (r, true) := by
 obtain ⟨s1, s2, s3, s4⟩ := rep_small h
 unfold decI
 rw [enc_cut]
 refine (if_pos (by rfl)).trans ?_
 have hr : readGo (readI (bodyB sW1 [r.lv, r.pl, r.sc])) (readI (bodyB sW2 (flatP (partsW r.ins)))) (readI (bodyB sW3 r.hs)) (readI (bodyB sW4 [r.tag])) = (r, true) := by
  unfold bodyB
  rw [readI_of (lineW_to _ (by decide) s1), readI_of (lineW_to _ (by decide) s2), readI_of (lineW_to _ (by decide) s3), readI_of (lineW_to _ (by decide) s4)]
  exact read_self h
 show endI (encW r) (readGo (readI (bodyB sW1 _)) (readI (bodyB sW2 _)) (readI (bodyB sW3 _)) (readI (bodyB sW4 _))) = _
 rw [hr]
 simp [endI, textW, h]
theorem decI_of {s : ByteArray} {r : Rep} (h : decI s = (r, true)) : repOk r = true ∧ s = encW r := by
 unfold decI at h
 split at h
 ·generalize hq : readGo (readI (atS (cutW s 10) 0)) (readI (atS (cutW s 10) 1)) (readI (atS (cutW s 10) 2)) (readI (atS (cutW s 10) 3)) = q at h
  unfold endI at h
  split at h
  ·rename_i hc
   injection h with h _
   simp only [Bool.and_eq_true] at hc
   have hq2 : readGo (readI (atS (cutW s 10) 0)) (readI (atS (cutW s 10) 1)) (readI (atS (cutW s 10) 2)) (readI (atS (cutW s 10) 3)) = (r, true) := by rw [hq]; exact Prod.ext h hc.1
   obtain ⟨_, _, _, _, e4⟩ := readGo_of hq2
   have ht := eq_bytes hc.2
   rw [h, textW, if_pos e4] at ht
   exact ⟨e4, ht.symm⟩
  ·cases h
 ·cases h
theorem decI_no {s : ByteArray} (h : (decI s).2 = false) : decI s = (rep0, false) := by
 unfold decI at h ⊢
 split
 ·rename_i hc
  rw [if_pos hc] at h
  unfold endI at h ⊢
  split
  ·rename_i h2
   rw [if_pos h2] at h
   cases h
  ·rfl
 ·rfl
theorem decW_no {s : ByteArray} (h : (decW s).2 = false) : decW s = (rep0, false) := by
 unfold decW at h ⊢
 split
 ·rename_i hc
  rw [if_pos hc] at h
  split
  ·rename_i h2
   rw [if_pos h2] at h
   cases h
  ·rfl
 ·rfl
theorem decI_eq (s : ByteArray) : decI s = decW s := by
 cases h1 : (decW s).2
 ·cases h2 : (decI s).2
  ·rw [decW_no h1, decI_no h2]
  ·obtain ⟨hr, hs⟩ := decI_of (r := (decI s).1) (Prod.ext rfl h2)
   have := dec_enc hr
   rw [← hs] at this
   rw [this] at h1
   cases h1
 ·obtain ⟨hr, hs⟩ := enc_dec (r := (decW s).1) (Prod.ext rfl h1)
  have := decI_enc hr
  rw [← hs] at this
  rw [this]
  exact (Prod.ext rfl h1.symm)
end Go.Proofs.YtemnlheidghbmaaGreatDoor
namespace Go.Proofs.YtemnlheidghbmaaGreatDoor
open Go.RowKit Go.Sort
def DrTx (w : World) (e : Ending) (w' : World) : Prop := ∃ s : ByteArray, e = .returned (.string s) ∧ s.size ≤ 10001 ∧ Below w.heap.size w w'
theorem textW_le (r : Rep) : (textW r).size ≤ 10000 := by
 unfold textW
 split
 ·rename_i h
  obtain ⟨s1, s2, s3, s4⟩ := rep_small h
  obtain ⟨f1, f2, f3, f4, f5, f6, f7, f8⟩ := repOk_facts h
  have z1 := lnW_size (word := ⟨#[114, 101, 112, 108, 97, 121]⟩) s1
  have z2 := lnW_size (word := ⟨#[105, 110, 112, 117, 116, 115]⟩) s2
  have z3 := lnW_size (word := ⟨#[104, 97, 115, 104, 101, 115]⟩) s3
  have z4 := lnW_size (word := ⟨#[116, 97, 103]⟩) s4
  have hp : (partsW r.ins).length ≤ r.ins.length := by
   have hs := parts_spell (insOk_of h) r.ins.length (Nat.le_refl _)
   rw [List.take_length] at hs
   have : ∀ {ps : List Ent} {xs : List Inp}, Spells ps xs → ps.length ≤ xs.length := by
    intro ps xs hh
    induction hh with
    | nil => exact Nat.le_refl _
    | snoc _ _ hm _ ih => simp; omega
   exact this hs
  rw [flatP_len] at z2
  rw [encW_lines]
  simp only [ByteArray.size_append]
  have a1 : (⟨#[114, 101, 112, 108, 97, 121]⟩ : ByteArray).size = 6 := rfl
  have a2 : (⟨#[105, 110, 112, 117, 116, 115]⟩ : ByteArray).size = 6 := rfl
  have a3 : (⟨#[104, 97, 115, 104, 101, 115]⟩ : ByteArray).size = 6 := rfl
  have a4 : (⟨#[116, 97, 103]⟩ : ByteArray).size = 3 := rfl
  simp only [List.length_cons, List.length_nil] at z1 z4
  omega
 ·exact Nat.zero_le _
set_option maxRecDepth 100000 in
set_option maxHeartbeats 4000000 in
theorem drawReplayDecode_any (A : Option Addr) (n c : Nat) (zs : List Int) (w : World) (hr : RdI .u8 w A n zs) (hz : ∀ z ∈ zs, 0 ≤ z ∧ z ≤ 255) (hn : n ≤ c) (hc : c ≤ maxLen) :
  Calls Tryz.prog 33 #[.slice A n c] w (DrTx w) := by
 have HR := Lib.hid hr
 have HZS := Lib.hid hz
 clear hr hz
 go_enter Tryz.func33, Tryz.ntmps33
 go_wp2_with fail
 refine (l6Open_any _ _ _ zs _ HR.out HZS.out hn hc).mono ?_
 rintro e w1 ⟨g, rfl, hg, hR1, hb1⟩
 have hgl := hR1.lt
 have HB := Lib.hid hb1
 have HR1 := Lib.hid hR1
 clear hb1 hR1
 go_wp2_with fail
 refine (l92Good_any g 0 _ HR1.out (by omega)).mono ?_
 rintro e w2 ⟨l, ws, gs, key, r, si, sh, q, rfl, hol, hor, h1, h2, hq, hD⟩
 have hz2 := hD.2.size
 replace HB := Lib.hid (HB.out.trans (hD.2.below (by omega) (by omega)))
 have HRD := Lib.hid hD.1
 have HOR := Lib.hid hor
 clear hD hor hol
 go_upto_region 3 with (fail)
 refine into_world (fun Y => Rdr Y g q ∧ Below w.heap.size w Y ∧ Blk Y (w2.heap.size + 1) 33 (repC r si sh) ∧ OwRep Y r si sh) ⟨(HRD.out.next (ba (Below.refl _ _))).next (ba (Below.refl _ _)), (HB.out.alloc HB.out.size _).alloc (by simp; have := HB.out.size; omega) _, Blk.newAt _ _ _ _ (by simp), (HOR.out.next (ba (Below.refl _ _))).next (ba (Below.refl _ _))⟩ ?_
 rintro Y ⟨hR, hB, hKX, ho⟩
 replace HRD := Lib.hid hR
 replace HB := Lib.hid hB
 have KX := Lib.hid hKX
 replace HOR := Lib.hid ho
 have hwx : w.heap.size ≤ w2.heap.size + 1 := by omega
 have hgx : g < w2.heap.size + 1 := by omega
 generalize w2.heap.size + 1 = X at *
 clear hR hB hKX ho
 go_wp2_with fail
 refine (pick_any g 4 q _ HRD.out (by omega)).mono ?_
 rintro e w3 ⟨v, rfl, hv0, hv1, hR, hO⟩
 have hrb : ∃ cs, Blk Y g 114 cs := by
  obtain ⟨_, _, _, _, hbk, _⟩ := HRD.out
  exact ⟨_, hbk⟩
 obtain ⟨cs, hrb⟩ := hrb
 replace HOR := Lib.hid (HOR.out.onlyT hrb (by decide) (by decide) hO)
 replace HRD := Lib.hid hR
 replace HB := Lib.hid (HB.out.trans (hO.below (by omega) HB.out.size))
 have hXY := KX.out.lt
 replace KX := Lib.hid (KX.out.only hO (by omega))
 clear hR hO hv1 hrb
 by_cases hv : v = 0
 ·subst hv
  have cx := fun o => KX.out.cell o
  have fx := fun o => KX.out.frozen o
  have zx := KX.out.lt
  go_wp2_with fail
  refine (l92Lie_any g (q + 1) key r si sh _ HRD.out (by omega) HOR.out.rd h1 h2).mono ?_
  clear HOR cx fx zx h1 h2
  rintro e w4 ⟨r, si, sh, q4, rfl, hor, h1, h2, hq4, hD⟩
  have HOR := Lib.hid hor
  have hgY := HRD.out.lt
  replace HB := Lib.hid (HB.out.trans (hD.2.below (by omega) HB.out.size))
  replace KX := Lib.hid (KX.out.only hD.2 (by omega))
  replace HRD := Lib.hid hD.1
  clear hor hD
  have HX6 := Lib.hid (only6' (q := X) (.inl rfl) (Only.refl X w4) (.int .i64 r.lv) (.int .i64 r.pl) (.int .i64 r.sc) (.slice si.a si.n si.c) (.slice sh.a sh.n sh.c) (.int .i64 r.tag))
  have KX3 := Lib.hid (KX.out.all6 (.int .i64 r.lv) (.int .i64 r.pl) (.int .i64 r.sc) (.slice si.a si.n si.c) (.slice sh.a sh.n sh.c) (.int .i64 r.tag))
  have HOR3 := Lib.hid (HOR.out.onlyT KX.out (by decide) (by decide) HX6.out)
  have HB3 := Lib.hid (HB.out.trans (HX6.out.below (by omega) HB.out.size))
  have HRD3 := Lib.hid (HRD.out.only HX6.out hgx)
  have cx := fun o => KX.out.cell o
  have fx := fun o => KX.out.frozen o
  have zx := KX.out.lt
  go_upto_region 5 with (fail)
  refine into_world (fun Y => Blk Y X 33 (repC r si sh) ∧ OwRep Y r si sh ∧ Below w.heap.size w Y ∧ Rdr Y g q4) ⟨KX3.out, HOR3.out, HB3.out, HRD3.out⟩ ?_
  rintro Z ⟨hK, ho, hB, hR⟩
  replace KX := Lib.hid hK
  replace HOR := Lib.hid ho
  replace HB := Lib.hid hB
  replace HRD := Lib.hid hR
  clear hK ho hB hR KX3 HOR3 HB3 HRD3 HX6 cx fx zx
  have cx := fun o => KX.out.cell o
  have fx := fun o => KX.out.frozen o
  have zx := KX.out.lt
  go_upto_region 5 with (fail)
  go_wp2_with fail
  refine (specReplayEncode_any r si sh _ HOR.out.rd).mono ?_
  have hts := textW_le r
  generalize textW r = T at *
  rintro e w5 ⟨rfl, hb⟩
  replace HRD := Lib.hid (HRD.out.next hb)
  replace HB := Lib.hid (HB.out.trans (hb.mono HB.out.size))
  clear hb
  go_wp2_with fail
  refine (l92Text_any g q4 10000 T _ HRD.out (by omega) hts (by omega) (by omega)).mono ?_
  rintro e w6 ⟨s, rfl, hs, ⟨q6, hq6, hR6⟩, hO6⟩
  replace HB := Lib.hid (HB.out.trans (hO6.below (by omega) HB.out.size))
  clear hR6 hO6
  go_wp2_with fail
  go_ret
  exact ⟨_, rfl, hs, HB.out⟩
 ·have hv' : (v == 0) = false := by simp [hv]
  have cx := fun o => KX.out.cell o
  have fx := fun o => KX.out.frozen o
  have zx := KX.out.lt
  go_upto_region 5 with (fail)
  go_wp2_with fail
  refine (specReplayEncode_any r si sh _ HOR.out.rd).mono ?_
  have hts := textW_le r
  generalize textW r = T at *
  rintro e w5 ⟨rfl, hb⟩
  replace HRD := Lib.hid (HRD.out.next hb)
  replace HB := Lib.hid (HB.out.trans (hb.mono HB.out.size))
  clear hb
  go_wp2_with fail
  refine (l92Text_any g (q + 1) 10000 T _ HRD.out (by omega) hts (by omega) (by omega)).mono ?_
  rintro e w6 ⟨s, rfl, hs, ⟨q6, hq6, hR6⟩, hO6⟩
  replace HB := Lib.hid (HB.out.trans (hO6.below (by omega) HB.out.size))
  clear hR6 hO6
  go_wp2_with fail
  go_ret
  exact ⟨_, rfl, hs, HB.out⟩
end Go.Proofs.YtemnlheidghbmaaGreatDoor
namespace Go.Proofs.YtemnlheidghbmaaGreatDoor
open Go.RowKit Go.Sort
theorem fieldsOf_of {P : Program} {t : TypeId} {fs : Array Field} (h : P.underlying t = some (.struct fs)) : P.fieldsOf t = fs := by unfold Program.fieldsOf; rw [h]
end Go.Proofs.YtemnlheidghbmaaGreatDoor
namespace Go.Proofs.YtemnlheidghbmaaGreatDoor
open Go.RowKit Go.Sort
theorem eqN_run (e : Inp) (w : World) : (Op.equalIn 10000 80 (.agg #[.int .i64 e.s, .int .i64 e.p, .bool e.z]) (.agg #[.int .i64 e.s, .int .i64 e.p, .bool e.z])).run Tryz.prog w = .ok true w := by
 obtain ⟨a, b, c⟩ := e
 have hf := fieldsOf_of Tryz.underlying80
 rw [show (10000 : Nat) = 9999 + 1 from rfl, run_equalIn_struct w 9999 80 _ _ (by rw [hf]; exact Tryz.underlying80) (by kernel_rfl), hf]
 cases c <;> simp [Op.eqFields, go_sem]
set_option maxHeartbeats 1000000 in
theorem sameInputs_same (A A' : Option Addr) (n c c' : Nat) (xs : List Inp) (w : World) (hr : RdN w A n xs) (hr' : RdN w A' n xs) (hn : n ≤ 1048576) :
  Calls Tryz.prog 77 #[.slice A n c, .slice A' n c'] w fun e w' => e = .returned (.bool true) ∧ Below w.heap.size w w' := by
 have HR := Lib.hid hr
 have HR' := Lib.hid hr'
 clear hr hr'
 go_enter Tryz.func77, Tryz.ntmps77
 go_wp2
 go_loopw [5] (fun i wr => ∃ k : Nat, k ≤ n ∧ i = .int .i64 k ∧ Hid (Below w.heap.size w wr)) (fun i _ => n - (intOf i).toNat)
 case atStart => exact ⟨0, Nat.zero_le _, rfl, Below.refl _ _⟩
 case round =>
  obtain ⟨k, hk, rfl, HB⟩ := hrel
  by_cases hlt : k < n
  ·obtain ⟨b, off, e, rfl, hb, he, h0, h1, h2⟩ := RdN.cells (HR.out.below HB.out) hlt
   obtain ⟨b', off', e', rfl, hb', he', h0', h1', h2'⟩ := RdN.cells (HR'.out.below HB.out) hlt
   obtain rfl : e = e' := by rw [he] at he'; exact Option.some.inj he'
   clear he he'
   have hG := fun (x y : Operand) (W : World) => run_eqGuard_agg (P := Tryz.prog) W .neq 80 x y #[.int .i64 e.s, .int .i64 e.p, .bool e.z] #[.int .i64 e.s, .int .i64 e.p, .bool e.z] (by kernel_rfl)
   have hN := fun (W : World) => run_neq_struct (P := Tryz.prog) W 80 #[.int .i64 e.s, .int .i64 e.p, .bool e.z] #[.int .i64 e.s, .int .i64 e.p, .bool e.z]
   simp only [eqN_run, Result.andThen_ok] at hN
   go_wp2
   go_quiet (fail)
   go_wp2
   exact ⟨⟨k + 1, by omega, by go_num, ⟨HB.out.os, HB.out.tape, HB.out.output, HB.out.size, HB.out.block⟩⟩, by simp [intOf]; omega⟩
  ·go_wp2
   go_ret
   exact ⟨rfl, HB.out⟩
set_option maxRecDepth 100000 in
set_option maxHeartbeats 4000000 in
theorem sameReplay_same (r : Rep) (si sh ti th : Sl) (w : World) (hr : RdR w r si sh) (hr' : RdR w r ti th) :
  Calls Tryz.prog 32 #[repV r si sh, repV r ti th] w fun e w' => e = .returned (.bool true) ∧ Below w.heap.size w w' := by
 obtain ⟨hi, hh, ⟨_, hn1⟩, _, hn2⟩ := hr
 obtain ⟨hi', hh', _, _, _⟩ := hr'
 have e1 : si.n = ti.n := hi.len.symm.trans hi'.len
 have e2 : sh.n = th.n := hh.len.symm.trans hh'.len
 have HI := Lib.hid hi
 have HH := Lib.hid hh
 obtain ⟨ta, tn, tc⟩ := ti
 obtain ⟨ua, un, uc⟩ := th
 simp only at e1 e2 hi' hh'
 subst e1 e2
 have HI' := Lib.hid hi'
 have HH' := Lib.hid hh'
 clear hi hh hi' hh'
 have HB := Lib.hid (((Below.refl w.heap.size w).alloc (Nat.le_refl _) (.cells (repC r si sh) 33)).alloc (by simp) (.cells (repC r ⟨ta, si.n, tc⟩ ⟨ua, sh.n, uc⟩) 33))
 go_enter Tryz.func32, Tryz.ntmps32
 go_wp2_with fail
 refine (sameInputs_same si.a ta si.n si.c tc r.ins _ (HI.out.below HB.out) (HI'.out.below HB.out) hn1).mono ?_
 rintro e w1 ⟨rfl, hb⟩
 have KA := Lib.hid (((Blk.new w 33 (repC r si sh)).alloc (.cells (repC r ⟨ta, si.n, tc⟩ ⟨ua, sh.n, uc⟩) 33)).next hb)
 have KB := Lib.hid ((Blk.newAt (w.alloc (.cells (repC r si sh) 33)) 33 (repC r ⟨ta, si.n, tc⟩ ⟨ua, sh.n, uc⟩) (w.heap.size + 1) (by simp)).next hb)
 replace HB := Lib.hid (below_at HB.out (by have := HB.out.size; simpa using this) hb)
 clear hb
 have ca := fun o => KA.out.cell o
 have fa := fun o => KA.out.frozen o
 have za := KA.out.lt
 have cb := fun o => KB.out.cell o
 have fb := fun o => KB.out.frozen o
 have zb := KB.out.lt
 go_wp2_with fail
 refine (sameInts_same sh.a ua sh.n sh.c uc r.hs _ (HH.out.below HB.out) (HH'.out.below HB.out) hn2).mono ?_
 rintro e w2 ⟨rfl, hb⟩
 replace HB := Lib.hid (below_next HB.out hb)
 clear hb
 go_wp2_with fail
 go_ret
 exact ⟨rfl, HB.out⟩
end Go.Proofs.YtemnlheidghbmaaGreatDoor

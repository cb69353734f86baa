/-
  Lemmas and contracts: Eh Iq Ie Il. No condition.
-/
import Derived.Shelf.Strings.Split
import Derived.Lib.AtoiAll
import Derived.Lib.AtoiErrMem
import Derived.BigRegion
import Derived.Test.YtemnlheidghbmaaGreatDoorKb21
import Derived.Test.YtemnlheidghbmaaGreatDoorKb24
import Derived.Test.YtemnlheidghbmaaGreatDoorKb25
namespace Go.Proofs.YtemnlheidghbmaaGreatDoor
open Go.RowKit Go.Sort
def atS (ls : List ByteArray) (k : Nat) : ByteArray := (ls[k]?).getD ByteArray.empty
def readL (ls : List ByteArray) : Rep × Bool := readGo (lineW (atS ls 0) sW1) (lineW (atS ls 1) sW2) (lineW (atS ls 2) sW3) (lineW (atS ls 3) sW4)
def decW (s : ByteArray) : Rep × Bool :=
 if (cutW s 10).length = 5 ∧ (atS (cutW s 10) 4).toList.isEmpty = true then (if (readL (cutW s 10)).2 then ((readL (cutW s 10)).1, true) else (rep0, false)) else (rep0, false)
set_option maxRecDepth 100000 in
set_option maxHeartbeats 4000000 in
theorem specReplayDecode_any (s : ByteArray) (w : World) (hn : s.size ≤ 1048576) :
  Calls Tryz.prog 34 #[.string s] w (RepPost w.heap.size (decW s) w) := by
 go_enter Tryz.func34, Tryz.ntmps34
 go_wp2_with fail
 refine (l23Cut_any s 10 _ hn).mono ?_
 rintro e w1 ⟨A, c, rfl, hO, hb⟩
 have KR := Lib.hid ((Blk.new w 33 (repC rep0 ⟨none, 0, 0⟩ ⟨none, 0, 0⟩)).next hb)
 have HB := Lib.hid (ba hb)
 obtain ⟨L, hL⟩ : ∃ L, (cutW s 10).length = L := ⟨_, rfl⟩
 rw [hL] at hO ⊢
 have HL := Lib.hid hL
 have HRW := Lib.hid (Ow.rd encTx_len (by decide) hO)
 have HSZ := Lib.hid (cutW_size s 10)
 clear hO hb hL
 by_cases h5 : L = 5
 rotate_left
 ·have h5' : ((L : Int) == 5) = false := by simp; omega
  have h5n : ¬ (L : Int) = 5 := by omega
  have HF := Lib.hid (show decW s = (rep0, false) by unfold decW; simp [HL.out, h5])
  have cr := fun o => KR.out.cell o
  have fr := fun o => KR.out.frozen o
  have zr := KR.out.lt
  go_wp2_with fail
  refine bodyPost_ret (v := .tuple #[repV rep0 ⟨none, 0, 0⟩ ⟨none, 0, 0⟩, .bool false]) (by simp [results, Tryz.results34, go_sem, cr, rep0]) rfl ?_
  unfold RepPost
  rw [HF.out]
  exact ⟨_, _, rfl, rdR_zero _, by have hb := HB.out; go_grown⟩
 subst h5
 obtain ⟨b, off, x4, hA, hbb, hx4, hc4⟩ := RdW.cells HRW.out (k := 4) (by omega)
 subst hA
 have H4 := Lib.hid (show atS (cutW s 10) 4 = x4 by simp [atS, hx4])
 clear hx4
 cases hz : x4.toList.isEmpty
 ·have hz2 := hz
  have HZ := Lib.hid hz
  clear hz
  have HF := Lib.hid (show decW s = (rep0, false) by unfold decW; simp [HL.out, H4.out, HZ.out])
  have cr := fun o => KR.out.cell o
  have fr := fun o => KR.out.frozen o
  have zr := KR.out.lt
  go_wp2_with fail
  refine bodyPost_ret (v := .tuple #[repV rep0 ⟨none, 0, 0⟩ ⟨none, 0, 0⟩, .bool false]) (by simp [results, Tryz.results34, go_sem, cr, rep0]) rfl ?_
  unfold RepPost
  rw [HF.out]
  exact ⟨_, _, rfl, rdR_zero _, by have hb := HB.out; go_grown⟩
 have hz2 := hz
 have HZ := Lib.hid hz
 clear hz
 obtain ⟨L0, L1, L2, L3, L4, hls⟩ : ∃ a b c d e, cutW s 10 = [a, b, c, d, e] := by
  have h := HL.out
  match hq : cutW s 10, h with
  | [a, b, c, d, e], _ => exact ⟨a, b, c, d, e, rfl⟩
 have HLS := Lib.hid hls
 have hread := HRW.out
 rw [hls] at hread
 have HRD := Lib.hid hread
 have hsz : ∀ b ∈ [L0, L1, L2, L3], b.size ≤ 1048576 := fun b hb => by
  have := HSZ.out b (by rw [hls]; simp at hb ⊢; rcases hb with h | h | h | h <;> simp [h])
  omega
 have HSZ4 := Lib.hid hsz
 clear hls hread hsz
 go_wp2_with fail
 refine (l23Read_any _ 5 c L0 L1 L2 L3 [L4] _ HRD.out HSZ4.out).mono ?_
 rintro e w2 ⟨si, sh, rfl, hR, hb⟩
 replace KR := Lib.hid (KR.out.next hb)
 replace HB := Lib.hid (below_next HB.out hb)
 have HQ := Lib.hid (show decW s = if (readGo (lineW L0 sW1) (lineW L1 sW2) (lineW L2 sW3) (lineW L3 sW4)).2 then ((readGo (lineW L0 sW1) (lineW L1 sW2) (lineW L2 sW3) (lineW L3 sW4)).1, true) else (rep0, false) by
  unfold decW
  rw [if_pos ⟨HL.out, by rw [H4.out]; exact HZ.out⟩]
  simp only [readL, HLS.out, atS]
  rfl)
 generalize readGo (lineW L0 sW1) (lineW L1 sW2) (lineW L2 sW3) (lineW L3 sW4) = q at *
 obtain ⟨r, ok⟩ := q
 have HR := Lib.hid hR
 clear hR hb hc4
 go_upto_region 5 with (fail)
 refine into_world (fun W => Below w2.heap.size w2 W ∧ Blk W w2.heap.size 33 (repC r si sh)) ⟨ba (Below.refl _ _), Blk.new _ _ _⟩ ?_
 rintro W ⟨hb, hk⟩
 have KO := Lib.hid hk
 replace KR := Lib.hid (KR.out.next hb)
 replace HR := Lib.hid (HR.out.next hb)
 replace HB := Lib.hid (below_next HB.out hb)
 clear hb hk
 cases ok
 ·have HF := Lib.hid (show decW s = (rep0, false) by rw [HQ.out]; rfl)
  have cr := fun o => KR.out.cell o
  have fr := fun o => KR.out.frozen o
  have zr := KR.out.lt
  go_wp2_with fail
  refine bodyPost_ret (v := .tuple #[repV rep0 ⟨none, 0, 0⟩ ⟨none, 0, 0⟩, .bool false]) (by simp [results, Tryz.results34, go_sem, cr, rep0]) rfl ?_
  unfold RepPost
  rw [HF.out]
  exact ⟨_, _, rfl, rdR_zero _, by have hb := HB.out; go_grown⟩
 ·have HF := Lib.hid (show decW s = (r, true) by rw [HQ.out]; rfl)
  have co := fun o => KO.out.cell o
  have fo := fun o => KO.out.frozen o
  have zo := KO.out.lt
  have cr := fun o => KR.out.cell o
  have fr := fun o => KR.out.frozen o
  have zr := KR.out.lt
  go_wp2_with fail
  refine bodyPost_ret (v := .tuple #[repV r si sh, .bool true]) (by simp [results, Tryz.results34, go_sem, cr]) rfl ?_
  unfold RepPost
  rw [HF.out]
  have q2 := fun v0 v1 v2 v3 v4 v5 => (((((((Only.refl w.heap.size W).set_ (p := ⟨w.heap.size, 0, none⟩) (.inl rfl) v0).set_ (p := ⟨w.heap.size, 1, none⟩) (.inl rfl) v1).set_ (p := ⟨w.heap.size, 2, none⟩) (.inl rfl) v2).set_ (p := ⟨w.heap.size, 3, none⟩) (.inl rfl) v3).set_ (p := ⟨w.heap.size, 4, none⟩) (.inl rfl) v4).set_ (p := ⟨w.heap.size, 5, none⟩) (.inl rfl) v5)
  exact ⟨si, sh, rfl, HR.out.onlyT KR.out (by decide) (by decide) (q2 _ _ _ _ _ _), HB.out.trans ((q2 _ _ _ _ _ _).below (Nat.le_refl _) HB.out.size)⟩
end Go.Proofs.YtemnlheidghbmaaGreatDoor
namespace Go.Proofs.YtemnlheidghbmaaGreatDoor
open Go.RowKit Go.Sort
def cutL (z : UInt8) : List UInt8 → List (List UInt8)
 | [] => [[]]
 |b :: l => if b = z then [] :: cutL z l else match cutL z l with
  | [] => [[b]]
  | h :: t => (b :: h) :: t
theorem cutL_ne (z : UInt8) (l : List UInt8) : ∃ h t, cutL z l = h :: t := by
 cases l with
 | nil => exact ⟨_, _, rfl⟩
 | cons b l =>
  rw [cutL]
  split
  ·exact ⟨_, _, rfl⟩
  ·split
   ·exact ⟨_, _, rfl⟩
   ·exact ⟨_, _, rfl⟩
theorem index_hit (z : UInt8) (l : List UInt8) : Lib.index (z :: l) [z] = 0 := by
 rw [Lib.index, if_pos (by simp)]
theorem index_far {b z : UInt8} (h : b ≠ z) (l : List UInt8) : Lib.index (b :: l) [z] = if Lib.index l [z] == -1 then -1 else Lib.index l [z] + 1 := by
 rw [Lib.index, if_neg (by simp; exact fun e => h e.symm)]
theorem index_nil_one (z : UInt8) : Lib.index [] [z] = -1 := rfl
theorem count_one (z : UInt8) : ∀ (l : List UInt8) (f : Nat), l.length < f → Lib.countFrom [z] f l = l.count z
 | [], f + 1, _ => by rw [Lib.countFrom, index_nil_one, if_pos (by decide)]; rfl
 |b :: l, f + 1, h => by
  by_cases e : b = z
  ·subst e
   rw [Lib.countFrom, index_hit, if_neg (by decide), List.count_cons_self]
   show 1 + Lib.countFrom [b] f l = _
   rw [count_one b l f (by simpa using h)]
   omega
  ·have ih := count_one z l (f + 1) (by simp at h; omega)
   rw [List.count_cons_of_ne e, ← ih, Lib.countFrom, Lib.countFrom, index_far e]
   by_cases h1 : Lib.index l [z] = -1
   ·simp [h1]
   ·have h2 := Lib.index_ge l [z]
    obtain ⟨i, hi⟩ := Int.eq_ofNat_of_zero_le (show 0 ≤ Lib.index l [z] by omega)
    rw [hi, if_neg (by simp; omega), if_neg (by simp), if_neg (by simp)]
    show 1 + Lib.countFrom [z] f ((b :: l).drop (((i : Int) + 1).toNat + 1)) = 1 + Lib.countFrom [z] f (l.drop ((i : Int).toNat + 1))
    rw [show ((i : Int) + 1).toNat = i + 1 by omega, show ((i : Int)).toNat = i by omega]
    rfl
theorem split_cut (z : UInt8) : ∀ (l : List UInt8) (k : Nat), l.count z ≤ k → Lib.splitK [z] 0 k l = cutL z l
 | [], 0, _ => rfl
 | [], k + 1, _ => by rw [Lib.splitK, index_nil_one, if_pos (by decide)]; rfl
 |b :: l, k, h => by
  by_cases e : b = z
  ·subst e
   rw [List.count_cons_self] at h
   obtain ⟨k, rfl⟩ : ∃ q, k = q + 1 := ⟨k - 1, by omega⟩
   rw [Lib.splitK, index_hit, if_neg (by decide), cutL, if_pos rfl]
   show [] :: Lib.splitK [b] 0 k l = _
   rw [split_cut b l k (by omega)]
  ·rw [List.count_cons_of_ne e] at h
   rw [cutL, if_neg e]
   cases k with
   | zero =>
    rw [← split_cut z l 0 h]
    rfl
   | succ k =>
    rw [← split_cut z l (k + 1) h, Lib.splitK, Lib.splitK, index_far e]
    by_cases h1 : Lib.index l [z] = -1
    ·simp [h1]
    ·have h2 := Lib.index_ge l [z]
     obtain ⟨i, hi⟩ := Int.eq_ofNat_of_zero_le (show 0 ≤ Lib.index l [z] by omega)
     rw [hi, if_neg (by simp; omega), if_neg (by simp), if_neg (by simp)]
     show (b :: l).take (((i : Int) + 1).toNat + 0) :: Lib.splitK [z] 0 k ((b :: l).drop (((i : Int) + 1).toNat + 1)) = (b :: l.take ((i : Int).toNat + 0)) :: Lib.splitK [z] 0 k (l.drop ((i : Int).toNat + 1))
     rw [show ((i : Int) + 1).toNat = i + 1 by omega, show ((i : Int)).toNat = i by omega]
     rfl
def toL (b : ByteArray) : List UInt8 := b.data.toList
theorem toL_inj {a b : ByteArray} (h : toL a = toL b) : a = b := by
 cases a; cases b
 unfold toL at h
 simpa using h
theorem map_toL_inj : ∀ {a b : List ByteArray}, a.map toL = b.map toL → a = b
 | [], [], _ => rfl
 | [], _ :: _, h => by cases h
 | _ :: _, [], h => by cases h
 |x :: a, y :: b, h => by
  simp only [List.map_cons, List.cons.injEq] at h
  rw [toL_inj h.1, map_toL_inj h.2]
theorem toL_len (s : ByteArray) : (toL s).length = s.size := Array.length_toList
theorem toL_extract (s : ByteArray) (a b : Nat) : toL (s.extract a b) = ((toL s).drop a).take (b - a) := by
 unfold toL
 rw [Lib.extract_data]
theorem toL_at (s : ByteArray) (i : Nat) (h : i < s.size) : (toL s).drop i = s[i] :: (toL s).drop (i + 1) := by
 have h' : i < (toL s).length := by rw [toL_len]; exact h
 rw [List.drop_eq_getElem_cons h']
 congr 1
theorem cutGo_cut (s : ByteArray) (z : UInt8) : ∀ (f fr i : Nat), fr ≤ i → i + f = s.size → ∃ h t, cutL z ((toL s).drop i) = h :: t ∧ (cutGo s (z.toNat : Int) f fr i).map toL = (((toL s).drop fr).take (i - fr) ++ h) :: t
 |0, fr, i, h1, h2 => by
  refine ⟨[], [], ?_, ?_⟩
  ·rw [List.drop_of_length_le (by rw [toL_len]; omega)]; rfl
  ·simp only [cutGo, List.map_cons, List.map_nil, toL_extract, List.append_nil]
   rw [show i = s.size by omega]
 |f + 1, fr, i, h1, h2 => by
  have hi : i < s.size := by omega
  rw [toL_at s i hi, cutL, cutGo, byteAt_get hi]
  by_cases e : s[i] = z
  ·obtain ⟨h, t, c1, c2⟩ := cutGo_cut s z f (i + 1) (i + 1) (Nat.le_refl _) (by omega)
   refine ⟨[], cutL z ((toL s).drop (i + 1)), by rw [if_pos e], ?_⟩
   rw [if_pos (by rw [e]), List.map_cons, c2, c1, toL_extract, List.append_nil, Nat.sub_self]
   rfl
  ·obtain ⟨h, t, c1, c2⟩ := cutGo_cut s z f fr (i + 1) (by omega) (by omega)
   refine ⟨s[i] :: h, t, by rw [if_neg e, c1], ?_⟩
   rw [if_neg (by intro h; exact e (UInt8.toNat_inj.1 (by omega))), c2]
   congr 1
   have h5 : i - fr < ((toL s).drop fr).length := by rw [List.length_drop, toL_len]; omega
   rw [show i + 1 - fr = (i - fr) + 1 by omega, List.take_add_one, List.getElem?_eq_getElem h5, List.append_assoc]
   congr 1
   simp [List.getElem_drop, show fr + (i - fr) = i by omega]
   rfl
theorem cutW_cut (s : ByteArray) (z : UInt8) : (cutW s (z.toNat : Int)).map toL = cutL z (toL s) := by
 obtain ⟨h, t, c1, c2⟩ := cutGo_cut s z s.size 0 0 (Nat.le_refl _) (by omega)
 unfold cutW
 rw [c2, ← List.drop_zero (l := toL s), c1]
 rfl
theorem splitB_cut (s : ByteArray) (z : UInt8) : Lib.splitB ⟨#[z]⟩ 0 (Lib.countB s ⟨#[z]⟩) s = cutW s (z.toNat : Int) := by
 apply map_toL_inj
 rw [cutW_cut]
 have h := Lib.splitB_data ⟨#[z]⟩ 0 (Lib.countB s ⟨#[z]⟩) s
 refine (show List.map toL _ = _ from h).trans ?_
 refine split_cut z (toL s) _ ?_
 rw [← count_one z (toL s) ((toL s).length + 1) (by omega)]
 exact Nat.le_refl _
def numL : List UInt8 → Int → Int
 | [], a => a
 | c :: r, a => if (c.toNat : Int) < 48 ∨ 57 < (c.toNat : Int) then -1 else numL r (10 * a + ((c.toNat : Int) - 48))
theorem numGo_L (s : ByteArray) : ∀ (f i : Nat) (a : Int), i + f = s.size → numGo s f i a = numL ((toL s).drop i) a
 | 0, i, a, h => by rw [List.drop_of_length_le (by rw [toL_len]; omega)]; rfl
 |f + 1, i, a, h => by
  have hi : i < s.size := by omega
  rw [toL_at s i hi, numGo, numL, byteAt_get hi, numGo_L s f (i + 1) _ (by omega)]
theorem parse_num : ∀ (l : List UInt8) (A : Nat), (A + 1) * 10 ^ l.length ≤ 1000000000000000000 → 0 ≤ numL l A → Lib.parseUint10 A l = .ok (numL l A).toNat
 | [], A, _, _ => by simp [Lib.parseUint10, numL]
 |c :: r, A, hA, hn => by
  rw [numL] at hn ⊢
  by_cases hc : (c.toNat : Int) < 48 ∨ 57 < (c.toNat : Int)
  ·rw [if_pos hc] at hn; omega
  ·rw [if_neg hc] at hn ⊢
   have hp : 0 < 10 ^ r.length := Nat.pow_pos (by decide)
   have hA1 : (A + 1) * 10 * 10 ^ r.length ≤ 1000000000000000000 := by
    rw [List.length_cons, Nat.pow_succ, Nat.mul_comm (10 ^ r.length), ← Nat.mul_assoc] at hA
    exact hA
   have hA2 : (A + 1) * 10 ≤ 1000000000000000000 := Nat.le_trans (Nat.le_mul_of_pos_right _ hp) hA1
   have e : (10 * (A : Int) + ((c.toNat : Int) - 48)) = ((A * 10 + (c.toNat - 48) : Nat) : Int) := by omega
   rw [e] at hn ⊢
   rw [Lib.parseUint10, if_pos (by omega), if_neg (by omega), if_neg (by omega)]
   refine parse_num r _ ?_ hn
   refine Nat.le_trans (Nat.mul_le_mul_right _ ?_) hA1
   omega
theorem numL_bd : ∀ (l : List UInt8) (A : Nat), numL l A < (((A + 1) * 10 ^ l.length : Nat) : Int)
 | [], A => by simp [numL]; omega
 |c :: r, A => by
  rw [numL]
  by_cases hc : (c.toNat : Int) < 48 ∨ 57 < (c.toNat : Int)
  ·rw [if_pos hc]
   omega
  ·rw [if_neg hc]
   have e : (10 * (A : Int) + ((c.toNat : Int) - 48)) = ((A * 10 + (c.toNat - 48) : Nat) : Int) := by omega
   rw [e]
   have ih := numL_bd r (A * 10 + (c.toNat - 48))
   refine Int.lt_of_lt_of_le ih (Int.ofNat_le.2 ?_)
   rw [List.length_cons, Nat.pow_succ, Nat.mul_comm (10 ^ r.length), ← Nat.mul_assoc]
   exact Nat.mul_le_mul_right _ (by omega)
theorem atoi_list {l : List UInt8} (h1 : 1 ≤ l.length) (h7 : l.length ≤ 7) (h : 0 ≤ numL l 0) : Lib.atoiAll l = .ok (numL l 0) := by
 have h10 : 10 ^ l.length ≤ 10 ^ 7 := Nat.pow_le_pow_right (by decide) h7
 have hp := parse_num l 0 (by omega) h
 have hb := numL_bd l 0
 cases l with
 | nil => simp at h1
 | cons c r =>
  have hcd : 48 ≤ c.toNat ∧ c.toNat ≤ 57 := by
   rw [numL] at h
   split at h
   ·omega
   ·omega
  have h1 : ¬ (c.toNat = 43 ∨ c.toNat = 45) := by omega
  have h2 : ¬ c.toNat = 45 := by omega
  have hu : ¬ 9223372036854775808 ≤ (numL (c :: r) 0).toNat := by
   have : numL (c :: r) ((0 : Nat) : Int) = numL (c :: r) 0 := rfl
   omega
  have hpm : Lib.parseMag (c :: r) = .ok (numL (c :: r) 0).toNat := by
   unfold Lib.parseMag
   rw [if_neg (by simp)]
   exact hp
  unfold Lib.atoiAll
  simp only [if_neg h1, hpm]
  rw [if_neg (by omega), if_neg (by omega), if_neg h2]
  congr 1
  omega
def atoiW (b : ByteArray) : Option Int :=
 match Lib.atoiAll (toL b) with
 | .ok v => some v
 | _ => none
theorem numW_atoi {s : ByteArray} (h : 0 ≤ numW s) : atoiW s = some (numW s) := by
 unfold numW at h ⊢
 split at h
 ·rename_i hc
  rw [if_pos hc]
  have hL := numGo_L s s.size 0 0 (by omega)
  rw [List.drop_zero] at hL
  rw [hL] at h ⊢
  unfold atoiW
  rw [atoi_list (by rw [toL_len]; omega) (by rw [toL_len]; omega) h]
 ·omega
end Go.Proofs.YtemnlheidghbmaaGreatDoor
namespace Go.Proofs.YtemnlheidghbmaaGreatDoor
open Go.RowKit Go.Sort
theorem split_any (s : ByteArray) (z : UInt8) (w : World) (hg : Gds w) (hs : s.size < 4294967281) :
  Calls Tryz.prog 74 #[.string s, .string ⟨#[z]⟩] w fun e w' => e = .returned (.slice (some ⟨w.heap.size, 0, none⟩) (cutW s (z.toNat : Int)).length (cutW s (z.toNat : Int)).length) ∧ Blk w' w.heap.size 9 (cellsX encTx (cutW s (z.toNat : Int))).toArray ∧ Below w.heap.size w w' := by
 obtain ⟨m, hm⟩ := hg.most
 refine (Tryz.strings_Split s ⟨#[z]⟩ m w hs hm (Nat.le_refl _)).mono ?_
 rintro e w' ⟨rfl, rfl⟩
 have hl := Lib.splitB_all ⟨#[z]⟩ (Nat.le_refl _) 0 _ s rfl
 rw [splitB_cut] at hl
 rw [splitB_cut, hl]
 have hc : ((cutW s (z.toNat : Int)).map Value.string) = cellsX encTx (cutW s (z.toNat : Int)) := by
  generalize cutW s (z.toNat : Int) = l
  induction l with
  | nil => rfl
  | cons a r ih => rw [List.map_cons, ih]; rfl
 rw [hc]
 exact ⟨rfl, Blk.new _ _ _, (Below.refl _ _).alloc (Nat.le_refl _) _⟩
theorem split_sp (s : ByteArray) (w : World) (hg : Gds w) (hs : s.size < 4294967281) :
  Calls Tryz.prog 74 #[.string s, .string ⟨#[32]⟩] w fun e w' => e = .returned (.slice (some ⟨w.heap.size, 0, none⟩) (cutW s 32).length (cutW s 32).length) ∧ Blk w' w.heap.size 9 (cellsX encTx (cutW s 32)).toArray ∧ Below w.heap.size w w' := split_any s 32 w hg hs
theorem split_nl (s : ByteArray) (w : World) (hg : Gds w) (hs : s.size < 4294967281) :
  Calls Tryz.prog 74 #[.string s, .string ⟨#[10]⟩] w fun e w' => e = .returned (.slice (some ⟨w.heap.size, 0, none⟩) (cutW s 10).length (cutW s 10).length) ∧ Blk w' w.heap.size 9 (cellsX encTx (cutW s 10)).toArray ∧ Below w.heap.size w w' := split_any s 10 w hg hs
theorem txt_cell {w : World} {g T k : Nat} {ws : List ByteArray} {b : ByteArray} (h : Blk w g T (cellsX encTx ws).toArray) (hk : ws[k]? = some b) : w.cell? ⟨g, k, none⟩ = some (.string b) := by
 rw [h.cell]
 have : ∀ (ws : List ByteArray), cellsX encTx ws = ws.map Value.string := by
  intro ws
  induction ws with
  | nil => rfl
  | cons a r ih => rw [List.map_cons, ← ih]; rfl
 rw [this]
 simp [hk]
theorem atoi_any (s : ByteArray) (w : World) (hg : Gds w) (hs : s.size ≤ 281474976710656) :
  Calls Tryz.prog 127 #[.string s] w fun e w' => ∃ v ev, e = .returned (.tuple #[.int .i64 v, ev]) ∧ ((atoiW s = some v ∧ ev = .nilIface) ∨ (atoiW s = none ∧ ∃ t p, ev = .iface t p)) ∧ Below w.heap.size w w' := by
 obtain ⟨ts, ps, h1⟩ := hg.syn
 obtain ⟨tr, pr, h2⟩ := hg.rng
 cases ha : Lib.atoiAll (toL s)
 ·rename_i v
  refine (Tryz.strconv_Atoi_ok s (by omega) v ha w).mono ?_
  rintro e w' ⟨rfl, hw⟩
  refine ⟨v, _, rfl, .inl ⟨by simp [atoiW, ha], rfl⟩, ?_⟩
  rcases hw with rfl | ⟨t, rfl⟩
  ·exact Below.refl _ _
  ·exact Lib.bytesWorld_below _ _ _
 ·refine (Tryz.strconv_Atoi_syntax s hs (fun v e => by have := ha.symm.trans e; cases this) (fun e => by have := ha.symm.trans e; cases this) _ w h1 (.inr ⟨_, _, rfl⟩)).mono ?_
  rintro e w' ⟨N, rfl, _, _, hb⟩
  exact ⟨_, _, rfl, .inr ⟨by simp [atoiW, ha], _, _, rfl⟩, hb⟩
 ·refine (Tryz.strconv_Atoi_range s hs ha _ w h2 (.inr ⟨_, _, rfl⟩)).mono ?_
  rintro e w' ⟨N, rfl, _, _, hb⟩
  exact ⟨_, _, rfl, .inr ⟨by simp [atoiW, ha], _, _, rfl⟩, hb⟩
def readGo' : List ByteArray → List Int → List Int × Bool
 | [], acc => (acc, true)
 |b :: r, acc => match atoiW b with
  | some v => readGo' r (acc ++ [v])
  | none => ([], false)
def readI (s : ByteArray) : List Int × Bool := readGo' ((cutW s 32).drop 1) []
theorem readGo_step {ws : List ByteArray} {k : Nat} {b : ByteArray} (h : ws[k]? = some b) (acc : List Int) : readGo' (ws.drop k) acc = match atoiW b with
  | some v => readGo' (ws.drop (k + 1)) (acc ++ [v])
  | none => ([], false) := by
 obtain ⟨hk', he⟩ := List.getElem?_eq_some_iff.1 h
 rw [List.drop_eq_getElem_cons hk', he, readGo']
set_option maxRecDepth 100000 in
set_option maxHeartbeats 4000000 in
theorem readNumbers_any (s : ByteArray) (w : World) (hg : Gds w) (hn : s.size ≤ 4194304) :
  Calls Tryz.prog 75 #[.string s] w (LinePost w.heap.size (readI s) w) := by
 obtain ⟨i0, hi0, hy0, hy1, hy2⟩ := info_parts infoZ
 have HI := Lib.hid hi0
 have HZ := Lib.hid hy0
 have HS := Lib.hid hy1
 have HBY := Lib.hid hy2
 have HG := Lib.hid hg
 clear hi0 hy0 hy1 hy2 hg
 go_enter Tryz.func75, Tryz.ntmps75
 go_wp2_with fail
 refine (split_sp s _ HG.out (by omega)).mono ?_
 rintro e w1 ⟨rfl, hbk, hb⟩
 have hLb := cutW_len s 32
 have HSZ := Lib.hid (cutW_size s 32)
 have HR := Lib.hid (show readI s = readGo' ((cutW s 32).drop 1) [] from rfl)
 generalize cutW s 32 = ws at *
 obtain ⟨L, hL⟩ : ∃ L, ws.length = L := ⟨_, rfl⟩
 rw [hL] at hLb ⊢
 have HL := Lib.hid hL
 have HBK := Lib.hid hbk
 have HB := Lib.hid hb
 have hL1 : 1 ≤ L := hLb.2
 have hL2 : L ≤ 4194305 := by have := hLb.1; omega
 have hz1 := hb.size
 clear hL hbk hb hLb
 by_cases hLe : L = 1
 ·subst hLe
  have HF := Lib.hid (show readI s = ([], true) by rw [HR.out, List.drop_of_length_le (by rw [HL.out]; exact Nat.le_refl _)]; rfl)
  go_wp2_with fail
  go_loopw [4, 13] (fun out i wr => out = .slice none 0 0 ∧ i = .int .i64 0 ∧ wr = w1) (fun _ _ _ => 0)
  case atStart => exact ⟨rfl, rfl, rfl⟩
  case round =>
   obtain ⟨rfl, rfl, rfl⟩ := hrel
   go_wp2_with fail
   go_ret2
   unfold LinePost
   rw [HF.out]
   exact ⟨none, 0, rfl, Ow.bare _ _ _ _ _, HB.out⟩
 ·obtain ⟨M, rfl⟩ : ∃ M, L = M + 1 := ⟨L - 1, by omega⟩
  have hM : 1 ≤ M := by omega
  clear hLe hL1
  go_wp2_with fail
  go_loopw [4, 13] (fun out i wr => ∃ (k : Nat) (A' : Option Addr) (c' : Nat) (acc : List Int), k ≤ M ∧ i = .int .i64 k ∧ out = .slice A' k c' ∧ Hid (Below w1.heap.size w1 wr ∧ Ow w1.heap.size wr 3 1 A' k c' (cellsI acc) ∧ acc.length = k ∧ readI s = readGo' (ws.drop (k + 1)) acc)) (fun _ i _ => M - (intOf i).toNat)
  case atStart => exact ⟨0, none, 0, [], Nat.zero_le _, rfl, rfl, Below.refl _ _, Ow.bare _ _ _ _ _, rfl, HR.out⟩
  case round =>
   obtain ⟨k, A', c', acc, hk, rfl, rfl, HQ⟩ := hrel
   obtain ⟨hB2, hO, hAL, hGO⟩ := HQ.out
   have HB2 := Lib.hid hB2
   have HOW := Lib.hid hO
   have HAL := Lib.hid hAL
   have HGO := Lib.hid hGO
   have hkb : k ≤ 4194305 := by omega
   clear hO hAL hGO HQ
   by_cases hlt : k < M
   ·obtain ⟨b, hbw⟩ : ∃ b, ws[k + 1]? = some b := ⟨ws[k + 1]'(by rw [HL.out]; omega), List.getElem?_eq_getElem _⟩
    have hc := txt_cell (HBK.out.next hB2) hbw
    have hbs : b.size ≤ 4194304 := Nat.le_trans (HSZ.out b (List.mem_of_getElem? hbw)) hn
    have HST := Lib.hid (readGo_step hbw acc)
    have hc1 : wr.cell? ⟨w.heap.size, 1 + k, none⟩ = some (.string b) := by rw [Nat.add_comm]; exact hc
    have hbl : w.heap.size < wr.heap.size := (HBK.out.next hB2).lt
    clear hbw hB2
    go_wp2_with fail
    refine (atoi_any b _ (HG.out.next (below_next HB.out HB2.out)) (by omega)).mono ?_
    rintro e w2 ⟨v, ev, rfl, hcase, hb2⟩
    replace HOW := Lib.hid (Ow.next HOW.out hb2)
    replace HB2 := Lib.hid (below_next HB2.out hb2)
    clear hb2 hc hc1
    rcases hcase with ⟨hv, rfl⟩ | ⟨hv, t, p, rfl⟩
    ·rw [hv] at HST
     have HS2 := Lib.hid (show readI s = readGo' (ws.drop (k + 1 + 1)) (acc ++ [v]) by rw [HGO.out]; exact HST.out)
     clear hv HST
     go_wp2_with (at_builtin; refine wpList_append_ow _ rfl (.tmp 24) (.tmp 26) _ rfl w1.heap.size 3 i0 _ 1 8 Tryz.underlying31 HI.out HZ.out HS.out HBY.out rfl (by omega) _ k c' _ rfl (HOW.out.alloc _) _ 1 1 (cellsI [v]) rfl (Src.blk (Blk.new _ _ _) rfl) (cellsI_one _) (by unfold maxLen; omega) (by omega) (by simp; have := HB2.out.size; omega) ?_; intro A2 c2 w5 hown5 hg5 _; have HO5 := Lib.hid hown5; have HG5 := Lib.hid hg5; clear hown5 hg5)
     have hrow := HOW.out.alloc (.cells #[.int .i64 v] 3)
     refine ⟨⟨k + 1, A2, c2, acc ++ [v], by omega, by go_num, rfl, hrow.grown HG5.out (HB2.out.alloc HB2.out.size _) (Nat.le_refl _) (by simp; have := HB2.out.size; omega), ?_, by simp [HAL.out], HS2.out⟩, by simp [intOf]; omega⟩
     have := HO5.out
     show Ow _ _ _ 1 _ _ _ (List.map (Value.int .i64) (acc ++ [v]))
     rw [List.map_append]
     exact this
    ·rw [hv] at HST
     have HF := Lib.hid (show readI s = ([], false) by rw [HGO.out]; exact HST.out)
     clear hv HST
     go_wp2_with fail
     go_ret2
     unfold LinePost
     rw [HF.out]
     exact ⟨none, 0, rfl, Ow.bare _ _ _ _ _, below_next HB.out HB2.out⟩
   ·have hkM : k = M := by omega
    subst hkM
    have HF := Lib.hid (show readI s = (acc, true) by rw [HGO.out, List.drop_of_length_le (by rw [HL.out]; exact Nat.le_refl _)]; rfl)
    go_wp2_with fail
    go_ret2
    unfold LinePost
    rw [HF.out]
    refine ⟨A', c', by simp only [HAL.out]; rfl, ?_, below_next HB.out HB2.out⟩
    simp only [HAL.out]
    exact HOW.out.mono HB.out.size
end Go.Proofs.YtemnlheidghbmaaGreatDoor
namespace Go.Proofs.YtemnlheidghbmaaGreatDoor
open Go.RowKit Go.Sort
def TxPost (g p m n : Nat) (w : World) (e : Ending) (w' : World) : Prop :=
 ∃ s : ByteArray, e = .returned (.string s) ∧ s.size ≤ m ∧ (∃ q, q ≤ p + n ∧ Rdr w' g q) ∧ Only g w w'
def OfPost (g p : Nat) (ts : List ByteArray) (w : World) (e : Ending) (w' : World) : Prop :=
 ∃ s : ByteArray, e = .returned (.string s) ∧ s ∈ ts ∧ Rdr w' g (p + 1) ∧ Only g w w'
set_option maxHeartbeats 2000000 in
theorem of_any (g p b n : Nat) (ts : List ByteArray) (w : World) (h : Rdr w g p) (hp : p ≤ 1099511627775) (hb : Blk w b 9 (cellsX encTx ts).toArray) (hbg : b ≠ g) (hn : n = ts.length) (h1 : 1 ≤ n) (h2 : n ≤ 100) :
  Calls Tryz.prog 130 #[.pointer (some ⟨g, 0, none⟩), .slice (some ⟨b, 0, none⟩) n n] w (OfPost g p ts w) := by
 have HR := Lib.hid h
 have HB := Lib.hid hb
 have HN := Lib.hid hn
 clear h hb hn
 go_enter Tryz.func130, Tryz.ntmps130
 go_wp2_with fail
 refine (pick_any g n p _ HR.out (by omega)).mono ?_
 rintro e w1 ⟨v, rfl, hv0, hv1, hR, hO⟩
 have hv2 := hv1 (by omega)
 obtain ⟨k, rfl⟩ := Int.eq_ofNat_of_zero_le hv0
 have hkl : k < ts.length := by have := HN.out; omega
 obtain ⟨s, hs⟩ : ∃ s, ts[k]? = some s := ⟨ts[k], List.getElem?_eq_getElem hkl⟩
 have hB1 := HB.out.only hO hbg
 have hc := txt_cell hB1 hs
 have HR1 := Lib.hid hR
 have HO := Lib.hid hO
 have HS := Lib.hid hs
 have hzb := hB1.lt
 clear hR hO hs hB1 hv1 hkl
 go_wp2_with fail
 go_ret
 exact ⟨_, rfl, List.mem_of_getElem? HS.out, HR1.out, HO.out⟩
def RowB (w : World) (b n : Nat) : Prop := ∃ (cs : Array Value) (lo hi : Nat), w.heap[b]? = some (.cells cs 5 (lo, hi)) ∧ n ≤ lo ∧ n ≤ cs.size ∧ ∀ j, j < n → ∃ z : Int, 0 ≤ z ∧ z ≤ 255 ∧ cs[j]? = some (.int .u8 z)
theorem RowB.lt {w : World} {b n : Nat} (h : RowB w b n) : b < w.heap.size := by
 obtain ⟨cs, lo, hi, h1, _⟩ := h
 exact (Array.getElem?_eq_some_iff.1 h1).1
theorem RowB.only {w w' : World} {b n g : Nat} (h : RowB w b n) (ho : Only g w w') (hg : b ≠ g) : RowB w' b n := by
 have hl := h.lt
 obtain ⟨cs, lo, hi, h1, h2⟩ := h
 exact ⟨cs, lo, hi, (ho.block b hl (by intro e; injection e with e; exact hg e)).trans h1, h2⟩
theorem RowB.next {w w' : World} {b n : Nat} (h : RowB w b n) (hb : Below w.heap.size w w') : RowB w' b n := by
 have hl := h.lt
 obtain ⟨cs, lo, hi, h1, h2⟩ := h
 exact ⟨cs, lo, hi, (hb.block b hl).trans h1, h2⟩
theorem RowB.set_ {w : World} {b n : Nat} (h : RowB w b n) (k : Nat) (z : Int) (h0 : 0 ≤ z) (h9 : z ≤ 255) : RowB (w.setCell ⟨b, k, none⟩ (.int .u8 z)) b n := by
 obtain ⟨cs, lo, hi, h1, h2, h3, h4⟩ := h
 refine ⟨cs.setIfInBounds k (.int .u8 z), lo, hi, by simp [World.setCell, Array.getElem?_modify, h1], h2, by simpa using h3, fun j hj => ?_⟩
 obtain ⟨y, y0, y9, hy⟩ := h4 j hj
 by_cases e : k = j
 ·subst e
  exact ⟨z, h0, h9, Array.getElem?_setIfInBounds_self_of_lt (by omega)⟩
 ·exact ⟨y, y0, y9, by simp [e, hy]⟩
theorem RowB.cell {w : World} {b n : Nat} (h : RowB w b n) (j : Nat) (hj : j < n) : ∃ z : Int, 0 ≤ z ∧ z ≤ 255 ∧ w.cell? ⟨b, j, none⟩ = some (.int .u8 z) := by
 obtain ⟨cs, lo, hi, h1, h2, h3, h4⟩ := h
 obtain ⟨y, y0, y9, hy⟩ := h4 j hj
 exact ⟨y, y0, y9, by simp [World.cell?, h1, hy]⟩
theorem RowB.frozen {w : World} {b n : Nat} (h : RowB w b n) (j : Nat) (hj : j < n) : w.frozen? ⟨b, j, none⟩ = false := by
 obtain ⟨cs, lo, hi, h1, h2, h3, h4⟩ := h
 simp [World.frozen?, h1]
 omega
theorem RowB.new (w : World) (s : ByteArray) : RowB (Lib.bytesWorld w 5 s) w.heap.size s.size := by
 refine ⟨_, _, _, Lib.bytesWorld_at_new _ _ _, ?_, ?_, fun j hj => ⟨((s.data.toList.getD j 0).toNat : Int), by omega, by have := (s.data.toList.getD j 0).toNat_lt; omega, ?_⟩⟩
 ·simp [Lib.bytesCells]
 ·simp [Lib.bytesCells]
 ·have := Lib.bytesWorld_cell w 5 s j hj
  simpa [World.cell?, Lib.bytesWorld_at_new] using this
theorem RowB.text {w : World} {b n : Nat} (h : RowB w b n) (c : Nat) : ∃ s : ByteArray, s.size = n ∧ (convert 22 9 (.slice (some ⟨b, 0, none⟩) n c)).run Tryz.prog w = .ok (.string s) w := by
 have hx : ∀ m, m ≤ n → ∃ xs : List Int, xs.length = m ∧ ∀ i, i < m → w.cell? ⟨b, 0 + i, none⟩ = some (.int .u8 (xs.getD i 0)) := by
  intro m
  induction m with
  | zero => intro _; exact ⟨[], rfl, fun i hi => by omega⟩
  | succ m ih =>
   intro hm
   obtain ⟨xs, hl, hc⟩ := ih (by omega)
   obtain ⟨z, _, _, hz⟩ := h.cell m (by omega)
   refine ⟨xs ++ [z], by simp [hl], fun i hi => ?_⟩
   by_cases e : i = m
   ·subst e
    simp [List.getD, hl, hz]
   ·rw [hc i (by omega)]
    simp [List.getD, List.getElem?_append, hl, show i < m by omega]
 obtain ⟨xs, hl, hc⟩ := hx n (Nat.le_refl _)
 exact ⟨strOfNums xs, by rw [← hl]; simp [strOfNums, ByteArray.size], run_convert_bytes_arg w 22 5 Tryz.underlying22 Tryz.underlying5 b 0 n c xs hl hc 9 Tryz.underlying9⟩
theorem size_of_nil {s : ByteArray} (h : s.toList = []) : s.size = 0 := by
 have h1 : s.toList = s.data.toList := ByteArray.toList_eq s
 rw [h1] at h
 have := congrArg List.length h
 simpa using this
set_option maxRecDepth 100000 in
set_option maxHeartbeats 4000000 in
theorem l92Text_any (g p m : Nat) (s : ByteArray) (w : World) (h : Rdr w g p) (hp : p ≤ 1099511627000) (hs : s.size ≤ m) (hm : 1000 ≤ m) (hm2 : m ≤ 1000000) :
  Calls Tryz.prog 78 #[.pointer (some ⟨g, 0, none⟩), .string s] w (TxPost g p (m + 1) 9 w) := by
 have HR := Lib.hid h
 have HS := Lib.hid hs
 have hgl := h.lt
 clear h hs
 by_cases h0 : s.size = 0
 ·obtain rfl : s = ⟨#[]⟩ := by
   apply ByteArray.ext
   exact Array.eq_empty_of_size_eq_zero h0
  go_enter Tryz.func78, Tryz.ntmps78
  go_wp2_with fail
  refine (of_any g p w.heap.size 5 [⟨#[]⟩, ⟨#[114, 101, 112, 108, 97, 121, 32, 49, 32, 50, 32, 51, 10]⟩,
   ⟨#[114, 101, 112, 108, 97, 121, 32, 49, 32, 50, 32, 51, 10, 105, 110, 112, 117, 116, 115, 10, 104, 97, 115, 104, 101, 115, 10, 116, 97, 103, 32, 53, 10]⟩,
   ⟨#[114, 101, 112, 108, 97, 121, 32, 48, 49, 32, 50, 32, 51, 10, 105, 110, 112, 117, 116, 115, 10, 104, 97, 115, 104, 101, 115, 10, 116, 97, 103, 32, 53, 10]⟩,
   ⟨#[114, 101, 112, 108, 97, 121, 32, 49, 32, 50, 32, 51, 10, 105, 110, 112, 117, 116, 115, 32, 10, 104, 97, 115, 104, 101, 115, 10, 116, 97, 103, 32, 53, 10]⟩] _
   (HR.out.next (ba (Below.refl _ _))) (by omega) (Blk.new _ _ _) (by omega) rfl (by decide) (by decide)).mono ?_
  rintro e w1 ⟨t, rfl, ht, hR, hO⟩
  have hall : ∀ t ∈ [(⟨#[]⟩ : ByteArray), ⟨#[114, 101, 112, 108, 97, 121, 32, 49, 32, 50, 32, 51, 10]⟩, ⟨#[114, 101, 112, 108, 97, 121, 32, 49, 32, 50, 32, 51, 10, 105, 110, 112, 117, 116, 115, 10, 104, 97, 115, 104, 101, 115, 10, 116, 97, 103, 32, 53, 10]⟩, ⟨#[114, 101, 112, 108, 97, 121, 32, 48, 49, 32, 50, 32, 51, 10, 105, 110, 112, 117, 116, 115, 10, 104, 97, 115, 104, 101, 115, 10, 116, 97, 103, 32, 53, 10]⟩, ⟨#[114, 101, 112, 108, 97, 121, 32, 49, 32, 50, 32, 51, 10, 105, 110, 112, 117, 116, 115, 32, 10, 104, 97, 115, 104, 101, 115, 10, 116, 97, 103, 32, 53, 10]⟩], t.size ≤ 100 := by decide
  replace ht := hall t ht
  clear hall
  have HO := Lib.hid ((Only.of_below (ba (Below.refl _ _)) g).trans hO)
  have HR1 := Lib.hid hR
  clear hR hO
  go_wp2_with fail
  go_ret
  exact ⟨_, rfl, by omega, ⟨_, by omega, HR1.out⟩, HO.out⟩
 ·have hn : (0 : Int) < (s.size : Int) := by omega
  have he : s.toList.isEmpty = false := by
   cases hq : s.toList with
   | nil => exact absurd (size_of_nil hq) h0
   | cons x r => rfl
  go_enter Tryz.func78, Tryz.ntmps78
  go_wp2_with fail
  refine (pick_any g s.size p _ HR.out (by omega)).mono ?_
  rintro e w1 ⟨v, rfl, hv0, hv1, hR, hO⟩
  have hv2 := hv1 (by omega)
  obtain ⟨k, rfl⟩ := Int.eq_ofNat_of_zero_le hv0
  have hkl : k < s.size := by omega
  replace HR := Lib.hid hR
  have HO := Lib.hid hO
  clear hR hO hv1
  go_wp2_with fail
  refine (pick_any g 6 (p + 1) _ HR.out (by omega)).mono ?_
  rintro e w2 ⟨c, rfl, hc0, hc1, hR, hO⟩
  have hc2 := hc1 (by omega)
  replace HR := Lib.hid hR
  replace HO := Lib.hid (HO.out.trans hO)
  clear hR hO hc1
  have hsm : s.size ≤ m := HS.out
  have hx1 : (s.extract 0 k).size = k := by rw [ByteArray.size_extract]; omega
  have hx2 : (s.extract k s.size).size = s.size - k := by rw [ByteArray.size_extract]; omega
  by_cases c0 : c = 0
  ·subst c0
   go_wp2_with fail
   rw [Lib.run_convert_string_bytes _ 9 22 5 s Tryz.underlying9 Tryz.underlying22 Tryz.underlying5]
   simp only [Result.andThen_ok]
   have HOV := Lib.hid (HO.out.next (Lib.bytesWorld_below w2 5 s))
   have HRV := Lib.hid (HR.out.next (Lib.bytesWorld_below w2 5 s))
   have HBV := Lib.hid (RowB.new w2 s)
   have hgb2 : g < w2.heap.size := HR.out.lt
   have hgb : w2.heap.size ≠ g := by omega
   have hwb : w.heap.size ≤ w2.heap.size := HO.out.size
   generalize grownCap w2 s.size 0 5 = cp at *
   generalize w2.heap.size = b at *
   generalize Lib.bytesWorld w2 5 s = V at *
   have hbl := HBV.out.lt
   go_wp2_with fail
   refine (of_any g (p + 1 + 1) V.heap.size 6 [⟨#[48]⟩, ⟨#[57]⟩, ⟨#[32]⟩, ⟨#[120]⟩, ⟨#[49]⟩, ⟨#[55]⟩] _ (HRV.out.next (ba (Below.refl _ _))) (by omega) (Blk.new _ _ _) (by have := HRV.out.lt; omega) rfl (by decide) (by decide)).mono ?_
   rintro e w3 ⟨t, rfl, ht, hR, hO⟩
   have hall : ∀ t ∈ [(⟨#[48]⟩ : ByteArray), ⟨#[57]⟩, ⟨#[32]⟩, ⟨#[120]⟩, ⟨#[49]⟩, ⟨#[55]⟩], t.size = 1 := by decide
   replace ht := hall t ht
   clear hall
   have HB3 := Lib.hid ((HBV.out.next (ba (Below.refl _ _))).only hO hgb)
   have HO3 := Lib.hid ((HOV.out.next (ba (Below.refl _ _))).trans hO)
   have HR3 := Lib.hid hR
   clear hR hO
   have hf := HB3.out.frozen k hkl
   obtain ⟨z0, _, _, hz0⟩ := HB3.out.cell k hkl
   have hb3 := HB3.out.lt
   go_wp2_with fail
   have hz0 : (0 : Int) ≤ (t[0].toNat : Int) := Int.natCast_nonneg _
   have hz9 : (t[0].toNat : Int) ≤ 255 := by have := t[0].toNat_lt; omega
   obtain ⟨s', hs', hrun⟩ := (HB3.out.set_ k (t[0].toNat : Int) hz0 hz9).text cp
   rw [hrun]
   simp only [Result.andThen_ok]
   go_wp2_with fail
   go_ret
   exact ⟨_, rfl, by omega, ⟨_, by omega, HR3.out.set_ hgb2 _⟩, HO3.out.set_ (.inr hwb) _⟩
  by_cases c1 : c = 1
  ·subst c1
   go_wp2_with fail
   go_ret
   exact ⟨_, rfl, by omega, ⟨_, by omega, HR.out⟩, HO.out⟩
  by_cases c2 : c = 2
  ·subst c2
   have y1 : ¬ 9223372036854775807 < (s.extract 0 k).size + 1 := by omega
   have y2 : (s.extract 0 k ++ (⟨#[48]⟩ : ByteArray)).size = k + 1 := by rw [ByteArray.size_append, hx1]; rfl
   have y3 : ¬ 9223372036854775807 < (s.extract 0 k ++ (⟨#[48]⟩ : ByteArray)).size + (s.extract k s.size).size := by omega
   have y4 : ¬ 9223372036854775807 < k + 1 := by omega
   have y5 : ¬ 9223372036854775807 < k + 1 + (s.size - k) := by omega
   go_upto_region 12 with (fail)
   go_region
   go_wp2_with fail
   go_ret
   exact ⟨_, rfl, by rw [ByteArray.size_append, y2, hx2]; omega, ⟨_, by omega, HR.out.next (by go_grown)⟩, HO.out.next (by go_grown)⟩
  by_cases c3 : c = 3
  ·subst c3
   have y1 : ¬ 9223372036854775807 < s.size + 1 := by omega
   go_wp2_with fail
   go_ret
   exact ⟨_, rfl, by rw [ByteArray.size_append]; show s.size + 1 ≤ _; omega, ⟨_, by omega, HR.out⟩, HO.out⟩
  have b0 : (c == 0) = false := by simp [c0]
  have b1 : (c == 1) = false := by simp [c1]
  have b2 : (c == 2) = false := by simp [c2]
  have b3 : (c == 3) = false := by simp [c3]
  go_wp2_with fail
  go_ret
  exact ⟨_, rfl, by omega, ⟨_, by omega, HR.out⟩, HO.out⟩
end Go.Proofs.YtemnlheidghbmaaGreatDoor

/-
  FnDecodeBlank returns true for every two codes, and nothing that was there is written. No condition.
-/
import Derived.Test.YtemnlheidghbmaaGreatDoorRows
import Derived.MakeChecks
import Derived.LaidSub
import Derived.Lay
import Derived.LaidMore
import Derived.Test.YtemnlheidghbmaaGreatDoorTie
import Derived.Test.YtemnlheidghbmaaGreatDoorCards
import Derived.Test.YtemnlheidghbmaaGreatDoorKb3
import Derived.Test.YtemnlheidghbmaaGreatDoorKb29
import Derived.Test.YtemnlheidghbmaaGreatDoorKb30
namespace Go.Proofs.YtemnlheidghbmaaGreatDoor.fnDecodeBlank
open Go.RowKit Go.ChangeShapes Go.WideShapes Go.ChangeAt
set_option linter.unusedVariables false
def GB (a b : World) : Prop := ∀ o, (∃ v0 v1 v2 v3 v4 v5, Blk a o 33 #[v0, v1, v2, v3, v4, v5]) → ∃ v0 v1 v2 v3 v4 v5, Blk b o 33 #[v0, v1, v2, v3, v4, v5]
theorem GB.of {a b : World} (h : Below a.heap.size a b) : GB a b := fun o ⟨v0, v1, v2, v3, v4, v5, k⟩ => ⟨v0, v1, v2, v3, v4, v5, k.next h⟩
theorem GB.set {o : Nat} {a b : World} {v0 v1 v2 v3 v4 v5 : Value} (h : Only o a b) (k : Blk b o 33 #[v0, v1, v2, v3, v4, v5]) : GB a b := fun p ⟨x0, x1, x2, x3, x4, x5, kx⟩ => by
 by_cases hp : p = o
 ·subst hp
  exact ⟨_, _, _, _, _, _, k⟩
 ·exact ⟨x0, x1, x2, x3, x4, x5, kx.only h hp⟩
set_option maxRecDepth 100000 in
set_option maxHeartbeats 8000000 in
theorem walk (a0 : Option Addr) (len0 cap0 : Nat) (z0 : List Int) (a1 : Option Addr) (len1 cap1 : Nat) (z1 : List Int) (w : World) (w0 : BytesIn w a0 len0 cap0 z0) (w1 : BytesIn w a1 len1 cap1 z1) (hg : Gds w) :
  Calls Tryz.prog 11 #[.slice a0 len0 cap0, .slice a1 len1 cap1] w fun e w' => e = .returned (.bool true) ∧ Below w.heap.size w w' := by
 have hz := w0.bd
 obtain ⟨hr, hlc, hcm, _⟩ := w0
 obtain ⟨_, hlc1, hcm1, _⟩ := w1
 by_cases hsz : (1048576 : Int) < len0
 ·clear hr hlc hcm hz
  go_enter Tryz.func11, Tryz.ntmps11
  go_wp2
  go_ret
  exact ⟨rfl, Below.refl _ _⟩
 by_cases hsz1 : (1048576 : Int) < len1
 ·clear hr hlc hcm hz
  go_enter Tryz.func11, Tryz.ntmps11
  go_wp2
  go_ret
  exact ⟨rfl, Below.refl _ _⟩
 have H1 := Lib.hid (drawReplayDecode_any a0 len0 cap0 z0 w hr hz hlc hcm)
 clear hr hlc hcm hz hlc1 hcm1
 have HG := Lib.hid hg
 go_enter Tryz.func11, Tryz.ntmps11
 go_wp2_with fail
 refine H1.out.mono ?_
 rintro e w1 ⟨T, rfl, hT, hb⟩
 have HB := Lib.hid hb
 have HT := Lib.hid hT
 clear hb hT H1
 go_wp2_with fail
 refine (implReplayDecode_any T _ (HG.out.next HB.out) (by have := HT.out; omega)).mono ?_
 rw [decI_eq]
 generalize hD : decW T = D
 obtain ⟨r, k⟩ := D
 have HD := Lib.hid hD
 rintro e w2 ⟨ti, th, rfl, hor, hb⟩
 replace HB := Lib.hid (below_next HB.out hb)
 have HTR := Lib.hid hor
 clear hb hor hD
 go_upto_region 5 with (fail)
 refine into_world (fun Y => Below w.heap.size w Y ∧ Blk Y w2.heap.size 33 (repC r ti th) ∧ OwRep Y r ti th) ⟨HB.out.alloc HB.out.size _, Blk.new _ _ _, HTR.out.next (ba (Below.refl _ _))⟩ ?_
 rintro U ⟨hB, hK, hO⟩
 replace HB := Lib.hid hB
 have KY := Lib.hid hK
 replace HTR := Lib.hid hO
 have hgU := hK.lt
 clear hB hK hO
 have cy := fun o => KY.out.cell o
 have fy := fun o => KY.out.frozen o
 have zy := KY.out.lt
 go_wp2_with fail
 refine (specReplayDecode_any T _ (by have := HT.out; omega)).mono ?_
 rw [HD.out]
 rintro e w3 ⟨si, sh, rfl, hor, hb⟩
 replace KY := Lib.hid (KY.out.next hb)
 replace HTR := Lib.hid (HTR.out.next hb)
 replace HB := Lib.hid (below_next HB.out hb)
 have HOR := Lib.hid hor
 clear hb hor cy fy zy
 go_upto_region 6 with (fail)
 refine into_world (fun Y => Below w.heap.size w Y ∧ Blk Y w2.heap.size 33 (repC r ti th) ∧ OwRep Y r ti th ∧ Blk Y w3.heap.size 33 (repC r si sh) ∧ OwRep Y r si sh) ⟨HB.out.alloc HB.out.size _, KY.out.alloc _, HTR.out.next (ba (Below.refl _ _)), Blk.new _ _ _, HOR.out.next (ba (Below.refl _ _))⟩ ?_
 rintro V ⟨hB, hK, hO, hK2, hO2⟩
 replace HB := Lib.hid hB
 replace KY := Lib.hid hK
 replace HTR := Lib.hid hO
 have KX := Lib.hid hK2
 replace HOR := Lib.hid hO2
 clear hB hK hO hK2 hO2
 have cx := fun o => KX.out.cell o
 have fx := fun o => KX.out.frozen o
 have zx := KX.out.lt
 have cy := fun o => KY.out.cell o
 have fy := fun o => KY.out.frozen o
 have zy := KY.out.lt
 cases k
 ·go_wp2_with fail
  refine (sameReplay_same r ti th si sh _ HTR.out.rd HOR.out.rd).mono ?_
  rintro e w5 ⟨rfl, hb⟩
  replace KX := Lib.hid (KX.out.next hb)
  replace KY := Lib.hid (KY.out.next hb)
  replace HOR := Lib.hid (HOR.out.next hb)
  replace HTR := Lib.hid (HTR.out.next hb)
  replace HB := Lib.hid (below_next HB.out hb)
  clear hb cx fx zx cy fy zy
  have cx := fun o => KX.out.cell o
  have fx := fun o => KX.out.frozen o
  have zx := KX.out.lt
  have cy := fun o => KY.out.cell o
  have fy := fun o => KY.out.frozen o
  have zy := KY.out.lt
  go_wp2_with fail
  refine (sameReplay_same r ti th si sh _ HTR.out.rd HOR.out.rd).mono ?_
  rintro e w6 ⟨rfl, hb⟩
  replace HB := Lib.hid (below_next HB.out hb)
  clear hb cx fx zx cy fy zy
  go_wp2_with fail
  go_ret
  exact ⟨rfl, HB.out⟩
 ·have HE := Lib.hid (enc_dec HD.out)
  go_wp2_with fail
  refine (sameReplay_same r ti th si sh _ HTR.out.rd HOR.out.rd).mono ?_
  rintro e w5 ⟨rfl, hb⟩
  replace KX := Lib.hid (KX.out.next hb)
  replace KY := Lib.hid (KY.out.next hb)
  replace HOR := Lib.hid (HOR.out.next hb)
  replace HTR := Lib.hid (HTR.out.next hb)
  replace HB := Lib.hid (below_next HB.out hb)
  clear hb cx fx zx cy fy zy
  have cx := fun o => KX.out.cell o
  have fx := fun o => KX.out.frozen o
  have zx := KX.out.lt
  have cy := fun o => KY.out.cell o
  have fy := fun o => KY.out.frozen o
  have zy := KY.out.lt
  have HTS := Lib.hid (show 0 < T.size ∧ T.size ≤ 10001 from ⟨by rw [HE.out.2]; obtain ⟨X, h1, _⟩ := enc_X r; have := congrArg List.length h1; rw [toL_len] at this; simp at this; omega, HT.out⟩)
  have hT1 := HTS.out.1
  have hT2 := HTS.out.2
  obtain ⟨K, hK, hKl⟩ : ∃ K : Nat, (len1 : Int).tmod (T.size : Int) = K ∧ K < T.size := ⟨len1 % T.size, by rw [Int.tmod_eq_emod_of_nonneg (by omega)]; exact (Int.natCast_emod _ _).symm, Nat.mod_lt _ hT1⟩
  have hne : ¬ (T.size : Int) = 0 := by omega
  have HBL := Lib.hid (show ∀ (k : Nat) (hk : k < T.size), T[k] = 10 → decW (T.extract 0 k ++ (⟨#[32]⟩ : ByteArray) ++ T.extract k T.size) = (rep0, false) by rw [HE.out.2]; exact fun k hk h => decW_no (blank_no r hk h))
  have HND := Lib.hid (show ∀ (k : Nat) (hk : k < T.size), k + 1 = T.size → T[k] = 10 by rw [HE.out.2]; exact fun k hk h => enc_end r hk h)
  clear HTR HOR KX KY cx fx zx cy fy zy HD
  go_wp2_with fail
  go_loopw [10] (fun i wr => ∃ k : Nat, k < T.size ∧ i = .int .i64 k ∧ wr = w5) (fun i _ => T.size - (intOf i).toNat)
  case atStart => exact ⟨K, hKl, rfl, rfl⟩
  case round =>
   obtain ⟨k, hk, rfl, rfl⟩ := hrel
   by_cases hlt : k + 1 < T.size
   ·by_cases hz : (T[k].toNat : Int) = 10
    ·have hz' : ((T[k].toNat : Int) == 10) = true := by simpa using hz
     have htk : T[k] = 10 := UInt8.toNat_inj.1 (by have h10 : (10 : UInt8).toNat = 10 := rfl; omega)
     have HC := Lib.hid (HBL.out k hk htk)
     have hx1 : (T.extract 0 k).size = k := by rw [ByteArray.size_extract]; omega
     have hx2 : (T.extract k T.size).size = T.size - k := by rw [ByteArray.size_extract]; omega
     have hkle : k ≤ T.size := by omega
     have y1 : ¬ 9223372036854775807 < k + 1 := by omega
     have y2 : (T.extract 0 k ++ (⟨#[32]⟩ : ByteArray)).size = k + 1 := by rw [ByteArray.size_append, hx1]; rfl
     have y3 : ¬ 9223372036854775807 < k + 1 + (T.size - k) := by omega
     have HTB := Lib.hid (show (T.extract 0 k ++ (⟨#[32]⟩ : ByteArray) ++ T.extract k T.size).size ≤ 1048576 by rw [ByteArray.size_append, y2, hx2]; omega)
     obtain ⟨TB, hTB⟩ : ∃ TB, T.extract 0 k ++ (⟨#[32]⟩ : ByteArray) ++ T.extract k T.size = TB := ⟨_, rfl⟩
     rw [hTB] at HC HTB
     have HTE := Lib.hid hTB
     clear hTB
     go_upto_region 11 with (fail)
     refine wp_region_grow 14 (by kernel_rfl) (by kernel_rfl) (by kernel_rfl) (fun a b => GB a b) (fun mq w' => Below wr.heap.size wr w') (fun iq v w' => match iq with | 0 => (v = .string T) | 1 => (v = .int .i64 k) | 2 => (v = .string (T.extract 0 k)) | 3 => (v = .string (T.extract 0 k ++ ⟨#[32]⟩)) | 4 => (v = .string T) | 5 => (v = .int .i64 k) | 6 => (v = .string (T.extract k T.size)) | 7 => (v = .string TB) | 8 => (∃ (ai ah : Sl), v = .tuple #[repV rep0 ai ah, .bool false]) | 9 => (∃ (ai ah : Sl), v = .tuple #[repV rep0 ai ah, .bool false]) | 10 => (∃ (ai ah : Sl), v = repV rep0 ai ah) | 11 => (v = .bool false) | 12 => (∃ o, v = .pointer (some ⟨o, 0, none⟩) ∧ wr.heap.size ≤ o ∧ ∃ v0 v1 v2 v3 v4 v5, Blk w' o 33 #[v0, v1, v2, v3, v4, v5]) | 13 => (True) | _ => True) (fun sq => { tmps := #[Value.slice a0 len0 cap0, Value.slice a1 len1 cap1, undef, undef, Value.bool false, Value.string T, Value.pointer (some (⟨w2.heap.size, 0, none⟩ : Addr)), Value.bool true, Value.pointer (some (⟨w3.heap.size, 0, none⟩ : Addr)), Value.bool true, Value.int .i64 (k : Int), sq 12, undef, Value.slice a0 len0 cap0, Value.int .i64 (len0 : Int), Value.bool false, Value.bool false, Value.slice a1 len1 cap1, Value.int .i64 (len1 : Int), Value.bool false, Value.bool false, Value.slice a0 len0 cap0, Value.string T, Value.tuple #[repV r ti th, Value.bool true], Value.string T, Value.tuple #[repV r ti th, Value.bool true], repV r ti th, Value.bool true, Value.tuple #[repV r si sh, Value.bool true], Value.string T, Value.tuple #[repV r si sh, Value.bool true], repV r si sh, Value.bool true, Value.bool true, Value.bool true, Value.bool false, Value.bool false, Value.agg #[Value.int .i64 r.lv, Value.int .i64 r.pl, Value.int .i64 r.sc, Value.slice ti.a ti.n ti.c, Value.slice th.a th.n th.c, Value.int .i64 r.tag], Value.agg #[Value.int .i64 r.lv, Value.int .i64 r.pl, Value.int .i64 r.sc, Value.slice si.a si.n si.c, Value.slice sh.a sh.n sh.c, Value.int .i64 r.tag], Value.bool true, Value.bool false, Value.bool false, Value.bool false, Value.bool true, Value.bool false, Value.bool false, undef, undef, undef, undef, undef, undef, undef, undef, Value.slice a1 len1 cap1, Value.int .i64 (len1 : Int), Value.string T, Value.int .i64 (T.size : Int), Value.int .i64 (K : Int), Value.int .i64 (k : Int), Value.string T, Value.int .i64 (T.size : Int), Value.int .i64 ((T.size : Int) - 1), Value.bool true, Value.bool true, Value.string T, Value.int .i64 (k : Int), Value.int IntKind.u8 10, Value.bool false, Value.bool false, u70, u71, sq 9, sq 0, sq 1, sq 2, sq 3, sq 4, sq 5, sq 6, sq 7, sq 8, sq 10, sq 11, undef, undef], defers := [] }) (fun _ => undef) ?_ ?_ ?_ ?_
     ·rintro iq v a b hg h
      match iq, h with
      | 0, h => exact h
      | 1, h => exact h
      | 2, h => exact h
      | 3, h => exact h
      | 4, h => exact h
      | 5, h => exact h
      | 6, h => exact h
      | 7, h => exact h
      | 8, h => exact h
      | 9, h => exact h
      | 10, h => exact h
      | 11, h => exact h
      | 12, h => exact (by obtain ⟨o, rfl, h1, h2⟩ := h; exact ⟨o, rfl, h1, hg o h2⟩)
      | 13, h => exact h
      | (kq + 14), _ => exact trivial
     ·exact ⟨rfl, rfl, rfl, Nat.le_refl _, fun _ _ => rfl⟩
     ·intro mq sq w' iq oq hmq hiq hoq hJ hd Kq hK
      have hiq' : iq = 0 ∨ iq = 1 ∨ iq = 2 ∨ iq = 3 ∨ iq = 4 ∨ iq = 5 ∨ iq = 6 ∨ iq = 7 ∨ iq = 8 ∨ iq = 9 ∨ iq = 10 ∨ iq = 11 ∨ iq = 12 ∨ iq = 13 := by omega
      rcases hiq' with rfl | rfl | rfl | rfl | rfl | rfl | rfl | rfl | rfl | rfl | rfl | rfl | rfl | rfl
      ·cases (show some _ = some oq from hoq)
       have hK' := hK
       simp only [updV, Nat.reduceEqDiff, ↓reduceIte] at hK'
       clear hK hd
       generalize sq 0 = x0 at *
       generalize sq 1 = x1 at *
       generalize sq 2 = x2 at *
       generalize sq 3 = x3 at *
       generalize sq 4 = x4 at *
       generalize sq 5 = x5 at *
       generalize sq 6 = x6 at *
       generalize sq 7 = x7 at *
       generalize sq 8 = x8 at *
       generalize sq 9 = x9 at *
       generalize sq 10 = x10 at *
       generalize sq 11 = x11 at *
       generalize sq 12 = x12 at *
       generalize sq 13 = x13 at *
       go_simp
       exact hK' _ _ (GB.of (Below.refl _ _)) hJ rfl
      ·cases (show some _ = some oq from hoq)
       have hK' := hK
       simp only [updV, Nat.reduceEqDiff, ↓reduceIte] at hK'
       clear hK hd
       generalize sq 0 = x0 at *
       generalize sq 1 = x1 at *
       generalize sq 2 = x2 at *
       generalize sq 3 = x3 at *
       generalize sq 4 = x4 at *
       generalize sq 5 = x5 at *
       generalize sq 6 = x6 at *
       generalize sq 7 = x7 at *
       generalize sq 8 = x8 at *
       generalize sq 9 = x9 at *
       generalize sq 10 = x10 at *
       generalize sq 11 = x11 at *
       generalize sq 12 = x12 at *
       generalize sq 13 = x13 at *
       go_simp
       exact hK' _ _ (GB.of (Below.refl _ _)) hJ rfl
      ·cases (show some _ = some oq from hoq)
       have d0 := hd 0 (by kernel_rfl) (by decide)
       have d1 := hd 1 (by kernel_rfl) (by decide)
       have hK' := hK
       simp only [updV, Nat.reduceEqDiff, ↓reduceIte] at hK'
       clear hK hd
       generalize sq 0 = x0 at *
       generalize sq 1 = x1 at *
       generalize sq 2 = x2 at *
       generalize sq 3 = x3 at *
       generalize sq 4 = x4 at *
       generalize sq 5 = x5 at *
       generalize sq 6 = x6 at *
       generalize sq 7 = x7 at *
       generalize sq 8 = x8 at *
       generalize sq 9 = x9 at *
       generalize sq 10 = x10 at *
       generalize sq 11 = x11 at *
       generalize sq 12 = x12 at *
       generalize sq 13 = x13 at *
       obtain rfl := d0
       obtain rfl := d1
       go_simp
       exact hK' _ _ (GB.of (Below.refl _ _)) hJ rfl
      ·cases (show some _ = some oq from hoq)
       have d2 := hd 2 (by kernel_rfl) (by decide)
       have hK' := hK
       simp only [updV, Nat.reduceEqDiff, ↓reduceIte] at hK'
       clear hK hd
       generalize sq 0 = x0 at *
       generalize sq 1 = x1 at *
       generalize sq 2 = x2 at *
       generalize sq 3 = x3 at *
       generalize sq 4 = x4 at *
       generalize sq 5 = x5 at *
       generalize sq 6 = x6 at *
       generalize sq 7 = x7 at *
       generalize sq 8 = x8 at *
       generalize sq 9 = x9 at *
       generalize sq 10 = x10 at *
       generalize sq 11 = x11 at *
       generalize sq 12 = x12 at *
       generalize sq 13 = x13 at *
       obtain rfl := d2
       go_simp
       exact hK' _ _ (GB.of (Below.refl _ _)) hJ rfl
      ·cases (show some _ = some oq from hoq)
       have hK' := hK
       simp only [updV, Nat.reduceEqDiff, ↓reduceIte] at hK'
       clear hK hd
       generalize sq 0 = x0 at *
       generalize sq 1 = x1 at *
       generalize sq 2 = x2 at *
       generalize sq 3 = x3 at *
       generalize sq 4 = x4 at *
       generalize sq 5 = x5 at *
       generalize sq 6 = x6 at *
       generalize sq 7 = x7 at *
       generalize sq 8 = x8 at *
       generalize sq 9 = x9 at *
       generalize sq 10 = x10 at *
       generalize sq 11 = x11 at *
       generalize sq 12 = x12 at *
       generalize sq 13 = x13 at *
       go_simp
       exact hK' _ _ (GB.of (Below.refl _ _)) hJ rfl
      ·cases (show some _ = some oq from hoq)
       have hK' := hK
       simp only [updV, Nat.reduceEqDiff, ↓reduceIte] at hK'
       clear hK hd
       generalize sq 0 = x0 at *
       generalize sq 1 = x1 at *
       generalize sq 2 = x2 at *
       generalize sq 3 = x3 at *
       generalize sq 4 = x4 at *
       generalize sq 5 = x5 at *
       generalize sq 6 = x6 at *
       generalize sq 7 = x7 at *
       generalize sq 8 = x8 at *
       generalize sq 9 = x9 at *
       generalize sq 10 = x10 at *
       generalize sq 11 = x11 at *
       generalize sq 12 = x12 at *
       generalize sq 13 = x13 at *
       go_simp
       exact hK' _ _ (GB.of (Below.refl _ _)) hJ rfl
      ·cases (show some _ = some oq from hoq)
       have d4 := hd 4 (by kernel_rfl) (by decide)
       have d5 := hd 5 (by kernel_rfl) (by decide)
       have hK' := hK
       simp only [updV, Nat.reduceEqDiff, ↓reduceIte] at hK'
       clear hK hd
       generalize sq 0 = x0 at *
       generalize sq 1 = x1 at *
       generalize sq 2 = x2 at *
       generalize sq 3 = x3 at *
       generalize sq 4 = x4 at *
       generalize sq 5 = x5 at *
       generalize sq 6 = x6 at *
       generalize sq 7 = x7 at *
       generalize sq 8 = x8 at *
       generalize sq 9 = x9 at *
       generalize sq 10 = x10 at *
       generalize sq 11 = x11 at *
       generalize sq 12 = x12 at *
       generalize sq 13 = x13 at *
       obtain rfl := d4
       obtain rfl := d5
       go_simp
       exact hK' _ _ (GB.of (Below.refl _ _)) hJ rfl
      ·cases (show some _ = some oq from hoq)
       have d3 := hd 3 (by kernel_rfl) (by decide)
       have d6 := hd 6 (by kernel_rfl) (by decide)
       have hK' := hK
       simp only [updV, Nat.reduceEqDiff, ↓reduceIte] at hK'
       clear hK hd
       generalize sq 0 = x0 at *
       generalize sq 1 = x1 at *
       generalize sq 2 = x2 at *
       generalize sq 3 = x3 at *
       generalize sq 4 = x4 at *
       generalize sq 5 = x5 at *
       generalize sq 6 = x6 at *
       generalize sq 7 = x7 at *
       generalize sq 8 = x8 at *
       generalize sq 9 = x9 at *
       generalize sq 10 = x10 at *
       generalize sq 11 = x11 at *
       generalize sq 12 = x12 at *
       generalize sq 13 = x13 at *
       obtain rfl := d3
       obtain rfl := d6
       go_simp
       exact hK' _ _ (GB.of (Below.refl _ _)) hJ (congrArg Value.string HTE.out)
      ·cases (show some _ = some oq from hoq)
       have d7 := hd 7 (by kernel_rfl) (by decide)
       have hK' := hK
       simp only [updV, Nat.reduceEqDiff, ↓reduceIte] at hK'
       clear hK hd
       generalize sq 0 = x0 at *
       generalize sq 1 = x1 at *
       generalize sq 2 = x2 at *
       generalize sq 3 = x3 at *
       generalize sq 4 = x4 at *
       generalize sq 5 = x5 at *
       generalize sq 6 = x6 at *
       generalize sq 7 = x7 at *
       generalize sq 8 = x8 at *
       generalize sq 9 = x9 at *
       generalize sq 10 = x10 at *
       generalize sq 11 = x11 at *
       generalize sq 12 = x12 at *
       generalize sq 13 = x13 at *
       obtain rfl := d7
       go_simp
       refine (implReplayDecode_any TB _ (HG.out.next (HB.out.trans (hJ.mono HB.out.size))) HTB.out).mono ?_
       rw [decI_eq, HC.out]
       rintro e9 w9 ⟨ai, ah, rfl, _, hb9⟩
       exact hK' _ _ (GB.of hb9) (hJ.trans (hb9.mono hJ.size)) ⟨ai, ah, rfl⟩
      ·cases (show some _ = some oq from hoq)
       have d8 := hd 8 (by kernel_rfl) (by decide)
       have hK' := hK
       simp only [updV, Nat.reduceEqDiff, ↓reduceIte] at hK'
       clear hK hd
       generalize sq 0 = x0 at *
       generalize sq 1 = x1 at *
       generalize sq 2 = x2 at *
       generalize sq 3 = x3 at *
       generalize sq 4 = x4 at *
       generalize sq 5 = x5 at *
       generalize sq 6 = x6 at *
       generalize sq 7 = x7 at *
       generalize sq 8 = x8 at *
       generalize sq 9 = x9 at *
       generalize sq 10 = x10 at *
       generalize sq 11 = x11 at *
       generalize sq 12 = x12 at *
       generalize sq 13 = x13 at *
       obtain ⟨ai, ah, rfl⟩ := d8
       go_simp
       exact hK' _ _ (GB.of (Below.refl _ _)) hJ ⟨ai, ah, rfl⟩
      ·cases (show some _ = some oq from hoq)
       have d9 := hd 9 (by kernel_rfl) (by decide)
       have hK' := hK
       simp only [updV, Nat.reduceEqDiff, ↓reduceIte] at hK'
       clear hK hd
       generalize sq 0 = x0 at *
       generalize sq 1 = x1 at *
       generalize sq 2 = x2 at *
       generalize sq 3 = x3 at *
       generalize sq 4 = x4 at *
       generalize sq 5 = x5 at *
       generalize sq 6 = x6 at *
       generalize sq 7 = x7 at *
       generalize sq 8 = x8 at *
       generalize sq 9 = x9 at *
       generalize sq 10 = x10 at *
       generalize sq 11 = x11 at *
       generalize sq 12 = x12 at *
       generalize sq 13 = x13 at *
       obtain ⟨ai, ah, rfl⟩ := d9
       go_simp
       exact hK' _ _ (GB.of (Below.refl _ _)) hJ ⟨ai, ah, rfl⟩
      ·cases (show some _ = some oq from hoq)
       have d9 := hd 9 (by kernel_rfl) (by decide)
       have hK' := hK
       simp only [updV, Nat.reduceEqDiff, ↓reduceIte] at hK'
       clear hK hd
       generalize sq 0 = x0 at *
       generalize sq 1 = x1 at *
       generalize sq 2 = x2 at *
       generalize sq 3 = x3 at *
       generalize sq 4 = x4 at *
       generalize sq 5 = x5 at *
       generalize sq 6 = x6 at *
       generalize sq 7 = x7 at *
       generalize sq 8 = x8 at *
       generalize sq 9 = x9 at *
       generalize sq 10 = x10 at *
       generalize sq 11 = x11 at *
       generalize sq 12 = x12 at *
       generalize sq 13 = x13 at *
       obtain ⟨ai, ah, rfl⟩ := d9
       go_simp
       exact hK' _ _ (GB.of (Below.refl _ _)) hJ rfl
      ·cases (show some _ = some oq from hoq)
       have hK' := hK
       simp only [updV, Nat.reduceEqDiff, ↓reduceIte] at hK'
       clear hK hd
       generalize sq 0 = x0 at *
       generalize sq 1 = x1 at *
       generalize sq 2 = x2 at *
       generalize sq 3 = x3 at *
       generalize sq 4 = x4 at *
       generalize sq 5 = x5 at *
       generalize sq 6 = x6 at *
       generalize sq 7 = x7 at *
       generalize sq 8 = x8 at *
       generalize sq 9 = x9 at *
       generalize sq 10 = x10 at *
       generalize sq 11 = x11 at *
       generalize sq 12 = x12 at *
       generalize sq 13 = x13 at *
       go_simp
       exact hK' _ _ (GB.of (ba (Below.refl _ _))) (hJ.alloc hJ.size _) ⟨_, rfl, hJ.size, _, _, _, _, _, _, Blk.new _ _ _⟩
      ·cases (show some _ = some oq from hoq)
       have d10 := hd 10 (by kernel_rfl) (by decide)
       have d12 := hd 12 (by kernel_rfl) (by decide)
       have hK' := hK
       simp only [updV, Nat.reduceEqDiff, ↓reduceIte] at hK'
       clear hK hd
       generalize sq 0 = x0 at *
       generalize sq 1 = x1 at *
       generalize sq 2 = x2 at *
       generalize sq 3 = x3 at *
       generalize sq 4 = x4 at *
       generalize sq 5 = x5 at *
       generalize sq 6 = x6 at *
       generalize sq 7 = x7 at *
       generalize sq 8 = x8 at *
       generalize sq 9 = x9 at *
       generalize sq 10 = x10 at *
       generalize sq 11 = x11 at *
       generalize sq 12 = x12 at *
       generalize sq 13 = x13 at *
       obtain ⟨ai, ah, rfl⟩ := d10
       obtain ⟨o, rfl, ho, v0, v1, v2, v3, v4, v5, hbk⟩ := d12
       have cx := fun o => hbk.cell o
       have fx := fun o => hbk.frozen o
       have zx := hbk.lt
       have hst := only6' (q := o) (.inl rfl) (Only.refl o w') (.int .i64 rep0.lv) (.int .i64 rep0.pl) (.int .i64 rep0.sc) (.slice ai.a ai.n ai.c) (.slice ah.a ah.n ah.c) (.int .i64 rep0.tag)
       have hnw := hbk.all6 (.int .i64 rep0.lv) (.int .i64 rep0.pl) (.int .i64 rep0.sc) (.slice ai.a ai.n ai.c) (.slice ah.a ah.n ah.c) (.int .i64 rep0.tag)
       go_simp
       exact hK' undef _ (GB.set hst hnw) (hJ.trans (hst.below ho hJ.size)) trivial
     ·intro sq w' hJ hφ
      simp only [List.drop_succ_cons, List.drop_zero]
      have d11 := hφ 11 (by decide)
      clear hφ
      generalize sq 0 = x0 at *
      generalize sq 1 = x1 at *
      generalize sq 2 = x2 at *
      generalize sq 3 = x3 at *
      generalize sq 4 = x4 at *
      generalize sq 5 = x5 at *
      generalize sq 6 = x6 at *
      generalize sq 7 = x7 at *
      generalize sq 8 = x8 at *
      generalize sq 9 = x9 at *
      generalize sq 10 = x10 at *
      generalize sq 11 = x11 at *
      generalize sq 12 = x12 at *
      generalize sq 13 = x13 at *
      obtain rfl := d11
      have HBE := Lib.hid (HB.out.trans (hJ.mono HB.out.size))
      clear hJ
      go_wp2_with fail
      go_ret
      exact ⟨rfl, HBE.out⟩
    ·have hz' : ((T[k].toNat : Int) == 10) = false := by simpa using hz
     go_wp2_with fail
     exact ⟨⟨k + 1, hlt, by go_num, trivial⟩, by simp [intOf]; omega⟩
   ·have htk : T[k] = 10 := HND.out k hk (by omega)
    have HC := Lib.hid (HBL.out k hk htk)
    have hx1 : (T.extract 0 k).size = k := by rw [ByteArray.size_extract]; omega
    have hx2 : (T.extract k T.size).size = T.size - k := by rw [ByteArray.size_extract]; omega
    have hkle : k ≤ T.size := by omega
    have y1 : ¬ 9223372036854775807 < k + 1 := by omega
    have y2 : (T.extract 0 k ++ (⟨#[32]⟩ : ByteArray)).size = k + 1 := by rw [ByteArray.size_append, hx1]; rfl
    have y3 : ¬ 9223372036854775807 < k + 1 + (T.size - k) := by omega
    have HTB := Lib.hid (show (T.extract 0 k ++ (⟨#[32]⟩ : ByteArray) ++ T.extract k T.size).size ≤ 1048576 by rw [ByteArray.size_append, y2, hx2]; omega)
    obtain ⟨TB, hTB⟩ : ∃ TB, T.extract 0 k ++ (⟨#[32]⟩ : ByteArray) ++ T.extract k T.size = TB := ⟨_, rfl⟩
    rw [hTB] at HC HTB
    have HTE := Lib.hid hTB
    clear hTB
    go_upto_region 11 with (fail)
    refine wp_region_grow 14 (by kernel_rfl) (by kernel_rfl) (by kernel_rfl) (fun a b => GB a b) (fun mq w' => Below wr.heap.size wr w') (fun iq v w' => match iq with | 0 => (v = .string T) | 1 => (v = .int .i64 k) | 2 => (v = .string (T.extract 0 k)) | 3 => (v = .string (T.extract 0 k ++ ⟨#[32]⟩)) | 4 => (v = .string T) | 5 => (v = .int .i64 k) | 6 => (v = .string (T.extract k T.size)) | 7 => (v = .string TB) | 8 => (∃ (ai ah : Sl), v = .tuple #[repV rep0 ai ah, .bool false]) | 9 => (∃ (ai ah : Sl), v = .tuple #[repV rep0 ai ah, .bool false]) | 10 => (∃ (ai ah : Sl), v = repV rep0 ai ah) | 11 => (v = .bool false) | 12 => (∃ o, v = .pointer (some ⟨o, 0, none⟩) ∧ wr.heap.size ≤ o ∧ ∃ v0 v1 v2 v3 v4 v5, Blk w' o 33 #[v0, v1, v2, v3, v4, v5]) | 13 => (True) | _ => True) (fun sq => { tmps := #[Value.slice a0 len0 cap0, Value.slice a1 len1 cap1, undef, undef, Value.bool false, Value.string T, Value.pointer (some (⟨w2.heap.size, 0, none⟩ : Addr)), Value.bool true, Value.pointer (some (⟨w3.heap.size, 0, none⟩ : Addr)), Value.bool true, Value.int .i64 (k : Int), sq 12, undef, Value.slice a0 len0 cap0, Value.int .i64 (len0 : Int), Value.bool false, Value.bool false, Value.slice a1 len1 cap1, Value.int .i64 (len1 : Int), Value.bool false, Value.bool false, Value.slice a0 len0 cap0, Value.string T, Value.tuple #[repV r ti th, Value.bool true], Value.string T, Value.tuple #[repV r ti th, Value.bool true], repV r ti th, Value.bool true, Value.tuple #[repV r si sh, Value.bool true], Value.string T, Value.tuple #[repV r si sh, Value.bool true], repV r si sh, Value.bool true, Value.bool true, Value.bool true, Value.bool false, Value.bool false, Value.agg #[Value.int .i64 r.lv, Value.int .i64 r.pl, Value.int .i64 r.sc, Value.slice ti.a ti.n ti.c, Value.slice th.a th.n th.c, Value.int .i64 r.tag], Value.agg #[Value.int .i64 r.lv, Value.int .i64 r.pl, Value.int .i64 r.sc, Value.slice si.a si.n si.c, Value.slice sh.a sh.n sh.c, Value.int .i64 r.tag], Value.bool true, Value.bool false, Value.bool false, Value.bool false, Value.bool true, Value.bool false, Value.bool false, undef, undef, undef, undef, undef, undef, undef, undef, Value.slice a1 len1 cap1, Value.int .i64 (len1 : Int), Value.string T, Value.int .i64 (T.size : Int), Value.int .i64 (K : Int), Value.int .i64 (k : Int), Value.string T, Value.int .i64 (T.size : Int), Value.int .i64 ((T.size : Int) - 1), Value.bool false, Value.bool false, undef, undef, undef, undef, Value.bool false, u70, u71, sq 9, sq 0, sq 1, sq 2, sq 3, sq 4, sq 5, sq 6, sq 7, sq 8, sq 10, sq 11, undef, undef], defers := [] }) (fun _ => undef) ?_ ?_ ?_ ?_
    ·rintro iq v a b hg h
     match iq, h with
     | 0, h => exact h
     | 1, h => exact h
     | 2, h => exact h
     | 3, h => exact h
     | 4, h => exact h
     | 5, h => exact h
     | 6, h => exact h
     | 7, h => exact h
     | 8, h => exact h
     | 9, h => exact h
     | 10, h => exact h
     | 11, h => exact h
     | 12, h => exact (by obtain ⟨o, rfl, h1, h2⟩ := h; exact ⟨o, rfl, h1, hg o h2⟩)
     | 13, h => exact h
     | (kq + 14), _ => exact trivial
    ·exact ⟨rfl, rfl, rfl, Nat.le_refl _, fun _ _ => rfl⟩
    ·intro mq sq w' iq oq hmq hiq hoq hJ hd Kq hK
     have hiq' : iq = 0 ∨ iq = 1 ∨ iq = 2 ∨ iq = 3 ∨ iq = 4 ∨ iq = 5 ∨ iq = 6 ∨ iq = 7 ∨ iq = 8 ∨ iq = 9 ∨ iq = 10 ∨ iq = 11 ∨ iq = 12 ∨ iq = 13 := by omega
     rcases hiq' with rfl | rfl | rfl | rfl | rfl | rfl | rfl | rfl | rfl | rfl | rfl | rfl | rfl | rfl
     ·cases (show some _ = some oq from hoq)
      have hK' := hK
      simp only [updV, Nat.reduceEqDiff, ↓reduceIte] at hK'
      clear hK hd
      generalize sq 0 = x0 at *
      generalize sq 1 = x1 at *
      generalize sq 2 = x2 at *
      generalize sq 3 = x3 at *
      generalize sq 4 = x4 at *
      generalize sq 5 = x5 at *
      generalize sq 6 = x6 at *
      generalize sq 7 = x7 at *
      generalize sq 8 = x8 at *
      generalize sq 9 = x9 at *
      generalize sq 10 = x10 at *
      generalize sq 11 = x11 at *
      generalize sq 12 = x12 at *
      generalize sq 13 = x13 at *
      go_simp
      exact hK' _ _ (GB.of (Below.refl _ _)) hJ rfl
     ·cases (show some _ = some oq from hoq)
      have hK' := hK
      simp only [updV, Nat.reduceEqDiff, ↓reduceIte] at hK'
      clear hK hd
      generalize sq 0 = x0 at *
      generalize sq 1 = x1 at *
      generalize sq 2 = x2 at *
      generalize sq 3 = x3 at *
      generalize sq 4 = x4 at *
      generalize sq 5 = x5 at *
      generalize sq 6 = x6 at *
      generalize sq 7 = x7 at *
      generalize sq 8 = x8 at *
      generalize sq 9 = x9 at *
      generalize sq 10 = x10 at *
      generalize sq 11 = x11 at *
      generalize sq 12 = x12 at *
      generalize sq 13 = x13 at *
      go_simp
      exact hK' _ _ (GB.of (Below.refl _ _)) hJ rfl
     ·cases (show some _ = some oq from hoq)
      have d0 := hd 0 (by kernel_rfl) (by decide)
      have d1 := hd 1 (by kernel_rfl) (by decide)
      have hK' := hK
      simp only [updV, Nat.reduceEqDiff, ↓reduceIte] at hK'
      clear hK hd
      generalize sq 0 = x0 at *
      generalize sq 1 = x1 at *
      generalize sq 2 = x2 at *
      generalize sq 3 = x3 at *
      generalize sq 4 = x4 at *
      generalize sq 5 = x5 at *
      generalize sq 6 = x6 at *
      generalize sq 7 = x7 at *
      generalize sq 8 = x8 at *
      generalize sq 9 = x9 at *
      generalize sq 10 = x10 at *
      generalize sq 11 = x11 at *
      generalize sq 12 = x12 at *
      generalize sq 13 = x13 at *
      obtain rfl := d0
      obtain rfl := d1
      go_simp
      exact hK' _ _ (GB.of (Below.refl _ _)) hJ rfl
     ·cases (show some _ = some oq from hoq)
      have d2 := hd 2 (by kernel_rfl) (by decide)
      have hK' := hK
      simp only [updV, Nat.reduceEqDiff, ↓reduceIte] at hK'
      clear hK hd
      generalize sq 0 = x0 at *
      generalize sq 1 = x1 at *
      generalize sq 2 = x2 at *
      generalize sq 3 = x3 at *
      generalize sq 4 = x4 at *
      generalize sq 5 = x5 at *
      generalize sq 6 = x6 at *
      generalize sq 7 = x7 at *
      generalize sq 8 = x8 at *
      generalize sq 9 = x9 at *
      generalize sq 10 = x10 at *
      generalize sq 11 = x11 at *
      generalize sq 12 = x12 at *
      generalize sq 13 = x13 at *
      obtain rfl := d2
      go_simp
      exact hK' _ _ (GB.of (Below.refl _ _)) hJ rfl
     ·cases (show some _ = some oq from hoq)
      have hK' := hK
      simp only [updV, Nat.reduceEqDiff, ↓reduceIte] at hK'
      clear hK hd
      generalize sq 0 = x0 at *
      generalize sq 1 = x1 at *
      generalize sq 2 = x2 at *
      generalize sq 3 = x3 at *
      generalize sq 4 = x4 at *
      generalize sq 5 = x5 at *
      generalize sq 6 = x6 at *
      generalize sq 7 = x7 at *
      generalize sq 8 = x8 at *
      generalize sq 9 = x9 at *
      generalize sq 10 = x10 at *
      generalize sq 11 = x11 at *
      generalize sq 12 = x12 at *
      generalize sq 13 = x13 at *
      go_simp
      exact hK' _ _ (GB.of (Below.refl _ _)) hJ rfl
     ·cases (show some _ = some oq from hoq)
      have hK' := hK
      simp only [updV, Nat.reduceEqDiff, ↓reduceIte] at hK'
      clear hK hd
      generalize sq 0 = x0 at *
      generalize sq 1 = x1 at *
      generalize sq 2 = x2 at *
      generalize sq 3 = x3 at *
      generalize sq 4 = x4 at *
      generalize sq 5 = x5 at *
      generalize sq 6 = x6 at *
      generalize sq 7 = x7 at *
      generalize sq 8 = x8 at *
      generalize sq 9 = x9 at *
      generalize sq 10 = x10 at *
      generalize sq 11 = x11 at *
      generalize sq 12 = x12 at *
      generalize sq 13 = x13 at *
      go_simp
      exact hK' _ _ (GB.of (Below.refl _ _)) hJ rfl
     ·cases (show some _ = some oq from hoq)
      have d4 := hd 4 (by kernel_rfl) (by decide)
      have d5 := hd 5 (by kernel_rfl) (by decide)
      have hK' := hK
      simp only [updV, Nat.reduceEqDiff, ↓reduceIte] at hK'
      clear hK hd
      generalize sq 0 = x0 at *
      generalize sq 1 = x1 at *
      generalize sq 2 = x2 at *
      generalize sq 3 = x3 at *
      generalize sq 4 = x4 at *
      generalize sq 5 = x5 at *
      generalize sq 6 = x6 at *
      generalize sq 7 = x7 at *
      generalize sq 8 = x8 at *
      generalize sq 9 = x9 at *
      generalize sq 10 = x10 at *
      generalize sq 11 = x11 at *
      generalize sq 12 = x12 at *
      generalize sq 13 = x13 at *
      obtain rfl := d4
      obtain rfl := d5
      go_simp
      exact hK' _ _ (GB.of (Below.refl _ _)) hJ rfl
     ·cases (show some _ = some oq from hoq)
      have d3 := hd 3 (by kernel_rfl) (by decide)
      have d6 := hd 6 (by kernel_rfl) (by decide)
      have hK' := hK
      simp only [updV, Nat.reduceEqDiff, ↓reduceIte] at hK'
      clear hK hd
      generalize sq 0 = x0 at *
      generalize sq 1 = x1 at *
      generalize sq 2 = x2 at *
      generalize sq 3 = x3 at *
      generalize sq 4 = x4 at *
      generalize sq 5 = x5 at *
      generalize sq 6 = x6 at *
      generalize sq 7 = x7 at *
      generalize sq 8 = x8 at *
      generalize sq 9 = x9 at *
      generalize sq 10 = x10 at *
      generalize sq 11 = x11 at *
      generalize sq 12 = x12 at *
      generalize sq 13 = x13 at *
      obtain rfl := d3
      obtain rfl := d6
      go_simp
      exact hK' _ _ (GB.of (Below.refl _ _)) hJ (congrArg Value.string HTE.out)
     ·cases (show some _ = some oq from hoq)
      have d7 := hd 7 (by kernel_rfl) (by decide)
      have hK' := hK
      simp only [updV, Nat.reduceEqDiff, ↓reduceIte] at hK'
      clear hK hd
      generalize sq 0 = x0 at *
      generalize sq 1 = x1 at *
      generalize sq 2 = x2 at *
      generalize sq 3 = x3 at *
      generalize sq 4 = x4 at *
      generalize sq 5 = x5 at *
      generalize sq 6 = x6 at *
      generalize sq 7 = x7 at *
      generalize sq 8 = x8 at *
      generalize sq 9 = x9 at *
      generalize sq 10 = x10 at *
      generalize sq 11 = x11 at *
      generalize sq 12 = x12 at *
      generalize sq 13 = x13 at *
      obtain rfl := d7
      go_simp
      refine (implReplayDecode_any TB _ (HG.out.next (HB.out.trans (hJ.mono HB.out.size))) HTB.out).mono ?_
      rw [decI_eq, HC.out]
      rintro e9 w9 ⟨ai, ah, rfl, _, hb9⟩
      exact hK' _ _ (GB.of hb9) (hJ.trans (hb9.mono hJ.size)) ⟨ai, ah, rfl⟩
     ·cases (show some _ = some oq from hoq)
      have d8 := hd 8 (by kernel_rfl) (by decide)
      have hK' := hK
      simp only [updV, Nat.reduceEqDiff, ↓reduceIte] at hK'
      clear hK hd
      generalize sq 0 = x0 at *
      generalize sq 1 = x1 at *
      generalize sq 2 = x2 at *
      generalize sq 3 = x3 at *
      generalize sq 4 = x4 at *
      generalize sq 5 = x5 at *
      generalize sq 6 = x6 at *
      generalize sq 7 = x7 at *
      generalize sq 8 = x8 at *
      generalize sq 9 = x9 at *
      generalize sq 10 = x10 at *
      generalize sq 11 = x11 at *
      generalize sq 12 = x12 at *
      generalize sq 13 = x13 at *
      obtain ⟨ai, ah, rfl⟩ := d8
      go_simp
      exact hK' _ _ (GB.of (Below.refl _ _)) hJ ⟨ai, ah, rfl⟩
     ·cases (show some _ = some oq from hoq)
      have d9 := hd 9 (by kernel_rfl) (by decide)
      have hK' := hK
      simp only [updV, Nat.reduceEqDiff, ↓reduceIte] at hK'
      clear hK hd
      generalize sq 0 = x0 at *
      generalize sq 1 = x1 at *
      generalize sq 2 = x2 at *
      generalize sq 3 = x3 at *
      generalize sq 4 = x4 at *
      generalize sq 5 = x5 at *
      generalize sq 6 = x6 at *
      generalize sq 7 = x7 at *
      generalize sq 8 = x8 at *
      generalize sq 9 = x9 at *
      generalize sq 10 = x10 at *
      generalize sq 11 = x11 at *
      generalize sq 12 = x12 at *
      generalize sq 13 = x13 at *
      obtain ⟨ai, ah, rfl⟩ := d9
      go_simp
      exact hK' _ _ (GB.of (Below.refl _ _)) hJ ⟨ai, ah, rfl⟩
     ·cases (show some _ = some oq from hoq)
      have d9 := hd 9 (by kernel_rfl) (by decide)
      have hK' := hK
      simp only [updV, Nat.reduceEqDiff, ↓reduceIte] at hK'
      clear hK hd
      generalize sq 0 = x0 at *
      generalize sq 1 = x1 at *
      generalize sq 2 = x2 at *
      generalize sq 3 = x3 at *
      generalize sq 4 = x4 at *
      generalize sq 5 = x5 at *
      generalize sq 6 = x6 at *
      generalize sq 7 = x7 at *
      generalize sq 8 = x8 at *
      generalize sq 9 = x9 at *
      generalize sq 10 = x10 at *
      generalize sq 11 = x11 at *
      generalize sq 12 = x12 at *
      generalize sq 13 = x13 at *
      obtain ⟨ai, ah, rfl⟩ := d9
      go_simp
      exact hK' _ _ (GB.of (Below.refl _ _)) hJ rfl
     ·cases (show some _ = some oq from hoq)
      have hK' := hK
      simp only [updV, Nat.reduceEqDiff, ↓reduceIte] at hK'
      clear hK hd
      generalize sq 0 = x0 at *
      generalize sq 1 = x1 at *
      generalize sq 2 = x2 at *
      generalize sq 3 = x3 at *
      generalize sq 4 = x4 at *
      generalize sq 5 = x5 at *
      generalize sq 6 = x6 at *
      generalize sq 7 = x7 at *
      generalize sq 8 = x8 at *
      generalize sq 9 = x9 at *
      generalize sq 10 = x10 at *
      generalize sq 11 = x11 at *
      generalize sq 12 = x12 at *
      generalize sq 13 = x13 at *
      go_simp
      exact hK' _ _ (GB.of (ba (Below.refl _ _))) (hJ.alloc hJ.size _) ⟨_, rfl, hJ.size, _, _, _, _, _, _, Blk.new _ _ _⟩
     ·cases (show some _ = some oq from hoq)
      have d10 := hd 10 (by kernel_rfl) (by decide)
      have d12 := hd 12 (by kernel_rfl) (by decide)
      have hK' := hK
      simp only [updV, Nat.reduceEqDiff, ↓reduceIte] at hK'
      clear hK hd
      generalize sq 0 = x0 at *
      generalize sq 1 = x1 at *
      generalize sq 2 = x2 at *
      generalize sq 3 = x3 at *
      generalize sq 4 = x4 at *
      generalize sq 5 = x5 at *
      generalize sq 6 = x6 at *
      generalize sq 7 = x7 at *
      generalize sq 8 = x8 at *
      generalize sq 9 = x9 at *
      generalize sq 10 = x10 at *
      generalize sq 11 = x11 at *
      generalize sq 12 = x12 at *
      generalize sq 13 = x13 at *
      obtain ⟨ai, ah, rfl⟩ := d10
      obtain ⟨o, rfl, ho, v0, v1, v2, v3, v4, v5, hbk⟩ := d12
      have cx := fun o => hbk.cell o
      have fx := fun o => hbk.frozen o
      have zx := hbk.lt
      have hst := only6' (q := o) (.inl rfl) (Only.refl o w') (.int .i64 rep0.lv) (.int .i64 rep0.pl) (.int .i64 rep0.sc) (.slice ai.a ai.n ai.c) (.slice ah.a ah.n ah.c) (.int .i64 rep0.tag)
      have hnw := hbk.all6 (.int .i64 rep0.lv) (.int .i64 rep0.pl) (.int .i64 rep0.sc) (.slice ai.a ai.n ai.c) (.slice ah.a ah.n ah.c) (.int .i64 rep0.tag)
      go_simp
      exact hK' undef _ (GB.set hst hnw) (hJ.trans (hst.below ho hJ.size)) trivial
    ·intro sq w' hJ hφ
     simp only [List.drop_succ_cons, List.drop_zero]
     have d11 := hφ 11 (by decide)
     clear hφ
     generalize sq 0 = x0 at *
     generalize sq 1 = x1 at *
     generalize sq 2 = x2 at *
     generalize sq 3 = x3 at *
     generalize sq 4 = x4 at *
     generalize sq 5 = x5 at *
     generalize sq 6 = x6 at *
     generalize sq 7 = x7 at *
     generalize sq 8 = x8 at *
     generalize sq 9 = x9 at *
     generalize sq 10 = x10 at *
     generalize sq 11 = x11 at *
     generalize sq 12 = x12 at *
     generalize sq 13 = x13 at *
     obtain rfl := d11
     have HBE := Lib.hid (HB.out.trans (hJ.mono HB.out.size))
     clear hJ
     go_wp2_with fail
     go_ret
     exact ⟨rfl, HBE.out⟩
theorem own_ : ownKnob Tryz.prog.godebug = none := by kernel_rfl
theorem star_ : "*" ++ "errors.errorString" = "*errors.errorString" := by decide
theorem row_star (u : TypeId) (h : Tryz.prog.typeName? 3 u = some "*errors.errorString") : u = 291 :=
 typeName_ptr_named (nm := "errors.errorString") (by rw [star_]; kernel_rfl) (by kernel_rfl) (by decide) u (by rw [star_]; exact h)
theorem gds_of {w : World} (h : laidMetH Tryz.prog Rows.fnDecodeBlankRow.laid w) (hs : w.ShapedOpen Tryz.prog) : Gds w := by
 rw [MakeChecks.laidMetH_plain _ _ _ (by kernel_rfl)] at h
 refine ⟨?_, ?_, ?_, ?_⟩
 ·have h1 := h.filter (fun x => x.1 == "internal/strconv.uint64pow10")
  exact Lib.tabIs_of_head (g := 12) (rest := []) (by kernel_rfl) (by kernel_rfl) Tryz.underlying280 Tryz.underlying154 (by kernel_rfl) (by kernel_rfl) h1
 ·exact cell_of_shapedOpen_int (zero := #[.int .i64 0]) (t := 3) hs (of_decide_eq_true (by kernel_rfl)) (by kernel_rfl) rfl (by kernel_rfl) (by kernel_rfl) Tryz.underlying3
 ·have h1 := h.filter (fun x => x.1 == "strconv.ErrSyntax")
  obtain ⟨a, s, hv, _⟩ := laid_sentinel (r := []) h1 (g := 10) (by kernel_rfl) (by kernel_rfl) Tryz.underlying67 row_star Tryz.underlying291 Tryz.underlying293 rfl rfl Tryz.underlying9 (by kernel_rfl) (by kernel_rfl)
  exact ⟨_, _, by have h0 := World.var?_cell (g := 10) (by kernel_rfl) hv 0; simpa using h0⟩
 ·have h1 := h.filter (fun x => x.1 == "strconv.ErrRange")
  obtain ⟨a, s, hv, _⟩ := laid_sentinel (r := []) h1 (g := 11) (by kernel_rfl) (by kernel_rfl) Tryz.underlying67 row_star Tryz.underlying291 Tryz.underlying293 rfl rfl Tryz.underlying9 (by kernel_rfl) (by kernel_rfl)
  exact ⟨_, _, by have h0 := World.var?_cell (g := 11) (by kernel_rfl) hv 0; simpa using h0⟩
set_option maxRecDepth 100000 in
theorem lifted (os : Os) (started : os.Started) (H : Type) (enc : TypeId × Value → H) :
  ReturnsInLeavingWide {} Tryz.checked os 11 .any (fun w args => (Rows.fnDecodeBlankSpec.pre enc Tryz.prog Tryz.f11 Rows.fnDecodeBlankRow.domain false w args ∧ laidMetH Tryz.prog Rows.fnDecodeBlankRow.laid w) ∧ sizedMet enc Tryz.prog Tryz.f11 (OpenSpec.ofChange Rows.fnDecodeBlankSpec) false w args) (Rows.fnDecodeBlankSpec.post enc Tryz.prog Tryz.f11 false true false false) := by
 refine leaving_of_change (C := Tryz.checked) (X := fun w _ => laidMetH Tryz.prog Rows.fnDecodeBlankRow.laid w) (fun _ _ _ hh h => h.of_heap hh) own_ started (by kernel_rfl) Tryz.func11
  (ChangeSpec.witness_shaped (enc := enc) (C := Tryz.checked) (os := os) (X := fun w _ => laidMetH Tryz.prog Rows.fnDecodeBlankRow.laid w) false (World.laidAll Tryz.prog os Rows.fnDecodeBlankRow.laid) #[.slice none 0 0, .slice none 0 0] 8 (World.laidAll_os _ _ _)
   (World.shaped_of_ZipB (by kernel_rfl) (by kernel_rfl)) (by kernel_rfl) (by kernel_rfl) (by kernel_rfl)
   (by rw [MakeChecks.laidMetH_plain _ _ _ (by kernel_rfl)]; exact laidMet_laidAll _ (by kernel_rfl) (by kernel_rfl))) ?_
 intro W base args ds gs before hval0 hW hLaid hShape
 have hval : ∀ (j : Nat) t v, Tryz.f11.params[j]? = some t → args[j]? = some v → Value.okWide Tryz.prog W .any base t v := hval0
 have hW' := hW
 obtain ⟨p, q, hA0, hV, rfl, hfz, hnd⟩ := hW
 have hA : DataW.TrodAll enc Tryz.prog W 0 (fun _ => true) true Tryz.f11.params.toList args.toList ds p := hA0
 rw [Tryz.params11] at hA hval
 obtain ⟨v0, vs0, d0, ds0, p0, q0, hargs, rfl, rfl, h0, r0⟩ := trodAll_cons hA
 obtain ⟨v1, vs1, d1, ds1, p1, q1, rfl, rfl, rfl, h1, r1⟩ := trodAll_cons r0
 obtain ⟨rfl, rfl, rfl⟩ := trodAll_nil r1
 obtain rfl : args = #[v0, v1] := by cases args; simp_all
 obtain ⟨rfl, rfl⟩ := trodVars_none hV
 obtain ⟨a0, len0, cap0, rfl⟩ := okWide_slice Tryz.underlying22 (hval 0 22 v0 rfl rfl)
 have k0 := h0
 have lt0 : ∀ x ∈ p0, x.block < W.heap.size := by obtain ⟨m, hm⟩ := k0; exact DataW.trod_lt m _ _ _ hm
 obtain ⟨z0, w0⟩ : ∃ zs, BytesIn W a0 len0 cap0 zs := by
  obtain ⟨fuel, hf⟩ := h0
  exact open_BytesIn Tryz.underlying22 Tryz.underlying5 (by kernel_rfl) (by simpa [Value.cells] using hf)
 obtain ⟨a1, len1, cap1, rfl⟩ := okWide_slice Tryz.underlying22 (hval 1 22 v1 rfl rfl)
 have k1 := h1
 have lt1 : ∀ x ∈ p1, x.block < W.heap.size := by obtain ⟨m, hm⟩ := k1; exact DataW.trod_lt m _ _ _ hm
 obtain ⟨z1, w1⟩ : ∃ zs, BytesIn W a1 len1 cap1 zs := by
  obtain ⟨fuel, hf⟩ := h1
  exact open_BytesIn Tryz.underlying22 Tryz.underlying5 (by kernel_rfl) (by simpa [Value.cells] using hf)
 clear hA0 hval0
 refine (walk a0 len0 cap0 z0 a1 len1 cap1 z1 W w0 w1 (gds_of hLaid hShape)).mono fun e W' ⟨he, bel⟩ => ?_
 subst he
 exact ⟨_, rfl, _, _, _, [], _, [], hW', trodAll_mk1 (shut_bool Tryz.underlying4 _), (trodAll_cons_mk (Below.trod laidOut_ (by kernel_rfl) (of_decide_eq_true (by kernel_rfl)) k0 bel lt0) (trodAll_cons_mk (Below.trod laidOut_ (by kernel_rfl) (of_decide_eq_true (by kernel_rfl)) k1 bel lt1) trodAll_mk0)), rfl, bel.frame _, fun h => by cases h⟩
theorem closed_ : joinedFacts Tryz.prog 11 Tryz.f11 Rows.fnDecodeBlankSpec Rows.fnDecodeBlankRow = true :=
 joined_by mayEnter_ liftsFinal_ make_ (by kernel_rfl) laidOut_ mapsRowed_ (by kernel_rfl) (by kernel_rfl) rfl stops_ rfl stopKnobs_ (by kernel_rfl) (by kernel_rfl) (by kernel_rfl) (by kernel_rfl) (by kernel_rfl) (by kernel_rfl) (by kernel_rfl) (by kernel_rfl) (by kernel_rfl) (by kernel_rfl) rfl stopsHeard_ rfl rfl rfl (by kernel_rfl)
theorem over : Rows.fnDecodeBlankRow.holds Tryz.pinned (OpenSpec.ofChange Rows.fnDecodeBlankSpec) :=
 OpenClaim.holds_of_wide_leaving 11 Tryz.f11 rfl rfl rfl rfl rfl rfl rfl ⟨rfl, rfl, rfl, rfl, rfl⟩ rfl rfl rfl rfl rfl (by kernel_rfl) Tryz.func11 closed_
  (of_decide_eq_true (by kernel_rfl)) (by unfold Func.isWrapper; first | (rw [if_pos (by decide +kernel)]; kernel_rfl) | (rw [if_neg (by decide +kernel)]; exact ⟨rfl, rfl⟩))
  (fun os started H enc _ => lifted os started H enc)
theorem proved : Rows.FnDecodeBlankCardSaid :=
 holds_tied_goes_at .later [.data, .data, .data, .data, .sentinel, .sentinel, .pinned] true (true, "e066af2f78b941883bf3ccab5d05f3efad1a1c508f5e97e0f8a74c0f7d2f2a77") true over (by kernel_rfl) fnDecodeBlank_row_tie rfl ⟨rfl, rfl⟩ (by kernel_rfl) rfl
  (fun f fn hf hfn => by
   obtain rfl : f = 11 := Option.some.inj ((show Tryz.prog.funcNamed "loop.example/replayverifier/laws.FnDecodeBlank" = some 11 by kernel_rfl).symm.trans hf) |>.symm
   obtain rfl : fn = Tryz.f11 := (Option.some.inj (Tryz.func11.symm.trans hfn)).symm
   exact ⟨by kernel_rfl, fun j t ht => by
    rw [Tryz.params11] at ht
    have hm : t ∈ [22] := by simpa using Array.mem_of_getElem? ht
    have hall : ([22].all fun u => !Tryz.prog.wantsStandIn u) = true := by kernel_rfl
    exact (show Tryz.prog.wantsStandIn t = false by simpa using List.all_eq_true.1 hall t hm)⟩)
  (by kernel_rfl)
end Go.Proofs.YtemnlheidghbmaaGreatDoor.fnDecodeBlank


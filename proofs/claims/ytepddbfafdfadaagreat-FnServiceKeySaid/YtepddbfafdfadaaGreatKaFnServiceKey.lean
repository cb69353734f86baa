/-
  FnServiceKey returns true for every code, and nothing that was there is written. No condition.
-/
import Derived.Test.YtepddbfafdfadaaGreatKa3
import Derived.Test.YtepddbfafdfadaaGreatKa39
namespace Go.Proofs.YtepddbfafdfadaaGreat.fnServiceKey
open Go.RowKit Go.ChangeShapes Go.WideShapes Go.ChangeAt
set_option linter.unusedVariables false
theorem set_back {ks : List Int} {p : Nat} {v : Int} (h : ks[p]? = some 0) : (ks.set p v).set p 0 = ks := by
 rw [List.set_set]
 apply List.ext_getElem?
 intro i
 rw [List.getElem?_set]
 by_cases e : p = i
 ·subst e
  rw [if_pos rfl, h]
  have := (List.getElem?_eq_some_iff.1 h).1
  simp [this]
 ·rw [if_neg e]
set_option maxRecDepth 100000 in
set_option maxHeartbeats 8000000 in
theorem walk (a0 : Option Addr) (len0 cap0 : Nat) (z0 : List Int) (a1 : Option Addr) (len1 cap1 : Nat) (z1 : List Int) (w : World) (w0 : BytesIn w a0 len0 cap0 z0) (w1 : BytesIn w a1 len1 cap1 z1) :
  Calls Tryz.prog 6 #[.slice a0 len0 cap0, .slice a1 len1 cap1] w fun e w' => e = .returned (.bool true) ∧ Below w.heap.size w w' := by
 have hz := w0.bd
 obtain ⟨hr, hlc, hcm, _⟩ := w0
 obtain ⟨_, hlc1, hcm1, _⟩ := w1
 by_cases hsz : (1048576 : Int) < len0
 ·clear hr hlc hcm hz
  go_enter Tryz.func6, Tryz.ntmps6
  go_wp2
  go_ret
  exact ⟨rfl, Below.refl _ _⟩
 by_cases hsz1 : (1048576 : Int) < len1
 ·clear hr hlc hcm hz
  go_enter Tryz.func6, Tryz.ntmps6
  go_wp2
  go_ret
  exact ⟨rfl, Below.refl _ _⟩
 have H1 := Lib.hid (drawServiceKey_any a0 len0 cap0 z0 w ⟨hr, hz, hlc, hcm⟩)
 clear hr hlc hcm hz
 go_enter Tryz.func6, Tryz.ntmps6
 go_wp2_with fail
 refine H1.out.mono ?_
 rintro e w1 ⟨t, k, g, S, p, key, rfl, hrd, hb1⟩
 go_upto_region 4 with (fail)
 refine into_world (fun Y => Below w.heap.size w Y ∧ Blk Y w1.heap.size 37 (svC t k g) ∧ RdS Y t k g S) ⟨hb1.alloc hb1.size _, Blk.new _ _ _, hrd.below (ba (Below.refl _ _))⟩ ?_
 clear hrd hb1
 rintro Y ⟨hB, hKS, hrd⟩
 have HB := Lib.hid hB
 have KS := Lib.hid hKS
 have HR := Lib.hid hrd
 clear hB hKS hrd
 have cs := fun o => KS.out.cell o
 have fs := fun o => KS.out.frozen o
 have zs := KS.out.lt
 go_wp2_with fail
 refine (implServiceKey_any t k g S p key _ HR.out).mono ?_
 obtain ⟨S2, ok, hrv⟩ : ∃ a b, keyS S p key = (a, b) := ⟨_, _, rfl⟩
 have HRV := Lib.hid hrv
 rw [hrv]
 clear hrv
 rintro e w2 ⟨t2, k2, g2, rfl, ho2, hb⟩
 replace KS := Lib.hid (KS.out.next hb)
 replace HR := Lib.hid (HR.out.below hb)
 replace HB := Lib.hid (below_next HB.out hb)
 clear hb cs fs zs
 go_upto_region 5 with (fail)
 have hW : Below w2.heap.size w2 (w2.alloc (.cells (svC t2 k2 g2) 37)) := ba (Below.refl _ _)
 have KS2 := Lib.hid (Blk.new w2 37 (svC t2 k2 g2))
 have HR2 := Lib.hid (ho2.rd.below hW)
 replace KS := Lib.hid (KS.out.next hW)
 replace HR := Lib.hid (HR.out.below hW)
 replace HB := Lib.hid (below_next HB.out hW)
 clear hW ho2
 have cs := fun o => KS.out.cell o
 have fs := fun o => KS.out.frozen o
 have zs := KS.out.lt
 go_wp2_with fail
 refine (specServiceKey_any t k g S p key _ HR.out).mono ?_
 rw [HRV.out]
 rintro e w3 ⟨t3, k3, g3, rfl, ho3, hb⟩
 replace KS := Lib.hid (KS.out.next hb)
 replace HR := Lib.hid (HR.out.below hb)
 replace HB := Lib.hid (below_next HB.out hb)
 replace KS2 := Lib.hid (KS2.out.next hb)
 replace HR2 := Lib.hid (HR2.out.below hb)
 clear hb cs fs zs
 go_upto_region 6 with (fail)
 have hW : Below w3.heap.size w3 (w3.alloc (.cells (svC t3 k3 g3) 37)) := ba (Below.refl _ _)
 have KS3 := Lib.hid (Blk.new w3 37 (svC t3 k3 g3))
 have HR3 := Lib.hid (ho3.rd.below hW)
 replace KS := Lib.hid (KS.out.next hW)
 replace HR := Lib.hid (HR.out.below hW)
 replace HB := Lib.hid (below_next HB.out hW)
 replace KS2 := Lib.hid (KS2.out.next hW)
 replace HR2 := Lib.hid (HR2.out.below hW)
 clear hW ho3
 cases ok
 ·have ca := fun o => KS2.out.cell o
  have fa := fun o => KS2.out.frozen o
  have za := KS2.out.lt
  have cb := fun o => KS3.out.cell o
  have fb := fun o => KS3.out.frozen o
  have zb := KS3.out.lt
  go_wp2_with fail
  refine (sameService_same _ _ _ _ _ _ S2 _ HR2.out HR3.out).mono ?_
  rintro e w4 ⟨rfl, hb⟩
  replace KS := Lib.hid (KS.out.next hb)
  replace HR := Lib.hid (HR.out.below hb)
  replace HB := Lib.hid (below_next HB.out hb)
  replace KS2 := Lib.hid (KS2.out.next hb)
  replace HR2 := Lib.hid (HR2.out.below hb)
  replace KS3 := Lib.hid (KS3.out.next hb)
  replace HR3 := Lib.hid (HR3.out.below hb)
  clear hb ca fa za cb fb zb
  have ca := fun o => KS2.out.cell o
  have fa := fun o => KS2.out.frozen o
  have za := KS2.out.lt
  have cb := fun o => KS3.out.cell o
  have fb := fun o => KS3.out.frozen o
  have zb := KS3.out.lt
  go_wp2_with fail
  refine (sameService_same _ _ _ _ _ _ S2 _ HR2.out HR3.out).mono ?_
  rintro e w5 ⟨rfl, hb⟩
  have hbb := below_next HB.out hb
  clear hb ca fa za cb fb zb
  go_wp2_with fail
  go_ret
  exact ⟨rfl, hbb⟩
 have ca := fun o => KS2.out.cell o
 have fa := fun o => KS2.out.frozen o
 have za := KS2.out.lt
 have cb := fun o => KS3.out.cell o
 have fb := fun o => KS3.out.frozen o
 have zb := KS3.out.lt
 go_wp2_with fail
 refine (sameService_same _ _ _ _ _ _ S2 _ HR2.out HR3.out).mono ?_
 rintro e w4 ⟨rfl, hb⟩
 replace KS := Lib.hid (KS.out.next hb)
 replace HR := Lib.hid (HR.out.below hb)
 replace HB := Lib.hid (below_next HB.out hb)
 replace KS2 := Lib.hid (KS2.out.next hb)
 replace HR2 := Lib.hid (HR2.out.below hb)
 replace KS3 := Lib.hid (KS3.out.next hb)
 replace HR3 := Lib.hid (HR3.out.below hb)
 clear hb ca fa za cb fb zb
 have hdone : validS S = true ∧ inR p 0 9 = true ∧ inR key 1 9999 = true ∧ keyAt S p = 0 ∧ S2 = ⟨S.ts, S.keys.set p.toNat key, S.tags⟩ := by
  have h := HRV.out
  cases hb : (validS S && (inR p 0 9 && inR key 1 9999))
  ·rw [keyS_bad hb] at h
   cases h
  ·simp only [Bool.and_eq_true] at hb
   by_cases hk : keyAt S p = 0
   ·rw [keyS_done hb.1 hb.2.1 hb.2.2 hk] at h
    injection h with h _
    exact ⟨hb.1, hb.2.1, hb.2.2, hk, h.symm⟩
   ·rw [keyS_full hb.1 hb.2.1 hb.2.2 hk] at h
    cases h
 obtain ⟨pq, hpq, hp9⟩ := mem_inR hdone.2.1
 subst hpq
 have HV2 := Lib.hid (show validS S2 = true by rw [hdone.2.2.2.2]; exact key_valid hdone.1 hdone.2.2.1)
 have hkl : S.keys.length = 10 := (validS_of hdone.1).1
 have hk0 : S.keys[pq]? = some 0 := by
  have h := hdone.2.2.2.1
  unfold keyAt at h
  rw [Int.toNat_natCast, List.getElem?_eq_getElem (by omega)] at h
  rw [List.getElem?_eq_getElem (by omega)]
  simpa using h
 have hkk : 1 ≤ key ∧ key ≤ 9999 := by simpa [inR] using hdone.2.2.1
 have hka : S2.keys[pq]? = some key := by rw [hdone.2.2.2.2]; simp only [Int.toNat_natCast]; exact List.getElem?_set_self (by omega)
 have HKA := Lib.hid hka
 have HSB := Lib.hid (show (⟨S2.ts, S2.keys.set pq 0, S2.tags⟩ : Svc) = S by rw [hdone.2.2.2.2]; simp only [Int.toNat_natCast, set_back hk0])
 have hpr := hdone.2.1
 have HPR := Lib.hid hpr
 have HKN := Lib.hid (show keyAt S2 pq ≠ 0 by unfold keyAt; rw [Int.toNat_natCast, hka]; simp; omega)
 have hk2n : k2.n = 10 := by
  have h1 := HR2.out.2.1.1
  have h2 := (validS_of HV2.out).1
  omega
 obtain ⟨k2a, k2n, k2c⟩ := k2
 simp only at hk2n
 subst hk2n
 clear hdone hkl hk0 hkk hka hpr
 have hln : 0 ≤ (len1 : Int) % 9999 := by omega
 have hln2 : (len1 : Int) % 9999 < 9999 := by omega
 have HK2 := Lib.hid (show keyS S2 pq (1 + (len1 : Int) % 9999) = (S2, false) from keyS_full HV2.out HPR.out (by simp [inR]; omega) HKN.out)
 have ca := fun o => KS2.out.cell o
 have fa := fun o => KS2.out.frozen o
 have za := KS2.out.lt
 go_wp2_with fail
 refine (implServiceKey_any t2 ⟨k2a, 10, k2c⟩ g2 S2 pq (1 + (len1 : Int) % 9999) _ HR2.out).mono ?_
 rw [HK2.out]
 rintro e w6 ⟨t6, k6, g6, rfl, ho6, hb⟩
 replace KS := Lib.hid (KS.out.next hb)
 replace HR := Lib.hid (HR.out.below hb)
 replace HB := Lib.hid (below_next HB.out hb)
 replace KS2 := Lib.hid (KS2.out.next hb)
 replace HR2 := Lib.hid (HR2.out.below hb)
 replace KS3 := Lib.hid (KS3.out.next hb)
 replace HR3 := Lib.hid (HR3.out.below hb)
 clear hb ca fa za hln hln2
 go_upto_region 9 with (fail)
 have hW : Below w6.heap.size w6 (w6.alloc (.cells (svC t6 k6 g6) 37)) := ba (Below.refl _ _)
 have KS6 := Lib.hid (Blk.new w6 37 (svC t6 k6 g6))
 have HR6 := Lib.hid (ho6.rd.below hW)
 replace KS := Lib.hid (KS.out.next hW)
 replace HR := Lib.hid (HR.out.below hW)
 replace HB := Lib.hid (below_next HB.out hW)
 replace KS2 := Lib.hid (KS2.out.next hW)
 replace HR2 := Lib.hid (HR2.out.below hW)
 replace KS3 := Lib.hid (KS3.out.next hW)
 replace HR3 := Lib.hid (HR3.out.below hW)
 clear hW ho6
 obtain ⟨W7, hWE⟩ : ∃ W, w6.alloc (.cells (svC t6 k6 g6) 37) = W := ⟨_, rfl⟩
 have HZ7 := Lib.hid (show W7.heap.size = w6.heap.size + 1 by rw [← hWE]; simp)
 rw [hWE] at KS6 HR6 KS HR HB KS2 HR2 KS3 HR3
 rw [hWE]
 clear hWE
 have ca := fun o => KS2.out.cell o
 have fa := fun o => KS2.out.frozen o
 have za := KS2.out.lt
 go_upto_region 10 with (fail)
 obtain ⟨W8, hWE⟩ : ∃ W, W7.alloc (.cells (svC t2 ⟨k2a, 10, k2c⟩ g2) 37) = W := ⟨_, rfl⟩
 have hb8 : Below W7.heap.size W7 W8 := by rw [← hWE]; exact ba (Below.refl _ _)
 have hz8 : W8.heap.size = W7.heap.size + 1 := by rw [← hWE]; simp
 have KS7 := Lib.hid (show Blk W8 W7.heap.size 37 (svC t2 ⟨k2a, 10, k2c⟩ g2) by rw [← hWE]; exact Blk.new _ _ _)
 rw [hWE]
 have hz8' : W7.heap.size < W8.heap.size := by omega
 have HB8 := Lib.hid hb8
 have KS28 := Lib.hid (KS2.out.next hb8)
 have HR28 := Lib.hid (HR2.out.below hb8)
 clear hWE hz8 hb8 ca fa za
 obtain ⟨j0, hj0, hy0, hy1, hy2⟩ := info_parts infoZ
 have JI := Lib.hid hj0
 have JZ := Lib.hid hy0
 have JS := Lib.hid hy1
 have JB := Lib.hid hy2
 clear hj0 hy0 hy1 hy2
 have ca := fun o => KS28.out.cell o
 have fa := fun o => KS28.out.frozen o
 have za := KS28.out.lt
 have cb := fun o => KS7.out.cell o
 have fb := fun o => KS7.out.frozen o
 have zb := KS7.out.lt
 have h2lt : w2.heap.size < W7.heap.size := KS2.out.lt
 go_upto_region 12 with (at_builtin; (refine wpList_append_ow _ rfl (.tmp 75) (.tmp 77) _ rfl W8.heap.size 3 j0 _ 1 8 Tryz.underlying23 JI.out JZ.out JS.out JB.out rfl (by omega) _ 0 0 [] rfl (Ow.bare _ _ _ _ _) _ 10 k2c (cellsI S2.keys) rfl (Src.ints (RdI.below HR28.out.2.1 (ba (Below.refl _ _)))) (cellsI_one _) (by first | (unfold maxLen; omega) | simp [maxLen]) (by first | omega | simp) (by first | simp | omega) ?_; intro A5 c5 w9 hown hg9 hn9; simp only [Nat.zero_add, List.nil_append] at hown; have h10c : 10 ≤ c5 := hown.le; obtain ⟨b5, cur5, rfl, hB5, hb5, _, _, hcs5, _⟩ := hown.blk (by omega); obtain ⟨u5, hcz⟩ : ∃ u, w9.cell? ⟨b5, pq, none⟩ = some u := ⟨cur5[pq]'(by omega), (by rw [hb5.cell]; exact Array.getElem?_eq_getElem _)⟩; clear hcs5; have HOW := Lib.hid hown; have HB9 := Lib.hid ((Ow.bare W8.heap.size _ 3 1 (some ⟨W8.heap.size, 0, none⟩)).grown hg9 (ba (Below.refl _ _)) (Nat.le_refl _) (by simp)); have KS79 := Lib.hid (KS7.out.next HB9.out); have KB5 := Lib.hid hb5; clear hown hg9 hn9 hb5 ca fa za cb fb zb; have hne5 : b5 ≠ W7.heap.size := (by omega); have c7 := fun o => KS79.out.cell o; have f7 := fun o => KS79.out.frozen o; have z7 := KS79.out.lt; have f5b := fun o => KB5.out.frozen o; have z5b := KB5.out.lt))
 refine into_world (fun Z => Below W7.heap.size W7 Z ∧ Blk Z W7.heap.size 37 (svC t2 ⟨some ⟨b5, 0, none⟩, 10, c5⟩ g2) ∧ Ow W8.heap.size Z 3 1 (some ⟨b5, 0, none⟩) 10 c5 (cellsI (S2.keys.set pq 0))) ⟨?_, ?_, ?_⟩ ?_
 ·exact ((below_next HB8.out HB9.out).setCell (p := ⟨W7.heap.size, 1, none⟩) (Nat.le_refl _) _).setCell (p := ⟨b5, pq, none⟩) (by show W7.heap.size ≤ b5; omega) _
 ·exact (KS79.out.set_ 1 _).far (p := ⟨b5, pq, none⟩) (by show W7.heap.size ≠ b5; omega) _
 ·have h1 := Ow.onlyT HOW.out KS79.out (by decide) (Only.set_ (p := ⟨W7.heap.size, 1, none⟩) (Only.refl W7.heap.size w9) (.inl rfl) (.slice (some ⟨b5, 0, none⟩) 10 c5))
  have h2 := Ow.set_ h1 (j := pq) (by have := HOW.out.len; omega) (.int .i64 0)
  rw [show cellsI (S2.keys.set pq 0) = (cellsI S2.keys).set pq (.int .i64 0) by simp [cellsI, List.map_set]]
  exact h2
 rintro Z ⟨hZ, hKY, hoY⟩
 have KY := Lib.hid hKY
 replace KS := Lib.hid (KS.out.next hZ)
 replace HR := Lib.hid (HR.out.below hZ)
 replace HB := Lib.hid (below_next HB.out hZ)
 replace KS2 := Lib.hid (KS2.out.next hZ)
 replace HR2 := Lib.hid (HR2.out.below hZ)
 replace KS3 := Lib.hid (KS3.out.next hZ)
 replace HR3 := Lib.hid (HR3.out.below hZ)
 replace KS6 := Lib.hid (KS6.out.next hZ)
 replace HR6 := Lib.hid (HR6.out.below hZ)
 have hry : RdS Z t2 ⟨some ⟨b5, 0, none⟩, 10, c5⟩ g2 S := by
  have h := HR2.out
  have e := HSB.out
  rw [← e]
  exact ⟨h.1, hoY.rdI, h.2.2.1, h.2.2.2.1, ⟨hoY.le, by show 10 ≤ 1048576; omega⟩, h.2.2.2.2.2⟩
 have HRY := Lib.hid hry
 obtain ⟨b6, off6, z6, hA6, hb6, hz6, hc6⟩ := HR2.out.2.1.at_ (show pq < 10 by omega)
 simp only at hA6
 subst hA6
 obtain rfl : z6 = key := by have := HKA.out; rw [hz6] at this; exact Option.some.inj this
 clear hZ hKY hoY hry hz6 c7 f7 z7 hcz f5b z5b KS79 KB5 HOW HB9 HB8 KS28 HR28 KS7
 have ca := fun o => KS2.out.cell o
 have fa := fun o => KS2.out.frozen o
 have za := KS2.out.lt
 have cy := fun o => KY.out.cell o
 have fy := fun o => KY.out.frozen o
 have zy := KY.out.lt
 have cs := fun o => KS.out.cell o
 have fs := fun o => KS.out.frozen o
 have zs := KS.out.lt
 have cx := fun o => KS6.out.cell o
 have fx := fun o => KS6.out.frozen o
 have zx := KS6.out.lt
 go_wp2_with fail
 refine (sameService_same _ _ _ _ _ _ S _ HRY.out HR.out).mono ?_
 rintro e w10 ⟨rfl, hb⟩
 replace KS := Lib.hid (KS.out.next hb)
 replace HR := Lib.hid (HR.out.below hb)
 replace HB := Lib.hid (below_next HB.out hb)
 replace KS2 := Lib.hid (KS2.out.next hb)
 replace HR2 := Lib.hid (HR2.out.below hb)
 replace KS3 := Lib.hid (KS3.out.next hb)
 replace HR3 := Lib.hid (HR3.out.below hb)
 replace KS6 := Lib.hid (KS6.out.next hb)
 replace HR6 := Lib.hid (HR6.out.below hb)
 clear hb ca fa za cy fy zy cs fs zs cx fx zx
 have ca := fun o => KS2.out.cell o
 have fa := fun o => KS2.out.frozen o
 have za := KS2.out.lt
 have cx := fun o => KS6.out.cell o
 have fx := fun o => KS6.out.frozen o
 have zx := KS6.out.lt
 go_wp2_with fail
 refine (sameService_same _ _ _ _ _ _ S2 _ HR6.out HR2.out).mono ?_
 rintro e w11 ⟨rfl, hb⟩
 have hbb := below_next HB.out hb
 clear hb ca fa za cx fx zx
 go_wp2_with fail
 go_ret
 exact ⟨rfl, hbb⟩
set_option maxRecDepth 100000 in
theorem lifted (os : Os) (started : os.Started) (H : Type) (enc : TypeId × Value → H) :
  ReturnsInHanded {} Tryz.checked os 6 .any (Rows.fnServiceKeySpec.pre6 enc Tryz.prog Tryz.f6 Rows.fnServiceKeyRow.domain false) (Rows.fnServiceKeySpec.post enc Tryz.prog Tryz.f6 false true false false) := by
 refine returnsInHanded_of_change (C := Tryz.checked) own_ started (by kernel_rfl) Tryz.func6
  (ChangeSpec.witness6 (enc := enc) (C := Tryz.checked) false ⟨#[], #[.slice none 0 0, .slice none 0 0], []⟩ 8 (by kernel_rfl) (by kernel_rfl) (by kernel_rfl) (by kernel_rfl)) ?_
 intro W base args ds gs before hval0 hW hcnd _
 have hval : ∀ (j : Nat) t v, Tryz.f6.params[j]? = some t → args[j]? = some v → Value.okWide Tryz.prog W .any base t v := hval0
 have hW' := hW
 obtain ⟨p, q, hA0, hV, rfl, hfz, hnd⟩ := hW
 have hA : DataW.TrodAll enc Tryz.prog W 0 (fun _ => true) true Tryz.f6.params.toList args.toList ds p := hA0
 rw [Tryz.params6] at hA hval
 obtain ⟨v0, vs0, d0, ds0, p0, q0, hargs, rfl, rfl, h0, r0⟩ := trodAll_cons hA
 obtain ⟨v1, vs1, d1, ds1, p1, q1, rfl, rfl, rfl, h1, r1⟩ := trodAll_cons r0
 obtain ⟨rfl, rfl, rfl⟩ := trodAll_nil r1
 obtain rfl : args = #[v0, v1] := by cases args; simp_all
 obtain ⟨rfl, rfl⟩ := trodVars_none hV
 obtain ⟨a0, len0, cap0, rfl⟩ := okWide_slice Tryz.underlying53 (hval 0 53 v0 rfl rfl)
 have k0 := h0
 have lt0 : ∀ x ∈ p0, x.block < W.heap.size := by obtain ⟨m, hm⟩ := k0; exact DataW.trod_lt m _ _ _ hm
 obtain ⟨z0, w0⟩ : ∃ zs, BytesIn W a0 len0 cap0 zs := by
  obtain ⟨fuel, hf⟩ := h0
  exact open_BytesIn Tryz.underlying53 Tryz.underlying5 (by kernel_rfl) (by simpa [Value.cells] using hf)
 obtain ⟨a1, len1, cap1, rfl⟩ := okWide_slice Tryz.underlying53 (hval 1 53 v1 rfl rfl)
 have k1 := h1
 have lt1 : ∀ x ∈ p1, x.block < W.heap.size := by obtain ⟨m, hm⟩ := k1; exact DataW.trod_lt m _ _ _ hm
 obtain ⟨z1, w1⟩ : ∃ zs, BytesIn W a1 len1 cap1 zs := by
  obtain ⟨fuel, hf⟩ := h1
  exact open_BytesIn Tryz.underlying53 Tryz.underlying5 (by kernel_rfl) (by simpa [Value.cells] using hf)
 clear hA0 hval0
 refine (walk a0 len0 cap0 z0 a1 len1 cap1 z1 W w0 w1).mono fun e W' ⟨he, bel⟩ => ?_
 subst he
 exact ⟨_, rfl, _, _, _, [], _, [], hW', trodAll_mk1 (shut_bool Tryz.underlying4 _), (trodAll_cons_mk (Below.trod laidOut_ (by kernel_rfl) (of_decide_eq_true (by kernel_rfl)) k0 bel lt0) (trodAll_cons_mk (Below.trod laidOut_ (by kernel_rfl) (of_decide_eq_true (by kernel_rfl)) k1 bel lt1) trodAll_mk0)), rfl, bel.frame _, fun h => by cases h⟩
theorem closed_ : joinedFacts Tryz.prog 6 Tryz.f6 Rows.fnServiceKeySpec Rows.fnServiceKeyRow = true :=
 joined_by mayEnter_ liftsFinal_ make_ (by kernel_rfl) laidOut_ mapsRowed_ (by kernel_rfl) (by kernel_rfl) rfl stops_ rfl stopKnobs_ (by kernel_rfl) (by kernel_rfl) (by kernel_rfl) (by kernel_rfl) (by kernel_rfl) (by kernel_rfl) (by kernel_rfl) (by kernel_rfl) (by kernel_rfl) (by kernel_rfl) rfl stopsHeard_ rfl rfl rfl (by kernel_rfl)
theorem over : Rows.fnServiceKeyRow.holds Tryz.pinned (OpenSpec.ofChange Rows.fnServiceKeySpec) :=
 OpenClaim.holds_of_wide 6 Tryz.f6 rfl rfl rfl rfl rfl rfl rfl ⟨rfl, rfl, rfl, rfl, rfl⟩ rfl rfl rfl rfl rfl (by kernel_rfl) Tryz.func6 closed_
  (of_decide_eq_true (by kernel_rfl)) (by unfold Func.isWrapper; first | (rw [if_pos (by decide +kernel)]; kernel_rfl) | (rw [if_neg (by decide +kernel)]; exact ⟨rfl, rfl⟩))
  (fun os started H enc _ => lifted os started H enc)
theorem proved : Rows.FnServiceKeySaid := over
end Go.Proofs.YtepddbfafdfadaaGreat.fnServiceKey


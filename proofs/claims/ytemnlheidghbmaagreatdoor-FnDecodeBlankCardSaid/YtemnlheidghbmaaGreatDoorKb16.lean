/-
  Lemmas and contracts: Ep. No condition.
-/
import Derived.Test.YtemnlheidghbmaaGreatDoorKb10
import Derived.Test.YtemnlheidghbmaaGreatDoorKb15
namespace Go.Proofs.YtemnlheidghbmaaGreatDoor
open Go.RowKit Go.Sort
def InPost (g p K : Nat) (l : Lvl) (b : Inp) (w : World) (e : Ending) (w' : World) : Prop := ∃ (x : Inp) (q : Nat), e = .returned (inV x) ∧ (followsW l b x = true ∨ x = ⟨0, 1, false⟩) ∧ q ≤ p + K ∧ Dr w g q w'
set_option maxRecDepth 100000 in
set_option maxHeartbeats 8000000 in
theorem l92Next_any (g p : Nat) (l : Lvl) (ws gs : Sl) (b : Inp) (w : World) (h : Rdr w g p) (hp : p ≤ 10000000) :
  Calls Tryz.prog 136 #[.pointer (some ⟨g, 0, none⟩), lvlV l ws gs, inV b] w (InPost g p 2 l b w) := by
 have hg := h.lt
 have H := Lib.hid h
 clear h
 go_enter Tryz.func136, Tryz.ntmps136
 go_upto_region 2 with (fail)
 refine into_world (fun W => Dr w g p W ∧ Blk W w.heap.size 29 (lvlC l ws gs) ∧ Blk W (w.heap.size + 1) 80 #[.int .i64 b.s, .int .i64 b.p, .bool b.z] ∧ Blk W (w.heap.size + 1 + 1) 80 #[.int .i64 0, .int .i64 0, .bool false] ∧ Blk W (w.heap.size + 1 + 1 + 1) 80 #[.int .i64 0, .int .i64 1, .bool false]) ⟨Dr.next ⟨H.out, Only.refl _ _⟩ (ba (ba (ba (ba (Below.refl _ _))))), (((Blk.new _ _ _).alloc _).alloc _).alloc _, ((Blk.newAt _ _ _ _ (by simp)).alloc _).alloc _, (Blk.newAt _ _ _ _ (by simp)).alloc _, Blk.newAt _ _ _ _ (by simp)⟩ ?_
 rintro W ⟨hD, hKL, hKB, hKR, hKX⟩
 have HD := Lib.hid hD
 have KL := Lib.hid hKL
 have KB := Lib.hid hKB
 have KR := Lib.hid hKR
 have KX := Lib.hid hKX
 clear hD hKL hKB hKR hKX
 have n0 : w.heap.size ≠ g := by omega
 have n1 : w.heap.size + 1 ≠ g := by omega
 have n2 : w.heap.size + 1 + 1 ≠ g := by omega
 have n3 : w.heap.size + 1 + 1 + 1 ≠ g := by omega
 go_wp2_with fail
 refine (pick_any g 12 _ _ HD.out.1 (by omega)).mono ?_
 rintro e w1 ⟨v1, rfl, a1, b1, hR, hO⟩
 replace HD := Lib.hid (HD.out.step hR hO)
 replace KL := Lib.hid (KL.out.only hO n0)
 replace KB := Lib.hid (KB.out.only hO n1)
 replace KR := Lib.hid (KR.out.only hO n2)
 replace KX := Lib.hid (KX.out.only hO n3)
 clear b1 hR hO
 by_cases h0 : v1 = 0
 ·have h0' : (v1 == 0) = true := by simpa using h0
  clear h0
  go_wp2_with fail
  refine (pick_any g 3 _ _ HD.out.1 (by omega)).mono ?_
  rintro e w2 ⟨v2, rfl, a2, b2, hR, hO⟩
  replace HD := Lib.hid (HD.out.step hR hO)
  replace KL := Lib.hid (KL.out.only hO n0)
  replace KB := Lib.hid (KB.out.only hO n1)
  replace KR := Lib.hid (KR.out.only hO n2)
  replace KX := Lib.hid (KX.out.only hO n3)
  clear b2 hR hO
  have cx := fun o => KX.out.cell o
  have fx := fun o => KX.out.frozen o
  have zx := KX.out.lt
  go_upto_region 10 with (fail)
  refine into_world (fun Y => Dr w g (p + 2) Y ∧ Blk Y w.heap.size 29 (lvlC l ws gs) ∧ Blk Y (w.heap.size + 1) 80 #[.int .i64 b.s, .int .i64 b.p, .bool b.z] ∧ Blk Y (w.heap.size + 1 + 1) 80 #[.int .i64 0, .int .i64 0, .bool false] ∧ Blk Y (w.heap.size + 1 + 1 + 1) 80 #[.int .i64 (⟨0, v2, false⟩ : Inp).s, .int .i64 (⟨0, v2, false⟩ : Inp).p, .bool (⟨0, v2, false⟩ : Inp).z]) ⟨HD.out.set (by show w.heap.size ≤ w.heap.size + 1 + 1 + 1; omega) hg _, KL.out.far (p := ⟨w.heap.size + 1 + 1 + 1, 1, none⟩) (by show _ ≠ w.heap.size + 1 + 1 + 1; omega) _, KB.out.far (p := ⟨w.heap.size + 1 + 1 + 1, 1, none⟩) (by show _ ≠ w.heap.size + 1 + 1 + 1; omega) _, KR.out.far (p := ⟨w.heap.size + 1 + 1 + 1, 1, none⟩) (by show _ ≠ w.heap.size + 1 + 1 + 1; omega) _, KX.out.set_ 1 _⟩ ?_
  rintro Y ⟨hD, hKL, hKB, hKR, hkx⟩
  replace HD := Lib.hid hD
  replace KL := Lib.hid hKL
  replace KB := Lib.hid hKB
  replace KR := Lib.hid hKR
  clear hD hKL hKB hKR KX
  have HX := Lib.hid hkx
  clear hkx
  have cl := fun o => KL.out.cell o
  have fl := fun o => KL.out.frozen o
  have zl := KL.out.lt
  have cb := fun o => KB.out.cell o
  have fb := fun o => KB.out.frozen o
  have zb := KB.out.lt
  have cx := fun o => HX.out.cell o
  have fx := fun o => HX.out.frozen o
  have zx := HX.out.lt
  go_wp2_with fail
  refine (l12Follows_any l ws gs b (⟨0, v2, false⟩ : Inp) _).mono ?_
  rintro e w9 ⟨rfl, hb⟩
  replace HD := Lib.hid (HD.out.next hb)
  replace KR := Lib.hid (KR.out.next hb)
  replace HX := Lib.hid (HX.out.next hb)
  clear hb cl fl zl cb fb zb cx fx zx KL KB
  have cr := fun o => KR.out.cell o
  have fr := fun o => KR.out.frozen o
  have zr := KR.out.lt
  have cx := fun o => HX.out.cell o
  have fx := fun o => HX.out.frozen o
  have zx := HX.out.lt
  cases hf : followsW l b (⟨0, v2, false⟩ : Inp)
  ·clear hf
   go_wp2_with fail
   refine bodyPost_ret (v := inV ⟨0, 1, false⟩) (by simp [results, Tryz.results136, go_sem, cr]) rfl ?_
   exact ⟨⟨0, 1, false⟩, p + 2, rfl, .inr rfl, by omega, ((HD.out.set (by show w.heap.size ≤ w.heap.size + 1 + 1; omega) hg _).set (by show w.heap.size ≤ w.heap.size + 1 + 1; omega) hg _).set (by show w.heap.size ≤ w.heap.size + 1 + 1; omega) hg _⟩
  ·have HF := Lib.hid hf
   clear hf
   go_wp2_with fail
   refine bodyPost_ret (v := inV (⟨0, v2, false⟩ : Inp)) (by simp [results, Tryz.results136, go_sem, cr]) rfl ?_
   exact ⟨(⟨0, v2, false⟩ : Inp), p + 2, rfl, .inl HF.out, by omega, ((HD.out.set (by show w.heap.size ≤ w.heap.size + 1 + 1; omega) hg _).set (by show w.heap.size ≤ w.heap.size + 1 + 1; omega) hg _).set (by show w.heap.size ≤ w.heap.size + 1 + 1; omega) hg _⟩
 have h0' : (v1 == 0) = false := by simpa using h0
 by_cases h1 : v1 = 1
 ·have h1' : (v1 == 1) = true := by simpa using h1
  clear h0 h1
  go_wp2_with fail
  refine (pick_any g 3 _ _ HD.out.1 (by omega)).mono ?_
  rintro e w2 ⟨v2, rfl, a2, b2, hR, hO⟩
  have c2 := b2 (by omega)
  replace HD := Lib.hid (HD.out.step hR hO)
  replace KL := Lib.hid (KL.out.only hO n0)
  replace KB := Lib.hid (KB.out.only hO n1)
  replace KR := Lib.hid (KR.out.only hO n2)
  replace KX := Lib.hid (KX.out.only hO n3)
  clear b2 hR hO
  have cx := fun o => KX.out.cell o
  have fx := fun o => KX.out.frozen o
  have zx := KX.out.lt
  go_upto_region 10 with (fail)
  refine into_world (fun Y => Dr w g (p + 2) Y ∧ Blk Y w.heap.size 29 (lvlC l ws gs) ∧ Blk Y (w.heap.size + 1) 80 #[.int .i64 b.s, .int .i64 b.p, .bool b.z] ∧ Blk Y (w.heap.size + 1 + 1) 80 #[.int .i64 0, .int .i64 0, .bool false] ∧ Blk Y (w.heap.size + 1 + 1 + 1) 80 #[.int .i64 (⟨v2 - 1, 1, false⟩ : Inp).s, .int .i64 (⟨v2 - 1, 1, false⟩ : Inp).p, .bool (⟨v2 - 1, 1, false⟩ : Inp).z]) ⟨HD.out.set (by show w.heap.size ≤ w.heap.size + 1 + 1 + 1; omega) hg _, KL.out.far (p := ⟨w.heap.size + 1 + 1 + 1, 0, none⟩) (by show _ ≠ w.heap.size + 1 + 1 + 1; omega) _, KB.out.far (p := ⟨w.heap.size + 1 + 1 + 1, 0, none⟩) (by show _ ≠ w.heap.size + 1 + 1 + 1; omega) _, KR.out.far (p := ⟨w.heap.size + 1 + 1 + 1, 0, none⟩) (by show _ ≠ w.heap.size + 1 + 1 + 1; omega) _, KX.out.set_ 0 _⟩ ?_
  rintro Y ⟨hD, hKL, hKB, hKR, hkx⟩
  replace HD := Lib.hid hD
  replace KL := Lib.hid hKL
  replace KB := Lib.hid hKB
  replace KR := Lib.hid hKR
  clear hD hKL hKB hKR KX
  have HX := Lib.hid hkx
  clear hkx
  have cl := fun o => KL.out.cell o
  have fl := fun o => KL.out.frozen o
  have zl := KL.out.lt
  have cb := fun o => KB.out.cell o
  have fb := fun o => KB.out.frozen o
  have zb := KB.out.lt
  have cx := fun o => HX.out.cell o
  have fx := fun o => HX.out.frozen o
  have zx := HX.out.lt
  go_wp2_with fail
  refine (l12Follows_any l ws gs b (⟨v2 - 1, 1, false⟩ : Inp) _).mono ?_
  rintro e w9 ⟨rfl, hb⟩
  replace HD := Lib.hid (HD.out.next hb)
  replace KR := Lib.hid (KR.out.next hb)
  replace HX := Lib.hid (HX.out.next hb)
  clear hb cl fl zl cb fb zb cx fx zx KL KB
  have cr := fun o => KR.out.cell o
  have fr := fun o => KR.out.frozen o
  have zr := KR.out.lt
  have cx := fun o => HX.out.cell o
  have fx := fun o => HX.out.frozen o
  have zx := HX.out.lt
  cases hf : followsW l b (⟨v2 - 1, 1, false⟩ : Inp)
  ·clear hf
   go_wp2_with fail
   refine bodyPost_ret (v := inV ⟨0, 1, false⟩) (by simp [results, Tryz.results136, go_sem, cr]) rfl ?_
   exact ⟨⟨0, 1, false⟩, p + 2, rfl, .inr rfl, by omega, ((HD.out.set (by show w.heap.size ≤ w.heap.size + 1 + 1; omega) hg _).set (by show w.heap.size ≤ w.heap.size + 1 + 1; omega) hg _).set (by show w.heap.size ≤ w.heap.size + 1 + 1; omega) hg _⟩
  ·have HF := Lib.hid hf
   clear hf
   go_wp2_with fail
   refine bodyPost_ret (v := inV (⟨v2 - 1, 1, false⟩ : Inp)) (by simp [results, Tryz.results136, go_sem, cr]) rfl ?_
   exact ⟨(⟨v2 - 1, 1, false⟩ : Inp), p + 2, rfl, .inl HF.out, by omega, ((HD.out.set (by show w.heap.size ≤ w.heap.size + 1 + 1; omega) hg _).set (by show w.heap.size ≤ w.heap.size + 1 + 1; omega) hg _).set (by show w.heap.size ≤ w.heap.size + 1 + 1; omega) hg _⟩
 have h1' : (v1 == 1) = false := by simpa using h1
 by_cases h2 : v1 = 2
 ·have h2' : (v1 == 2) = true := by simpa using h2
  clear h0 h1 h2
  go_wp2_with fail
  refine (pick_any g 3 _ _ HD.out.1 (by omega)).mono ?_
  rintro e w2 ⟨v2, rfl, a2, b2, hR, hO⟩
  have c2 := b2 (by omega)
  replace HD := Lib.hid (HD.out.step hR hO)
  replace KL := Lib.hid (KL.out.only hO n0)
  replace KB := Lib.hid (KB.out.only hO n1)
  replace KR := Lib.hid (KR.out.only hO n2)
  replace KX := Lib.hid (KX.out.only hO n3)
  clear b2 hR hO
  have cx := fun o => KX.out.cell o
  have fx := fun o => KX.out.frozen o
  have zx := KX.out.lt
  go_upto_region 10 with (fail)
  refine into_world (fun Y => Dr w g (p + 2) Y ∧ Blk Y w.heap.size 29 (lvlC l ws gs) ∧ Blk Y (w.heap.size + 1) 80 #[.int .i64 b.s, .int .i64 b.p, .bool b.z] ∧ Blk Y (w.heap.size + 1 + 1) 80 #[.int .i64 0, .int .i64 0, .bool false] ∧ Blk Y (w.heap.size + 1 + 1 + 1) 80 #[.int .i64 (⟨v2 - 1, 1, false⟩ : Inp).s, .int .i64 (⟨v2 - 1, 1, false⟩ : Inp).p, .bool (⟨v2 - 1, 1, false⟩ : Inp).z]) ⟨HD.out.set (by show w.heap.size ≤ w.heap.size + 1 + 1 + 1; omega) hg _, KL.out.far (p := ⟨w.heap.size + 1 + 1 + 1, 0, none⟩) (by show _ ≠ w.heap.size + 1 + 1 + 1; omega) _, KB.out.far (p := ⟨w.heap.size + 1 + 1 + 1, 0, none⟩) (by show _ ≠ w.heap.size + 1 + 1 + 1; omega) _, KR.out.far (p := ⟨w.heap.size + 1 + 1 + 1, 0, none⟩) (by show _ ≠ w.heap.size + 1 + 1 + 1; omega) _, KX.out.set_ 0 _⟩ ?_
  rintro Y ⟨hD, hKL, hKB, hKR, hkx⟩
  replace HD := Lib.hid hD
  replace KL := Lib.hid hKL
  replace KB := Lib.hid hKB
  replace KR := Lib.hid hKR
  clear hD hKL hKB hKR KX
  have HX := Lib.hid hkx
  clear hkx
  have cl := fun o => KL.out.cell o
  have fl := fun o => KL.out.frozen o
  have zl := KL.out.lt
  have cb := fun o => KB.out.cell o
  have fb := fun o => KB.out.frozen o
  have zb := KB.out.lt
  have cx := fun o => HX.out.cell o
  have fx := fun o => HX.out.frozen o
  have zx := HX.out.lt
  go_wp2_with fail
  refine (l12Follows_any l ws gs b (⟨v2 - 1, 1, false⟩ : Inp) _).mono ?_
  rintro e w9 ⟨rfl, hb⟩
  replace HD := Lib.hid (HD.out.next hb)
  replace KR := Lib.hid (KR.out.next hb)
  replace HX := Lib.hid (HX.out.next hb)
  clear hb cl fl zl cb fb zb cx fx zx KL KB
  have cr := fun o => KR.out.cell o
  have fr := fun o => KR.out.frozen o
  have zr := KR.out.lt
  have cx := fun o => HX.out.cell o
  have fx := fun o => HX.out.frozen o
  have zx := HX.out.lt
  cases hf : followsW l b (⟨v2 - 1, 1, false⟩ : Inp)
  ·clear hf
   go_wp2_with fail
   refine bodyPost_ret (v := inV ⟨0, 1, false⟩) (by simp [results, Tryz.results136, go_sem, cr]) rfl ?_
   exact ⟨⟨0, 1, false⟩, p + 2, rfl, .inr rfl, by omega, ((HD.out.set (by show w.heap.size ≤ w.heap.size + 1 + 1; omega) hg _).set (by show w.heap.size ≤ w.heap.size + 1 + 1; omega) hg _).set (by show w.heap.size ≤ w.heap.size + 1 + 1; omega) hg _⟩
  ·have HF := Lib.hid hf
   clear hf
   go_wp2_with fail
   refine bodyPost_ret (v := inV (⟨v2 - 1, 1, false⟩ : Inp)) (by simp [results, Tryz.results136, go_sem, cr]) rfl ?_
   exact ⟨(⟨v2 - 1, 1, false⟩ : Inp), p + 2, rfl, .inl HF.out, by omega, ((HD.out.set (by show w.heap.size ≤ w.heap.size + 1 + 1; omega) hg _).set (by show w.heap.size ≤ w.heap.size + 1 + 1; omega) hg _).set (by show w.heap.size ≤ w.heap.size + 1 + 1; omega) hg _⟩
 have h2' : (v1 == 2) = false := by simpa using h2
 by_cases h3 : v1 = 3
 rotate_left
 ·have h3' : (v1 == 3) = false := by simpa using h3
  clear h0 h1 h2 h3
  go_upto_region 10 with (fail)
  refine into_world (fun Y => Dr w g (p + 1) Y ∧ Blk Y w.heap.size 29 (lvlC l ws gs) ∧ Blk Y (w.heap.size + 1) 80 #[.int .i64 b.s, .int .i64 b.p, .bool b.z] ∧ Blk Y (w.heap.size + 1 + 1) 80 #[.int .i64 0, .int .i64 0, .bool false] ∧ Blk Y (w.heap.size + 1 + 1 + 1) 80 #[.int .i64 (⟨0, 1, false⟩ : Inp).s, .int .i64 (⟨0, 1, false⟩ : Inp).p, .bool (⟨0, 1, false⟩ : Inp).z]) ⟨HD.out.next (Below.refl _ _), KL.out.next (Below.refl _ _), KB.out.next (Below.refl _ _), KR.out.next (Below.refl _ _), KX.out.next (Below.refl _ _)⟩ ?_
  rintro Y ⟨hD, hKL, hKB, hKR, hkx⟩
  replace HD := Lib.hid hD
  replace KL := Lib.hid hKL
  replace KB := Lib.hid hKB
  replace KR := Lib.hid hKR
  clear hD hKL hKB hKR KX
  have HX := Lib.hid hkx
  clear hkx
  have cl := fun o => KL.out.cell o
  have fl := fun o => KL.out.frozen o
  have zl := KL.out.lt
  have cb := fun o => KB.out.cell o
  have fb := fun o => KB.out.frozen o
  have zb := KB.out.lt
  have cx := fun o => HX.out.cell o
  have fx := fun o => HX.out.frozen o
  have zx := HX.out.lt
  go_wp2_with fail
  refine (l12Follows_any l ws gs b (⟨0, 1, false⟩ : Inp) _).mono ?_
  rintro e w9 ⟨rfl, hb⟩
  replace HD := Lib.hid (HD.out.next hb)
  replace KR := Lib.hid (KR.out.next hb)
  replace HX := Lib.hid (HX.out.next hb)
  clear hb cl fl zl cb fb zb cx fx zx KL KB
  have cr := fun o => KR.out.cell o
  have fr := fun o => KR.out.frozen o
  have zr := KR.out.lt
  have cx := fun o => HX.out.cell o
  have fx := fun o => HX.out.frozen o
  have zx := HX.out.lt
  cases hf : followsW l b (⟨0, 1, false⟩ : Inp)
  ·clear hf
   go_wp2_with fail
   refine bodyPost_ret (v := inV ⟨0, 1, false⟩) (by simp [results, Tryz.results136, go_sem, cr]) rfl ?_
   exact ⟨⟨0, 1, false⟩, p + 1, rfl, .inr rfl, by omega, ((HD.out.set (by show w.heap.size ≤ w.heap.size + 1 + 1; omega) hg _).set (by show w.heap.size ≤ w.heap.size + 1 + 1; omega) hg _).set (by show w.heap.size ≤ w.heap.size + 1 + 1; omega) hg _⟩
  ·have HF := Lib.hid hf
   clear hf
   go_wp2_with fail
   refine bodyPost_ret (v := inV (⟨0, 1, false⟩ : Inp)) (by simp [results, Tryz.results136, go_sem, cr]) rfl ?_
   exact ⟨(⟨0, 1, false⟩ : Inp), p + 1, rfl, .inl HF.out, by omega, ((HD.out.set (by show w.heap.size ≤ w.heap.size + 1 + 1; omega) hg _).set (by show w.heap.size ≤ w.heap.size + 1 + 1; omega) hg _).set (by show w.heap.size ≤ w.heap.size + 1 + 1; omega) hg _⟩
 have h3' : (v1 == 3) = true := by simpa using h3
 clear h0 h1 h2 h3
 go_wp2_with fail
 refine (pick_any g 10 _ _ HD.out.1 (by omega)).mono ?_
 rintro e w2 ⟨v2, rfl, a2, b2, hR, hO⟩
 replace HD := Lib.hid (HD.out.step hR hO)
 replace KL := Lib.hid (KL.out.only hO n0)
 replace KB := Lib.hid (KB.out.only hO n1)
 replace KR := Lib.hid (KR.out.only hO n2)
 replace KX := Lib.hid (KX.out.only hO n3)
 clear b2 hR hO
 go_wp2_with fail
 refine (specInputOf_any v2 _).mono ?_
 obtain ⟨xi, oki, hxi⟩ : ∃ a b, inOf v2 = (a, b) := ⟨_, _, rfl⟩
 rw [hxi]
 clear hxi
 rintro e w3 ⟨rfl, hb⟩
 replace HD := Lib.hid (HD.out.next hb)
 replace KL := Lib.hid (KL.out.next hb)
 replace KB := Lib.hid (KB.out.next hb)
 replace KR := Lib.hid (KR.out.next hb)
 replace KX := Lib.hid (KX.out.next hb)
 clear hb
 have cx := fun o => KX.out.cell o
 have fx := fun o => KX.out.frozen o
 have zx := KX.out.lt
 go_upto_region 10 with (fail)
 refine into_world (fun Y => Dr w g (p + 2) Y ∧ Blk Y w.heap.size 29 (lvlC l ws gs) ∧ Blk Y (w.heap.size + 1) 80 #[.int .i64 b.s, .int .i64 b.p, .bool b.z] ∧ Blk Y (w.heap.size + 1 + 1) 80 #[.int .i64 0, .int .i64 0, .bool false] ∧ Blk Y (w.heap.size + 1 + 1 + 1) 80 #[.int .i64 xi.s, .int .i64 xi.p, .bool xi.z]) ⟨((HD.out.set (by show w.heap.size ≤ w.heap.size + 1 + 1 + 1; omega) hg _).set (by show w.heap.size ≤ w.heap.size + 1 + 1 + 1; omega) hg _).set (by show w.heap.size ≤ w.heap.size + 1 + 1 + 1; omega) hg _, ((KL.out.far (p := ⟨w.heap.size + 1 + 1 + 1, 0, none⟩) (by show _ ≠ w.heap.size + 1 + 1 + 1; omega) _).far (p := ⟨w.heap.size + 1 + 1 + 1, 1, none⟩) (by show _ ≠ w.heap.size + 1 + 1 + 1; omega) _).far (p := ⟨w.heap.size + 1 + 1 + 1, 2, none⟩) (by show _ ≠ w.heap.size + 1 + 1 + 1; omega) _, ((KB.out.far (p := ⟨w.heap.size + 1 + 1 + 1, 0, none⟩) (by show _ ≠ w.heap.size + 1 + 1 + 1; omega) _).far (p := ⟨w.heap.size + 1 + 1 + 1, 1, none⟩) (by show _ ≠ w.heap.size + 1 + 1 + 1; omega) _).far (p := ⟨w.heap.size + 1 + 1 + 1, 2, none⟩) (by show _ ≠ w.heap.size + 1 + 1 + 1; omega) _, ((KR.out.far (p := ⟨w.heap.size + 1 + 1 + 1, 0, none⟩) (by show _ ≠ w.heap.size + 1 + 1 + 1; omega) _).far (p := ⟨w.heap.size + 1 + 1 + 1, 1, none⟩) (by show _ ≠ w.heap.size + 1 + 1 + 1; omega) _).far (p := ⟨w.heap.size + 1 + 1 + 1, 2, none⟩) (by show _ ≠ w.heap.size + 1 + 1 + 1; omega) _, ((KX.out.set_ 0 _).set_ 1 _).set_ 2 _⟩ ?_
 rintro Y ⟨hD, hKL, hKB, hKR, hkx⟩
 replace HD := Lib.hid hD
 replace KL := Lib.hid hKL
 replace KB := Lib.hid hKB
 replace KR := Lib.hid hKR
 clear hD hKL hKB hKR KX
 have HX := Lib.hid hkx
 clear hkx
 have cl := fun o => KL.out.cell o
 have fl := fun o => KL.out.frozen o
 have zl := KL.out.lt
 have cb := fun o => KB.out.cell o
 have fb := fun o => KB.out.frozen o
 have zb := KB.out.lt
 have cx := fun o => HX.out.cell o
 have fx := fun o => HX.out.frozen o
 have zx := HX.out.lt
 go_wp2_with fail
 refine (l12Follows_any l ws gs b xi _).mono ?_
 rintro e w9 ⟨rfl, hb⟩
 replace HD := Lib.hid (HD.out.next hb)
 replace KR := Lib.hid (KR.out.next hb)
 replace HX := Lib.hid (HX.out.next hb)
 clear hb cl fl zl cb fb zb cx fx zx KL KB
 have cr := fun o => KR.out.cell o
 have fr := fun o => KR.out.frozen o
 have zr := KR.out.lt
 have cx := fun o => HX.out.cell o
 have fx := fun o => HX.out.frozen o
 have zx := HX.out.lt
 cases hf : followsW l b xi
 ·clear hf
  go_wp2_with fail
  refine bodyPost_ret (v := inV ⟨0, 1, false⟩) (by simp [results, Tryz.results136, go_sem, cr]) rfl ?_
  exact ⟨⟨0, 1, false⟩, p + 2, rfl, .inr rfl, by omega, ((HD.out.set (by show w.heap.size ≤ w.heap.size + 1 + 1; omega) hg _).set (by show w.heap.size ≤ w.heap.size + 1 + 1; omega) hg _).set (by show w.heap.size ≤ w.heap.size + 1 + 1; omega) hg _⟩
 ·have HF := Lib.hid hf
  clear hf
  go_wp2_with fail
  refine bodyPost_ret (v := inV xi) (by simp [results, Tryz.results136, go_sem, cr]) rfl ?_
  exact ⟨xi, p + 2, rfl, .inl HF.out, by omega, ((HD.out.set (by show w.heap.size ≤ w.heap.size + 1 + 1; omega) hg _).set (by show w.heap.size ≤ w.heap.size + 1 + 1; omega) hg _).set (by show w.heap.size ≤ w.heap.size + 1 + 1; omega) hg _⟩
end Go.Proofs.YtemnlheidghbmaaGreatDoor

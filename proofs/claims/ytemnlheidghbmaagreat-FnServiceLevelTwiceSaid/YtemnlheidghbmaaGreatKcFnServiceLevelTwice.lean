/-
  FnServiceLevelTwice returns true for every code, and nothing that was there is written. No condition.
-/
import Derived.Test.YtemnlheidghbmaaGreatKc2
import Derived.Test.YtemnlheidghbmaaGreatKc33
import Derived.Test.YtemnlheidghbmaaGreatKc37
import Derived.Test.YtemnlheidghbmaaGreatKc38
namespace Go.Proofs.YtemnlheidghbmaaGreat.fnServiceLevelTwice
open Go.RowKit Go.ChangeShapes Go.WideShapes Go.ChangeAt
set_option linter.unusedVariables false
set_option maxRecDepth 100000 in
set_option maxHeartbeats 8000000 in
theorem walk (a0 : Option Addr) (len0 cap0 : Nat) (z0 : List Int) (w : World) (w0 : BytesIn w a0 len0 cap0 z0) :
  Calls Tryz.prog 3 #[.slice a0 len0 cap0] w fun e w' => e = .returned (.bool true) ∧ Below w.heap.size w w' := by
 have hz := w0.bd
 obtain ⟨hr, hlc, hcm, _⟩ := w0
 by_cases hsz : (1048576 : Int) < len0
 ·clear hr hlc hcm hz
  go_enter Tryz.func3, Tryz.ntmps3
  go_wp2
  go_ret
  exact ⟨rfl, Below.refl _ _⟩
 have H1 := Lib.hid (drawServiceLevel_any a0 len0 cap0 z0 w ⟨hr, hz, hlc, hcm⟩)
 clear hr hlc hcm hz
 go_enter Tryz.func3, Tryz.ntmps3
 go_wp2_with fail
 refine H1.out.mono ?_
 rintro e w1 ⟨t, k, g, S, l, ws, gs, rfl, hrd, hrl, hb1⟩
 go_upto_region 4 with (fail)
 refine into_world (fun Y => Below w.heap.size w Y ∧ Blk Y w1.heap.size 26 (svC t k g) ∧ Blk Y (w1.heap.size + 1) 33 (lvlC l ws gs) ∧ RdS Y t k g S ∧ RdL Y l ws gs) ⟨below_next hb1 (ba (ba (Below.refl _ _))), (Blk.new _ _ _).alloc _, Blk.newAt _ _ _ _ (by simp), hrd.below (ba (ba (Below.refl _ _))), hrl.below (ba (ba (Below.refl _ _)))⟩ ?_
 clear hrd hrl hb1
 rintro Y ⟨hB, hKS, hKL, hrd, hrl⟩
 have HB := Lib.hid hB
 have KS := Lib.hid hKS
 have KL := Lib.hid hKL
 have HR := Lib.hid hrd
 have HL := Lib.hid hrl
 clear hB hKS hKL hrd hrl
 have cs := fun o => KS.out.cell o
 have fs := fun o => KS.out.frozen o
 have zs := KS.out.lt
 have cl := fun o => KL.out.cell o
 have fl := fun o => KL.out.frozen o
 have zl := KL.out.lt
 go_wp2_with fail
 refine (implServiceLevel_any t k g S l ws gs _ HR.out HL.out).mono ?_
 obtain ⟨S2, ok, hlv⟩ : ∃ a b, levelS S l = (a, b) := ⟨_, _, rfl⟩
 have HLV := Lib.hid hlv
 rw [hlv]
 clear hlv
 rintro e w2 ⟨t2, k2, g2, rfl, ho2, hb⟩
 replace KS := Lib.hid (KS.out.next hb)
 replace HR := Lib.hid (HR.out.below hb)
 replace HB := Lib.hid (below_next HB.out hb)
 replace KL := Lib.hid (KL.out.next hb)
 replace HL := Lib.hid (HL.out.below hb)
 clear hb cs fs zs cl fl zl
 go_upto_region 5 with (fail)
 have hW : Below w2.heap.size w2 (w2.alloc (.cells (svC t2 k2 g2) 26)) := ba (Below.refl _ _)
 have KS2 := Lib.hid (Blk.new w2 26 (svC t2 k2 g2))
 have HR2 := Lib.hid (ho2.rd.below hW)
 replace KS := Lib.hid (KS.out.next hW)
 replace HR := Lib.hid (HR.out.below hW)
 replace HB := Lib.hid (below_next HB.out hW)
 replace KL := Lib.hid (KL.out.next hW)
 replace HL := Lib.hid (HL.out.below hW)
 clear hW ho2
 have cs := fun o => KS.out.cell o
 have fs := fun o => KS.out.frozen o
 have zs := KS.out.lt
 have cl := fun o => KL.out.cell o
 have fl := fun o => KL.out.frozen o
 have zl := KL.out.lt
 go_wp2_with fail
 refine (specServiceLevel_any t k g S l ws gs _ HR.out HL.out).mono ?_
 rw [HLV.out]
 rintro e w3 ⟨t3, k3, g3, rfl, ho3, hb⟩
 replace KS := Lib.hid (KS.out.next hb)
 replace HR := Lib.hid (HR.out.below hb)
 replace HB := Lib.hid (below_next HB.out hb)
 replace KL := Lib.hid (KL.out.next hb)
 replace HL := Lib.hid (HL.out.below hb)
 replace KS2 := Lib.hid (KS2.out.next hb)
 replace HR2 := Lib.hid (HR2.out.below hb)
 clear hb cs fs zs cl fl zl
 go_upto_region 6 with (fail)
 have hW : Below w3.heap.size w3 (w3.alloc (.cells (svC t3 k3 g3) 26)) := ba (Below.refl _ _)
 have KS3 := Lib.hid (Blk.new w3 26 (svC t3 k3 g3))
 have HR3 := Lib.hid (ho3.rd.below hW)
 replace KS := Lib.hid (KS.out.next hW)
 replace HR := Lib.hid (HR.out.below hW)
 replace HB := Lib.hid (below_next HB.out hW)
 replace KL := Lib.hid (KL.out.next hW)
 replace HL := Lib.hid (HL.out.below hW)
 replace KS2 := Lib.hid (KS2.out.next hW)
 replace HR2 := Lib.hid (HR2.out.below hW)
 clear hW ho3
 cases ok
 ·have ca := fun o => KS2.out.cell o
  have fa := fun o => KS2.out.frozen o
  have za := KS2.out.lt
  have cb := fun o => KS3.out.cell o
  have fb := fun o => KS3.out.frozen o
  have zb := KS3.out.lt
  go_wp2_with fail
  refine (sameService_same _ _ _ _ _ _ S2 _ HR2.out HR3.out).mono ?_
  rintro e w4 ⟨rfl, hb⟩
  replace KS := Lib.hid (KS.out.next hb)
  replace HR := Lib.hid (HR.out.below hb)
  replace HB := Lib.hid (below_next HB.out hb)
  replace KL := Lib.hid (KL.out.next hb)
  replace HL := Lib.hid (HL.out.below hb)
  replace KS2 := Lib.hid (KS2.out.next hb)
  replace HR2 := Lib.hid (HR2.out.below hb)
  replace KS3 := Lib.hid (KS3.out.next hb)
  replace HR3 := Lib.hid (HR3.out.below hb)
  clear hb ca fa za cb fb zb
  have ca := fun o => KS2.out.cell o
  have fa := fun o => KS2.out.frozen o
  have za := KS2.out.lt
  have cb := fun o => KS3.out.cell o
  have fb := fun o => KS3.out.frozen o
  have zb := KS3.out.lt
  go_wp2_with fail
  refine (sameService_same _ _ _ _ _ _ S2 _ HR2.out HR3.out).mono ?_
  rintro e w5 ⟨rfl, hb⟩
  have hbb := below_next HB.out hb
  clear hb ca fa za cb fb zb
  go_wp2_with fail
  go_ret
  exact ⟨rfl, hbb⟩
 have ca := fun o => KS2.out.cell o
 have fa := fun o => KS2.out.frozen o
 have za := KS2.out.lt
 have cb := fun o => KS3.out.cell o
 have fb := fun o => KS3.out.frozen o
 have zb := KS3.out.lt
 go_wp2_with fail
 refine (sameService_same _ _ _ _ _ _ S2 _ HR2.out HR3.out).mono ?_
 rintro e w4 ⟨rfl, hb⟩
 replace KS := Lib.hid (KS.out.next hb)
 replace HR := Lib.hid (HR.out.below hb)
 replace HB := Lib.hid (below_next HB.out hb)
 replace KL := Lib.hid (KL.out.next hb)
 replace HL := Lib.hid (HL.out.below hb)
 replace KS2 := Lib.hid (KS2.out.next hb)
 replace HR2 := Lib.hid (HR2.out.below hb)
 replace KS3 := Lib.hid (KS3.out.next hb)
 replace HR3 := Lib.hid (HR3.out.below hb)
 clear hb ca fa za cb fb zb
 have ca := fun o => KS2.out.cell o
 have fa := fun o => KS2.out.frozen o
 have za := KS2.out.lt
 have cl := fun o => KL.out.cell o
 have fl := fun o => KL.out.frozen o
 have zl := KL.out.lt
 go_wp2_with fail
 refine (implServiceLevel_any t2 k2 g2 S2 l ws gs _ HR2.out HL.out).mono ?_
 rw [level_twice HLV.out]
 rintro e w6 ⟨t6, k6, g6, rfl, ho6, hb⟩
 replace KS := Lib.hid (KS.out.next hb)
 replace HR := Lib.hid (HR.out.below hb)
 replace HB := Lib.hid (below_next HB.out hb)
 replace KL := Lib.hid (KL.out.next hb)
 replace HL := Lib.hid (HL.out.below hb)
 replace KS2 := Lib.hid (KS2.out.next hb)
 replace HR2 := Lib.hid (HR2.out.below hb)
 replace KS3 := Lib.hid (KS3.out.next hb)
 replace HR3 := Lib.hid (HR3.out.below hb)
 clear hb ca fa za cl fl zl
 go_upto_region 9 with (fail)
 have hW : Below w6.heap.size w6 (w6.alloc (.cells (svC t6 k6 g6) 26)) := ba (Below.refl _ _)
 have KS6 := Lib.hid (Blk.new w6 26 (svC t6 k6 g6))
 have HR6 := Lib.hid (ho6.rd.below hW)
 replace KS := Lib.hid (KS.out.next hW)
 replace HR := Lib.hid (HR.out.below hW)
 replace HB := Lib.hid (below_next HB.out hW)
 replace KL := Lib.hid (KL.out.next hW)
 replace HL := Lib.hid (HL.out.below hW)
 replace KS2 := Lib.hid (KS2.out.next hW)
 replace HR2 := Lib.hid (HR2.out.below hW)
 replace KS3 := Lib.hid (KS3.out.next hW)
 replace HR3 := Lib.hid (HR3.out.below hW)
 clear hW ho6
 have ca := fun o => KS2.out.cell o
 have fa := fun o => KS2.out.frozen o
 have za := KS2.out.lt
 have cb := fun o => KS6.out.cell o
 have fb := fun o => KS6.out.frozen o
 have zb := KS6.out.lt
 go_wp2_with fail
 refine (sameService_same _ _ _ _ _ _ S2 _ HR6.out HR2.out).mono ?_
 rintro e w7 ⟨rfl, hb⟩
 have hbb := below_next HB.out hb
 clear hb ca fa za cb fb zb
 go_wp2_with fail
 go_ret
 exact ⟨rfl, hbb⟩
set_option maxRecDepth 100000 in
theorem lifted (os : Os) (started : os.Started) (H : Type) (enc : TypeId × Value → H) :
  ReturnsInHanded {} Tryz.checked os 3 .any (Rows.fnServiceLevelTwiceSpec.pre6 enc Tryz.prog Tryz.f3 Rows.fnServiceLevelTwiceRow.domain false) (Rows.fnServiceLevelTwiceSpec.post enc Tryz.prog Tryz.f3 false true false false) := by
 refine returnsInHanded_of_change (C := Tryz.checked) own_ started (by kernel_rfl) Tryz.func3
  (ChangeSpec.witness6 (enc := enc) (C := Tryz.checked) false ⟨#[], #[.slice none 0 0], []⟩ 8 (by kernel_rfl) (by kernel_rfl) (by kernel_rfl) (by kernel_rfl)) ?_
 intro W base args ds gs before hval0 hW hcnd _
 have hval : ∀ (j : Nat) t v, Tryz.f3.params[j]? = some t → args[j]? = some v → Value.okWide Tryz.prog W .any base t v := hval0
 have hW' := hW
 obtain ⟨p, q, hA0, hV, rfl, hfz, hnd⟩ := hW
 have hA : DataW.TrodAll enc Tryz.prog W 0 (fun _ => true) true Tryz.f3.params.toList args.toList ds p := hA0
 rw [Tryz.params3] at hA hval
 obtain ⟨v0, vs0, d0, ds0, p0, q0, hargs, rfl, rfl, h0, r0⟩ := trodAll_cons hA
 obtain ⟨rfl, rfl, rfl⟩ := trodAll_nil r0
 obtain rfl : args = #[v0] := by cases args; simp_all
 obtain ⟨rfl, rfl⟩ := trodVars_none hV
 obtain ⟨a0, len0, cap0, rfl⟩ := okWide_slice Tryz.underlying22 (hval 0 22 v0 rfl rfl)
 have k0 := h0
 have lt0 : ∀ x ∈ p0, x.block < W.heap.size := by obtain ⟨m, hm⟩ := k0; exact DataW.trod_lt m _ _ _ hm
 obtain ⟨z0, w0⟩ : ∃ zs, BytesIn W a0 len0 cap0 zs := by
  obtain ⟨fuel, hf⟩ := h0
  exact open_BytesIn Tryz.underlying22 Tryz.underlying5 (by kernel_rfl) (by simpa [Value.cells] using hf)
 clear hA0 hval0
 refine (walk a0 len0 cap0 z0 W w0).mono fun e W' ⟨he, bel⟩ => ?_
 subst he
 exact ⟨_, rfl, _, _, _, [], _, [], hW', trodAll_mk1 (shut_bool Tryz.underlying4 _), (trodAll_cons_mk (Below.trod laidOut_ (by kernel_rfl) (of_decide_eq_true (by kernel_rfl)) k0 bel lt0) trodAll_mk0), rfl, bel.frame _, fun h => by cases h⟩
theorem closed_ : joinedFacts Tryz.prog 3 Tryz.f3 Rows.fnServiceLevelTwiceSpec Rows.fnServiceLevelTwiceRow = true :=
 joined_by mayEnter_ liftsFinal_ make_ (by kernel_rfl) laidOut_ mapsRowed_ (by kernel_rfl) (by kernel_rfl) rfl stops_ rfl stopKnobs_ (by kernel_rfl) (by kernel_rfl) (by kernel_rfl) (by kernel_rfl) (by kernel_rfl) (by kernel_rfl) (by kernel_rfl) (by kernel_rfl) (by kernel_rfl) (by kernel_rfl) rfl stopsHeard_ rfl rfl rfl (by kernel_rfl)
theorem over : Rows.fnServiceLevelTwiceRow.holds Tryz.pinned (OpenSpec.ofChange Rows.fnServiceLevelTwiceSpec) :=
 OpenClaim.holds_of_wide 3 Tryz.f3 rfl rfl rfl rfl rfl rfl rfl ⟨rfl, rfl, rfl, rfl, rfl⟩ rfl rfl rfl rfl rfl (by kernel_rfl) Tryz.func3 closed_
  (of_decide_eq_true (by kernel_rfl)) (by unfold Func.isWrapper; first | (rw [if_pos (by decide +kernel)]; kernel_rfl) | (rw [if_neg (by decide +kernel)]; exact ⟨rfl, rfl⟩))
  (fun os started H enc _ => lifted os started H enc)
theorem proved : Rows.FnServiceLevelTwiceSaid := over
end Go.Proofs.YtemnlheidghbmaaGreat.fnServiceLevelTwice


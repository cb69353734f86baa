/-
  FnRevokeTwice returns true for every code, and nothing that was there is written. No condition.
-/
import Derived.Test.YtepddbfafdfadaaGreatKa3
import Derived.Test.YtepddbfafdfadaaGreatKa39
namespace Go.Proofs.YtepddbfafdfadaaGreat.fnRevokeTwice
open Go.RowKit Go.ChangeShapes Go.WideShapes Go.ChangeAt
set_option linter.unusedVariables false
set_option maxRecDepth 100000 in
set_option maxHeartbeats 8000000 in
theorem walk (a0 : Option Addr) (len0 cap0 : Nat) (z0 : List Int) (w : World) (w0 : BytesIn w a0 len0 cap0 z0) :
  Calls Tryz.prog 7 #[.slice a0 len0 cap0] w fun e w' => e = .returned (.bool true) ∧ Below w.heap.size w w' := by
 have hz := w0.bd
 obtain ⟨hr, hlc, hcm, _⟩ := w0
 by_cases hsz : (1048576 : Int) < len0
 ·clear hr hlc hcm hz
  go_enter Tryz.func7, Tryz.ntmps7
  go_wp2
  go_ret
  exact ⟨rfl, Below.refl _ _⟩
 have H1 := Lib.hid (drawServiceRevoke_any a0 len0 cap0 z0 w ⟨hr, hz, hlc, hcm⟩)
 clear hr hlc hcm hz
 go_enter Tryz.func7, Tryz.ntmps7
 go_wp2_with fail
 refine H1.out.mono ?_
 rintro e w1 ⟨t, k, g, S, p, rfl, hrd, hb1⟩
 go_upto_region 4 with (fail)
 refine into_world (fun Y => Below w.heap.size w Y ∧ Blk Y w1.heap.size 37 (svC t k g) ∧ RdS Y t k g S) ⟨hb1.alloc hb1.size _, Blk.new _ _ _, hrd.below (ba (Below.refl _ _))⟩ ?_
 clear hrd hb1
 rintro Y ⟨hB, hKS, hrd⟩
 have HB := Lib.hid hB
 have KS := Lib.hid hKS
 have HR := Lib.hid hrd
 clear hB hKS hrd
 have cs := fun o => KS.out.cell o
 have fs := fun o => KS.out.frozen o
 have zs := KS.out.lt
 go_wp2_with fail
 refine (implServiceRevoke_any t k g S p _ HR.out).mono ?_
 obtain ⟨S2, n2, hrv⟩ : ∃ a b, revS S p = (a, b) := ⟨_, _, rfl⟩
 have HRV := Lib.hid hrv
 rw [hrv]
 clear hrv
 rintro e w2 ⟨t2, k2, g2, rfl, ho2, hb⟩
 replace KS := Lib.hid (KS.out.next hb)
 replace HR := Lib.hid (HR.out.below hb)
 replace HB := Lib.hid (below_next HB.out hb)
 clear hb cs fs zs
 go_upto_region 5 with (fail)
 have hW : Below w2.heap.size w2 (w2.alloc (.cells (svC t2 k2 g2) 37)) := ba (Below.refl _ _)
 have KS2 := Lib.hid (Blk.new w2 37 (svC t2 k2 g2))
 have HR2 := Lib.hid (ho2.rd.below hW)
 replace KS := Lib.hid (KS.out.next hW)
 replace HR := Lib.hid (HR.out.below hW)
 replace HB := Lib.hid (below_next HB.out hW)
 clear hW ho2
 have cs := fun o => KS.out.cell o
 have fs := fun o => KS.out.frozen o
 have zs := KS.out.lt
 go_wp2_with fail
 refine (specServiceRevoke_any t k g S p _ HR.out).mono ?_
 rw [HRV.out]
 rintro e w3 ⟨t3, k3, g3, rfl, ho3, hb⟩
 replace KS := Lib.hid (KS.out.next hb)
 replace HR := Lib.hid (HR.out.below hb)
 replace HB := Lib.hid (below_next HB.out hb)
 replace KS2 := Lib.hid (KS2.out.next hb)
 replace HR2 := Lib.hid (HR2.out.below hb)
 clear hb cs fs zs
 go_upto_region 6 with (fail)
 have hW : Below w3.heap.size w3 (w3.alloc (.cells (svC t3 k3 g3) 37)) := ba (Below.refl _ _)
 have KS3 := Lib.hid (Blk.new w3 37 (svC t3 k3 g3))
 have HR3 := Lib.hid (ho3.rd.below hW)
 replace KS := Lib.hid (KS.out.next hW)
 replace HR := Lib.hid (HR.out.below hW)
 replace HB := Lib.hid (below_next HB.out hW)
 replace KS2 := Lib.hid (KS2.out.next hW)
 replace HR2 := Lib.hid (HR2.out.below hW)
 clear hW ho3
 have ca := fun o => KS2.out.cell o
 have fa := fun o => KS2.out.frozen o
 have za := KS2.out.lt
 have cb := fun o => KS3.out.cell o
 have fb := fun o => KS3.out.frozen o
 have zb := KS3.out.lt
 go_wp2_with fail
 refine (sameService_same _ _ _ _ _ _ S2 _ HR2.out HR3.out).mono ?_
 rintro e w4 ⟨rfl, hb⟩
 replace KS := Lib.hid (KS.out.next hb)
 replace HR := Lib.hid (HR.out.below hb)
 replace HB := Lib.hid (below_next HB.out hb)
 replace KS2 := Lib.hid (KS2.out.next hb)
 replace HR2 := Lib.hid (HR2.out.below hb)
 replace KS3 := Lib.hid (KS3.out.next hb)
 replace HR3 := Lib.hid (HR3.out.below hb)
 clear hb ca fa za cb fb zb
 by_cases hn : n2 < 0
 ·have hn' : decide (n2 < 0) = true := by simpa using hn
  clear hn
  have ca := fun o => KS2.out.cell o
  have fa := fun o => KS2.out.frozen o
  have za := KS2.out.lt
  have cb := fun o => KS3.out.cell o
  have fb := fun o => KS3.out.frozen o
  have zb := KS3.out.lt
  go_wp2_with fail
  refine (sameService_same _ _ _ _ _ _ S2 _ HR2.out HR3.out).mono ?_
  rintro e w5 ⟨rfl, hb⟩
  have hbb := below_next HB.out hb
  clear hb ca fa za cb fb zb
  go_wp2_with fail
  go_ret
  exact ⟨rfl, hbb⟩
 have hn' : decide (n2 < 0) = false := by simpa using hn
 have hvp : (validS S && inR p 0 9) = true := by
  have hr := HRV.out
  cases hv : (validS S && inR p 0 9)
  ·rw [revS_bad hv] at hr
   injection hr with _ hr
   omega
  ·rfl
 simp only [Bool.and_eq_true] at hvp
 have HVS := Lib.hid hvp.1
 have HPP := Lib.hid hvp.2
 have HS2 := Lib.hid (show S2 = ⟨S.ts.map (revT p), S.keys.set p.toNat 0, S.tags⟩ by have := HRV.out; rw [revS_done hvp.1 hvp.2] at this; injection this with this; exact this.symm)
 clear hvp
 have ca := fun o => KS2.out.cell o
 have fa := fun o => KS2.out.frozen o
 have za := KS2.out.lt
 go_wp2_with fail
 refine (implServiceRevoke_any t2 k2 g2 S2 p _ HR2.out).mono ?_
 have htw : revS S2 p = (S2, 0) := by rw [HS2.out]; exact rev_twice HVS.out HPP.out
 rw [htw]
 clear htw
 rintro e w6 ⟨t6, k6, g6, rfl, ho6, hb⟩
 replace KS := Lib.hid (KS.out.next hb)
 replace HR := Lib.hid (HR.out.below hb)
 replace HB := Lib.hid (below_next HB.out hb)
 replace KS2 := Lib.hid (KS2.out.next hb)
 replace HR2 := Lib.hid (HR2.out.below hb)
 replace KS3 := Lib.hid (KS3.out.next hb)
 replace HR3 := Lib.hid (HR3.out.below hb)
 clear hb ca fa za
 go_upto_region 9 with (fail)
 have hW : Below w6.heap.size w6 (w6.alloc (.cells (svC t6 k6 g6) 37)) := ba (Below.refl _ _)
 have KS6 := Lib.hid (Blk.new w6 37 (svC t6 k6 g6))
 have HR6 := Lib.hid (ho6.rd.below hW)
 replace KS := Lib.hid (KS.out.next hW)
 replace HR := Lib.hid (HR.out.below hW)
 replace HB := Lib.hid (below_next HB.out hW)
 replace KS2 := Lib.hid (KS2.out.next hW)
 replace HR2 := Lib.hid (HR2.out.below hW)
 replace KS3 := Lib.hid (KS3.out.next hW)
 replace HR3 := Lib.hid (HR3.out.below hW)
 clear hW ho6
 have ca := fun o => KS2.out.cell o
 have fa := fun o => KS2.out.frozen o
 have za := KS2.out.lt
 have cb := fun o => KS6.out.cell o
 have fb := fun o => KS6.out.frozen o
 have zb := KS6.out.lt
 go_wp2_with fail
 refine (sameService_same _ _ _ _ _ _ S2 _ HR6.out HR2.out).mono ?_
 rintro e w7 ⟨rfl, hb⟩
 have hbb := below_next HB.out hb
 clear hb ca fa za cb fb zb
 go_wp2_with fail
 go_ret
 exact ⟨rfl, hbb⟩
set_option maxRecDepth 100000 in
theorem lifted (os : Os) (started : os.Started) (H : Type) (enc : TypeId × Value → H) :
  ReturnsInHanded {} Tryz.checked os 7 .any (Rows.fnRevokeTwiceSpec.pre6 enc Tryz.prog Tryz.f7 Rows.fnRevokeTwiceRow.domain false) (Rows.fnRevokeTwiceSpec.post enc Tryz.prog Tryz.f7 false true false false) := by
 refine returnsInHanded_of_change (C := Tryz.checked) own_ started (by kernel_rfl) Tryz.func7
  (ChangeSpec.witness6 (enc := enc) (C := Tryz.checked) false ⟨#[], #[.slice none 0 0], []⟩ 8 (by kernel_rfl) (by kernel_rfl) (by kernel_rfl) (by kernel_rfl)) ?_
 intro W base args ds gs before hval0 hW hcnd _
 have hval : ∀ (j : Nat) t v, Tryz.f7.params[j]? = some t → args[j]? = some v → Value.okWide Tryz.prog W .any base t v := hval0
 have hW' := hW
 obtain ⟨p, q, hA0, hV, rfl, hfz, hnd⟩ := hW
 have hA : DataW.TrodAll enc Tryz.prog W 0 (fun _ => true) true Tryz.f7.params.toList args.toList ds p := hA0
 rw [Tryz.params7] at hA hval
 obtain ⟨v0, vs0, d0, ds0, p0, q0, hargs, rfl, rfl, h0, r0⟩ := trodAll_cons hA
 obtain ⟨rfl, rfl, rfl⟩ := trodAll_nil r0
 obtain rfl : args = #[v0] := by cases args; simp_all
 obtain ⟨rfl, rfl⟩ := trodVars_none hV
 obtain ⟨a0, len0, cap0, rfl⟩ := okWide_slice Tryz.underlying53 (hval 0 53 v0 rfl rfl)
 have k0 := h0
 have lt0 : ∀ x ∈ p0, x.block < W.heap.size := by obtain ⟨m, hm⟩ := k0; exact DataW.trod_lt m _ _ _ hm
 obtain ⟨z0, w0⟩ : ∃ zs, BytesIn W a0 len0 cap0 zs := by
  obtain ⟨fuel, hf⟩ := h0
  exact open_BytesIn Tryz.underlying53 Tryz.underlying5 (by kernel_rfl) (by simpa [Value.cells] using hf)
 clear hA0 hval0
 refine (walk a0 len0 cap0 z0 W w0).mono fun e W' ⟨he, bel⟩ => ?_
 subst he
 exact ⟨_, rfl, _, _, _, [], _, [], hW', trodAll_mk1 (shut_bool Tryz.underlying4 _), (trodAll_cons_mk (Below.trod laidOut_ (by kernel_rfl) (of_decide_eq_true (by kernel_rfl)) k0 bel lt0) trodAll_mk0), rfl, bel.frame _, fun h => by cases h⟩
theorem closed_ : joinedFacts Tryz.prog 7 Tryz.f7 Rows.fnRevokeTwiceSpec Rows.fnRevokeTwiceRow = true :=
 joined_by mayEnter_ liftsFinal_ make_ (by kernel_rfl) laidOut_ mapsRowed_ (by kernel_rfl) (by kernel_rfl) rfl stops_ rfl stopKnobs_ (by kernel_rfl) (by kernel_rfl) (by kernel_rfl) (by kernel_rfl) (by kernel_rfl) (by kernel_rfl) (by kernel_rfl) (by kernel_rfl) (by kernel_rfl) (by kernel_rfl) rfl stopsHeard_ rfl rfl rfl (by kernel_rfl)
theorem over : Rows.fnRevokeTwiceRow.holds Tryz.pinned (OpenSpec.ofChange Rows.fnRevokeTwiceSpec) :=
 OpenClaim.holds_of_wide 7 Tryz.f7 rfl rfl rfl rfl rfl rfl rfl ⟨rfl, rfl, rfl, rfl, rfl⟩ rfl rfl rfl rfl rfl (by kernel_rfl) Tryz.func7 closed_
  (of_decide_eq_true (by kernel_rfl)) (by unfold Func.isWrapper; first | (rw [if_pos (by decide +kernel)]; kernel_rfl) | (rw [if_neg (by decide +kernel)]; exact ⟨rfl, rfl⟩))
  (fun os started H enc _ => lifted os started H enc)
theorem proved : Rows.FnRevokeTwiceSaid := over
end Go.Proofs.YtepddbfafdfadaaGreat.fnRevokeTwice


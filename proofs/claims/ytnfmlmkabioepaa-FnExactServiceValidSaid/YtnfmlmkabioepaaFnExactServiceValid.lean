/-
  FnExactServiceValid returns true for every service, and nothing that was there is written. No condition.
-/
import Derived.Test.YtnfmlmkabioepaaFs
import Derived.Test.YtnfmlmkabioepaaTs
import Derived.Test.YtnfmlmkabioepaaEq
import Derived.Test.YtnfmlmkabioepaaSi
import Derived.Test.YtnfmlmkabioepaaSs
import Derived.Deep.RegionWith
namespace Go.Proofs.Ytnfmlmkabioepaa.fnExactServiceValid
open Go.RowKit Go.ChangeShapes Go.WideShapes Go.ChangeAt
set_option linter.unusedVariables false

set_option maxRecDepth 100000 in
set_option maxHeartbeats 4000000 in
theorem walk (t0 k_0 g0 : Sl) (S0 : Svc) (xs0 : List Row) (w : World) (w0 : RdSr w t0 k_0 g0 S0 xs0) :
    Calls Try.prog 7 #[svV t0 k_0 g0] w fun e w' => e = .returned (.bool true) ∧ Below w.heap.size w w' := by
  have HRR := Lib.hid w0
  clear w0
  go_enter Try.func7, Try.ntmps7
  have hw0 : Below w.heap.size w (w.alloc (.cells #[.slice t0.a t0.n t0.c, .slice k_0.a k_0.n k_0.c, .slice g0.a g0.n g0.c] 53)) := (Below.refl _ _).alloc (Nat.le_refl _) _
  have HW0 := Lib.hid hw0
  have kA0 := Blk.new w 53 #[.slice t0.a t0.n t0.c, .slice k_0.a k_0.n k_0.c, .slice g0.a g0.n g0.c]
  have HA0 := Lib.hid kA0
  clear hw0 kA0
  go_wp2_with fail
  refine (szService_any _ _ _ S0 xs0 _ _ (HRR.out.below HW0.out) (by omega) (by omega)).mono ?_
  rintro e w1 ⟨v, rfl, _, hv, hb1⟩
  have HB1 := Lib.hid (below_next HW0.out hb1)
  have HA1 := Lib.hid (HA0.out.next hb1)
  by_cases h0 : v < 0
  · clear hb1
    go_wp2_with fail
    go_ret
    exact ⟨rfl, HB1.out⟩
  · have HRS := Lib.hid ((hv (by omega)).below hb1)
    have cA1 := fun o => HA1.out.cell o
    clear hv hb1
    skip
    go_wp2_with fail
    refine (toService_any _ _ _ S0 _ HRS.out).mono ?_
    rintro e w2 ⟨t2, k2, g2, rfl, hO2, hb2⟩
    have HB2 := Lib.hid (below_next HB1.out hb2)
    have HA2 := Lib.hid (HA1.out.next hb2)
    have HR2 := Lib.hid (HRS.out.below hb2)
    have cA2 := fun o => HA2.out.cell o
    have hr2 := hO2.rd
    clear hb2 cA1 hO2
    go_wp2_with fail
    refine (specServiceValid_any _ _ _ S0 _ hr2).mono ?_
    rintro e w3 ⟨rfl, hb3⟩
    have HB3 := Lib.hid (below_next HB2.out hb3)
    have HA3 := Lib.hid (HA2.out.next hb3)
    have HR3 := Lib.hid (HR2.out.below hb3)
    have cA3 := fun o => HA3.out.cell o
    clear hb3 cA2 hr2
    go_wp2_with fail
    refine (toService_any _ _ _ S0 _ HR3.out).mono ?_
    rintro e w4 ⟨t4, k4, g4, rfl, hO4, hb4⟩
    have HB4 := Lib.hid (below_next HB3.out hb4)
    have HA4 := Lib.hid (HA3.out.next hb4)
    have HR4 := Lib.hid (HR3.out.below hb4)
    have HO4 := Lib.hid hO4
    clear hb4 cA3 hO4
    have hal : Below w4.heap.size w4 (w4.alloc (.cells #[.slice t4.a t4.n t4.c, .slice k4.a k4.n k4.c, .slice g4.a g4.n g4.c] 41)) := (Below.refl _ _).alloc (Nat.le_refl _) _
    have HAL := Lib.hid hal
    have kX := Blk.new w4 41 #[.slice t4.a t4.n t4.c, .slice k4.a k4.n k4.c, .slice g4.a g4.n g4.c]
    have HX4 := Lib.hid kX
    clear hal kX
    go_wp2_with fail
    refine (implServiceValid_any _ _ _ S0 _ (HO4.out.next HAL.out).rd).mono ?_
    rintro e w5 ⟨rfl, hb5⟩
    have HB5 := Lib.hid (below_next (below_next HB4.out HAL.out) hb5)
    have HA5 := Lib.hid ((HA4.out.next HAL.out).next hb5)
    have HX5 := Lib.hid (HX4.out.next hb5)
    have HR5 := Lib.hid ((HR4.out.below HAL.out).below hb5)
    have HO5 := Lib.hid ((HO4.out.next HAL.out).next hb5)
    clear hb5
    go_upto_region 10 with (fail)
    go_cut [26] (fun s wx => s = .bool false ∧ Hid (Below w5.heap.size w5 wx))
    case first =>
      have ca := fun o => HA5.out.cell o
      have cx := fun o => HX5.out.cell o
      have za := HA5.out.lt
      have zx := HX5.out.lt
      go_region_with (first
        | (go_at_call 33; refine (toService_any _ _ _ S0 _ (rds_drew HR5.out)).mono ?_; rintro e y1 ⟨t', k', g', rfl, hO1, hb1⟩; have hka := (HA5.out.drew).next hb1; have hkx := (HX5.out.drew).next hb1; have ca1 := fun o => hka.cell o; have cx1 := fun o => hkx.cell o; have hza := hka.lt; have hzx := hkx.lt; have HO1 := Lib.hid hO1; have HO2 := Lib.hid ((ows_drew HO5.out).next hb1); clear hO1 hka hkx)
        | (go_at_call 26; refine (eqService_same _ _ _ _ _ _ S0 _ HO2.out.rd HO1.out.rd).mono ?_; rintro e y2 ⟨rfl, hb2⟩))
      all_goals
        have HB2 : Hid (Below w5.heap.size w5 y2) := below_next (below_undrew hb1) hb2
        clear hb1 hb2
        go_wp2_with fail
        go_meet
        exact ⟨rfl, HB2.out⟩
    case rest =>
      obtain ⟨rfl, HBR⟩ := hcut
      skip
      go_wp2_with fail
      go_ret
      exact ⟨rfl, below_next HB5.out HBR.out⟩


set_option maxRecDepth 100000 in
theorem lifted (os : Os) (started : os.Started) (H : Type) (enc : TypeId × Value → H) :
    ReturnsInHanded {} Try.checked os 7 .any (Rows.fnExactServiceValidSpec.pre6 enc Try.prog Try.f7 Rows.fnExactServiceValidRow.domain false) (Rows.fnExactServiceValidSpec.post enc Try.prog Try.f7 false true false false) := by
  refine returnsInHanded_of_change (C := Try.checked) own_ started (by kernel_rfl) Try.func7
    (ChangeSpec.witness6 (enc := enc) (C := Try.checked) false ⟨#[], #[.agg #[.slice none 0 0, .slice none 0 0, .slice none 0 0]], []⟩ 8 (by kernel_rfl) (by kernel_rfl) (by kernel_rfl) (by kernel_rfl)) ?_
  intro W base args ds gs before hval0 hW hcnd _
  have hval : ∀ (j : Nat) t v, Try.f7.params[j]? = some t → args[j]? = some v → Value.okWide Try.prog W .any base t v := hval0
  have hW' := hW
  obtain ⟨p, q, hA0, hV, rfl, hfz, hnd⟩ := hW
  have hA : DataW.TrodAll enc Try.prog W 0 (fun _ => true) true Try.f7.params.toList args.toList ds p := hA0
  rw [Try.params7] at hA hval
  obtain ⟨v0, vs0, d0, ds0, p0, q0, hargs, rfl, rfl, h0, r0⟩ := trodAll_cons hA
  obtain ⟨rfl, rfl, rfl⟩ := trodAll_nil r0
  obtain rfl : args = #[v0] := by cases args; simp_all
  obtain ⟨rfl, rfl⟩ := trodVars_none hV
  have k0 := h0
  have lt0 : ∀ x ∈ p0, x.block < W.heap.size := by obtain ⟨m, hm⟩ := k0; exact DataW.trod_lt m _ _ _ hm
  obtain ⟨t0, k_0, g0, S0, xs0, rfl, w0⟩ := open_service (hval 0 53 v0 rfl rfl) h0
  clear hA0 hval0
  refine (walk t0 k_0 g0 S0 xs0 W w0).mono fun e W' ⟨he, bel⟩ => ?_
  subst he
  exact ⟨_, rfl, _, _, _, [], _, [], hW', trodAll_mk1 (shut_bool Try.underlying4 _), (trodAll_cons_mk (Below.trod laidOut_ (by kernel_rfl) (of_decide_eq_true (by kernel_rfl)) k0 bel lt0) trodAll_mk0), rfl, bel.frame _, fun h => by cases h⟩

theorem closed_ : joinedFacts Try.prog 7 Try.f7 Rows.fnExactServiceValidSpec Rows.fnExactServiceValidRow = true :=
  joined_by mayEnter_ liftsFinal_ make_ (by kernel_rfl) laidOut_ mapsRowed_ (by kernel_rfl) (by kernel_rfl) rfl stops_ rfl stopKnobs_ (by kernel_rfl) (by kernel_rfl) (by kernel_rfl) (by kernel_rfl) (by kernel_rfl) (by kernel_rfl) (by kernel_rfl) (by kernel_rfl) (by kernel_rfl) (by kernel_rfl) rfl stopsHeard_ rfl rfl rfl (by kernel_rfl)
theorem over : Rows.fnExactServiceValidRow.holds Try.pinned (OpenSpec.ofChange Rows.fnExactServiceValidSpec) :=
  OpenClaim.holds_of_wide 7 Try.f7 rfl rfl rfl rfl rfl rfl rfl ⟨rfl, rfl, rfl, rfl, rfl⟩ rfl rfl rfl rfl rfl (by kernel_rfl) Try.func7 closed_
    (of_decide_eq_true (by kernel_rfl)) (by unfold Func.isWrapper; first | (rw [if_pos (by decide +kernel)]; kernel_rfl) | (rw [if_neg (by decide +kernel)]; exact ⟨rfl, rfl⟩))
    (fun os started H enc _ => lifted os started H enc)

theorem proved : Rows.FnExactServiceValidSaid := over
#print axioms proved
end Go.Proofs.Ytnfmlmkabioepaa.fnExactServiceValid

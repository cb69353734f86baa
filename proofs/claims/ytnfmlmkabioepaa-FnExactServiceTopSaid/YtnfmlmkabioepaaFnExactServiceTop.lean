/-
  FnExactServiceTop returns true for every service and every level, and nothing that was there is written. No condition.
-/
import Derived.Test.YtnfmlmkabioepaaFs
import Derived.Test.YtnfmlmkabioepaaTs
import Derived.Test.YtnfmlmkabioepaaEq
import Derived.Test.YtnfmlmkabioepaaTp
import Derived.Test.YtnfmlmkabioepaaMh
import Derived.Test.YtnfmlmkabioepaaMk
import Derived.Deep.RegionWith
namespace Go.Proofs.Ytnfmlmkabioepaa.fnExactServiceTop
open Go.RowKit Go.ChangeShapes Go.WideShapes Go.ChangeAt
set_option linter.unusedVariables false

theorem topS_len {w : World} {t k g : Sl} {S : Svc} (h : RdS w t k g S) (id : Int) : (topS S id).1.length ≤ 1048576 := by
  unfold topS
  split
  · split
    · simp
    · rename_i i _
      cases ht : S.ts[i]? with
      | none => simp
      | some t =>
        obtain ⟨⟨xs, hxs, hr⟩, _⟩ := h
        obtain ⟨x, hx, rfl⟩ := row_of hxs ht
        have := hr.2 x (List.mem_of_getElem? hx)
        simp only [Option.map_some, Option.getD_some]
        rw [this.2.1.len]
        exact this.2.2.2
  · simp

set_option maxRecDepth 100000 in
set_option maxHeartbeats 8000000 in
theorem walk (t0 k_0 g0 : Sl) (S0 : Svc) (xs0 : List Row) (a1 : Int) (w : World) (w0 : RdSr w t0 k_0 g0 S0 xs0) (w1 : (Lit.int .i64 a1).wf = true) :
    Calls Try.prog 8 #[svV t0 k_0 g0, .int .i64 a1] w fun e w' => e = .returned (.bool true) ∧ Below w.heap.size w w' := by
  have hi1 : -9223372036854775808 ≤ a1 := by
    have h := w1
    simp [Lit.wf, IntKind.min, IntKind.max, IntKind.signed, IntKind.bits] at h
    omega
  have hi2 : a1 ≤ 9223372036854775807 := by
    have h := w1
    simp [Lit.wf, IntKind.min, IntKind.max, IntKind.signed, IntKind.bits] at h
    omega
  clear w1
  have HRR := Lib.hid w0
  clear w0
  go_enter Try.func8, Try.ntmps8
  have hw0 : Below w.heap.size w (w.alloc (.cells #[.slice t0.a t0.n t0.c, .slice k_0.a k_0.n k_0.c, .slice g0.a g0.n g0.c] 53)) := (Below.refl _ _).alloc (Nat.le_refl _) _
  have HW0 := Lib.hid hw0
  have kA0 := Blk.new w 53 #[.slice t0.a t0.n t0.c, .slice k_0.a k_0.n k_0.c, .slice g0.a g0.n g0.c]
  have HA0 := Lib.hid kA0
  clear hw0 kA0
  go_wp2_with fail
  refine (szService_any _ _ _ S0 xs0 _ _ (HRR.out.below HW0.out) (by omega) (by omega)).mono ?_
  rintro e w1 ⟨v, rfl, _, hv, hb1⟩
  have HB1 := Lib.hid (below_next HW0.out hb1)
  have HA1 := Lib.hid (HA0.out.next hb1)
  by_cases h0 : v < 0
  · clear hb1
    go_wp2_with fail
    go_ret
    exact ⟨rfl, HB1.out⟩
  · have HRS := Lib.hid ((hv (by omega)).below hb1)
    have cA1 := fun o => HA1.out.cell o
    clear hv hb1
    skip
    have htl := topS_len HRS.out a1
    have HAB := HA1
    have HBW := Lib.hid (Below.refl w1.heap.size w1)
    have sw : w.heap.size < w1.heap.size := HAB.out.lt
    clear cA1 HA1
    have cA := fun o => HAB.out.cell o
    have zA := HAB.out.lt
    go_wp2_with fail
    clear cA zA
    refine (toService_any _ _ _ S0 _ (HRS.out.below HBW.out)).mono ?_
    rintro e w2 ⟨t2, k2, g2, rfl, hO2, hb⟩
    have s2 : w1.heap.size ≤ w2.heap.size := hb.size
    replace HAB := Lib.hid (HAB.out.next hb)
    replace HB1 := Lib.hid (below_next HB1.out hb)
    replace HBW := Lib.hid (below_next HBW.out hb)
    have hr2 := hO2.rd
    clear hO2
    clear hb
    have cA := fun o => HAB.out.cell o
    have zA := HAB.out.lt
    go_wp2_with fail
    clear cA zA
    refine (specServiceTop_any _ _ _ S0 a1 _ hr2).mono ?_
    rintro e w3 ⟨A3, c3, rfl, hO3, hb⟩
    have s3 : w2.heap.size ≤ w3.heap.size := hb.size
    replace HAB := Lib.hid (HAB.out.next hb)
    replace HB1 := Lib.hid (below_next HB1.out hb)
    replace HBW := Lib.hid (below_next HBW.out hb)
    have HWS := Lib.hid (OwI.of hO3)
    clear hO3 hr2
    clear hb
    have cA := fun o => HAB.out.cell o
    have zA := HAB.out.lt
    go_wp2_with fail
    clear cA zA
    refine (toService_any _ _ _ S0 _ (HRS.out.below HBW.out)).mono ?_
    rintro e w4 ⟨t4, k4, g4, rfl, hO4, hb⟩
    have s4 : w3.heap.size ≤ w4.heap.size := hb.size
    replace HAB := Lib.hid (HAB.out.next hb)
    replace HWS := Lib.hid (HWS.out.next hb)
    replace HB1 := Lib.hid (below_next HB1.out hb)
    replace HBW := Lib.hid (below_next HBW.out hb)
    have ho4 := hO4
    clear hO4
    clear hb
    have hb : Below w4.heap.size w4 (w4.alloc (.cells #[.slice t4.a t4.n t4.c, .slice k4.a k4.n k4.c, .slice g4.a g4.n g4.c] 41)) := (Below.refl _ _).alloc (Nat.le_refl _) _
    replace HAB := Lib.hid (HAB.out.next hb)
    replace HWS := Lib.hid (HWS.out.next hb)
    replace HB1 := Lib.hid (below_next HB1.out hb)
    replace HBW := Lib.hid (below_next HBW.out hb)
    have HXB := Lib.hid (Blk.new w4 41 #[.slice t4.a t4.n t4.c, .slice k4.a k4.n k4.c, .slice g4.a g4.n g4.c])
    have HXS := Lib.hid (ho4.next hb)
    clear ho4
    clear hb
    have cA := fun o => HAB.out.cell o
    have zA := HAB.out.lt
    have cX := fun o => HXB.out.cell o
    have zX := HXB.out.lt
    go_wp2_with fail
    clear cA zA cX zX
    refine (implServiceTop_any _ _ _ S0 a1 _ HXS.out.rd hi1 hi2).mono ?_
    rintro e w5 ⟨A5, c5, rfl, hO5, hb⟩
    have s5 : w4.heap.size + 1 ≤ w5.heap.size := by simpa using hb.size
    replace HAB := Lib.hid (HAB.out.next hb)
    replace HXB := Lib.hid (HXB.out.next hb)
    replace HWS := Lib.hid (HWS.out.next hb)
    replace HXS := Lib.hid (HXS.out.next hb)
    replace HB1 := Lib.hid (below_next HB1.out hb)
    replace HBW := Lib.hid (below_next HBW.out hb)
    have HGS := Lib.hid (OwI.of hO5)
    clear hO5
    clear hb
    have cA := fun o => HAB.out.cell o
    have zA := HAB.out.lt
    have cX := fun o => HXB.out.cell o
    have zX := HXB.out.lt
    go_wp2_with fail
    clear cA zA cX zX
    refine (eqEntryS_any _ _ _ _ _ _ _ _ _ HGS.out.ow.rdE HWS.out.ow.rdE (by omega) (by omega)).mono ?_
    rintro e w6 ⟨he, hb⟩
    have s6 : w5.heap.size ≤ w6.heap.size := hb.size
    replace HAB := Lib.hid (HAB.out.next hb)
    replace HXB := Lib.hid (HXB.out.next hb)
    replace HWS := Lib.hid (HWS.out.next hb)
    replace HXS := Lib.hid (HXS.out.next hb)
    replace HGS := Lib.hid (HGS.out.next hb)
    replace HB1 := Lib.hid (below_next HB1.out hb)
    replace HBW := Lib.hid (below_next HBW.out hb)
    rw [show decide ((topS S0 a1).1 = (topS S0 a1).1) = true by simp] at he
    subst he
    clear hb
    have cA := fun o => HAB.out.cell o
    have zA := HAB.out.lt
    have cX := fun o => HXB.out.cell o
    have zX := HXB.out.lt
    have HRW := Lib.hid (HRS.out.below HBW.out)
    clear cA zA cX zX
    go_upto_region 10 with (fail)
    go_cut [49] (fun s wx => s = .bool false ∧ Hid (Below w6.heap.size w6 wx))
    case first =>
      have ca := fun o => HAB.out.cell o
      have cx := fun o => HXB.out.cell o
      have za := HAB.out.lt
      have zx := HXB.out.lt
      go_region_with (first
        | (go_at_call 33; refine (toService_any _ _ _ S0 _ (rds_drew HRW.out)).mono ?_; rintro e y1 ⟨t', k', g', rfl, hO1, hb1⟩; have hka := (HAB.out.drew).next hb1; have hkx := (HXB.out.drew).next hb1; have ca1 := fun o => hka.cell o; have cx1 := fun o => hkx.cell o; have hza := hka.lt; have hzx := hkx.lt; have HO1 := Lib.hid hO1; have HO2 := Lib.hid ((ows_drew HXS.out).next hb1); clear hO1 hka hkx)
        | (go_at_call 26; refine (eqService_same _ _ _ _ _ _ S0 _ HO2.out.rd HO1.out.rd).mono ?_; rintro e y2 ⟨rfl, hb2⟩))
      all_goals
        have HB2 : Hid (Below w6.heap.size w6 y2) := below_next (below_undrew hb1) hb2
        clear hb1 hb2
        go_wp2_with fail
        go_meet
        exact ⟨rfl, HB2.out⟩
    case rest =>
      obtain ⟨rfl, HBR⟩ := hcut
      skip
      replace HAB := Lib.hid (HAB.out.next HBR.out)
      replace HXB := Lib.hid (HXB.out.next HBR.out)
      replace HWS := Lib.hid (HWS.out.next HBR.out)
      replace HXS := Lib.hid (HXS.out.next HBR.out)
      replace HGS := Lib.hid (HGS.out.next HBR.out)
      replace HB1 := Lib.hid (below_next HB1.out HBR.out)
      replace HBW := Lib.hid (below_next HBW.out HBR.out)
      clear HRW HBR
      have hXhi : w4.heap.size ≤ wc.heap.size := by have := HXB.out.lt; omega
      have cA := fun o => HAB.out.cell o
      have zA := HAB.out.lt
      have cX := fun o => HXB.out.cell o
      have zX := HXB.out.lt
      go_wp2_with fail
      clear cA zA cX zX
      refine (markS_any _ _ _ _ _ S0 1 _ HXS.out hXhi (by omega) (by omega)).mono ?_
      rintro e w8 ⟨S', m, rfl, _, _, hf, hm0, hm1⟩
      clear HXS
      replace HAB := Lib.hid (HAB.out.frm hf (.inl (by omega)))
      replace HXB := Lib.hid (HXB.out.frm hf (.inr (by omega)))
      replace HWS := Lib.hid (HWS.out.frm hf (.inl (by omega)))
      replace HGS := Lib.hid (HGS.out.frm hf (.inr (by simp)))
      replace HB1 := Lib.hid (HB1.out.trans (hf.below (by omega) (by have := HB1.out.size; omega)))
      replace HBW := Lib.hid (HBW.out.trans (hf.below (by omega) (by have := HBW.out.size; omega)))
      have q1 : ¬ m < 0 := by omega
      clear hf
      clear HXB
      have cA := fun o => HAB.out.cell o
      have zA := HAB.out.lt
      go_wp2_with fail
      clear cA zA
      refine (eqEntryS_any _ _ _ _ _ _ _ _ _ HGS.out.ow.rdE HWS.out.ow.rdE (by omega) (by omega)).mono ?_
      rintro e w9 ⟨he, hb⟩
      have s9 : w8.heap.size ≤ w9.heap.size := hb.size
      replace HAB := Lib.hid (HAB.out.next hb)
      replace HWS := Lib.hid (HWS.out.next hb)
      replace HGS := Lib.hid (HGS.out.next hb)
      replace HB1 := Lib.hid (below_next HB1.out hb)
      replace HBW := Lib.hid (below_next HBW.out hb)
      rw [show decide ((topS S0 a1).1 = (topS S0 a1).1) = true by simp] at he
      subst he
      clear hb
      have cA := fun o => HAB.out.cell o
      have zA := HAB.out.lt
      go_wp2_with fail
      clear cA zA
      refine (markE_any _ _ _ _ (topS S0 a1).1 1 _ HGS.out.ow (by omega) (by omega) (by omega)).mono ?_
      rintro e w10 ⟨rfl, hoG, hg⟩
      have hf := Frm.of_own HGS.out hg
      replace HAB := Lib.hid (HAB.out.frm hf (.inl (by simp; omega)))
      replace HWS := Lib.hid (HWS.out.frm hf (.inl (by simp; omega)))
      replace HB1 := Lib.hid (HB1.out.trans (hf.below (by simp; omega) (by have := HB1.out.size; omega)))
      replace HBW := Lib.hid (HBW.out.trans (hf.below (by simp; omega) (by have := HBW.out.size; omega)))
      have HGN := Lib.hid HGS.out.2
      clear HGS
      have HGS := Lib.hid (show OwI _ _ w10 25 2 _ _ _ (cellsE (markL 1 (topS S0 a1).1.length)) from ⟨hoG, HGN.out⟩)
      have q2 : ¬ (1 : Int) + 2 * ((topS S0 a1).1.length : Int) < 0 := by omega
      clear hf hoG hg HGN
      have cA := fun o => HAB.out.cell o
      have zA := HAB.out.lt
      go_wp2_with fail
      clear cA zA
      refine (heldE_any _ _ _ 1 _ HGS.out.ow.rdE (by omega) (by omega) (by omega)).mono ?_
      rintro e _ ⟨rfl, rfl⟩
      have cA := fun o => HAB.out.cell o
      have zA := HAB.out.lt
      go_wp2_with fail
      clear cA zA
      refine (toService_any _ _ _ S0 _ (HRS.out.below HBW.out)).mono ?_
      rintro e w11 ⟨t11, k11, g11, rfl, hO11, hb⟩
      have s11 : w10.heap.size ≤ w11.heap.size := hb.size
      replace HAB := Lib.hid (HAB.out.next hb)
      replace HWS := Lib.hid (HWS.out.next hb)
      replace HGS := Lib.hid (HGS.out.next hb)
      replace HB1 := Lib.hid (below_next HB1.out hb)
      replace HBW := Lib.hid (below_next HBW.out hb)
      have hr11 := hO11.rd
      clear hO11
      clear hb
      have cA := fun o => HAB.out.cell o
      have zA := HAB.out.lt
      go_wp2_with fail
      clear cA zA
      refine (implServiceTop_any _ _ _ S0 a1 _ hr11 hi1 hi2).mono ?_
      rintro e w12 ⟨A12, c12, rfl, hO12, hb⟩
      have s12 : w11.heap.size ≤ w12.heap.size := hb.size
      replace HAB := Lib.hid (HAB.out.next hb)
      replace HWS := Lib.hid (HWS.out.next hb)
      replace HGS := Lib.hid (HGS.out.next hb)
      replace HB1 := Lib.hid (below_next HB1.out hb)
      replace HBW := Lib.hid (below_next HBW.out hb)
      have HHS := Lib.hid (OwI.of hO12)
      clear hO12 hr11
      clear hb
      have cA := fun o => HAB.out.cell o
      have zA := HAB.out.lt
      go_wp2_with fail
      clear cA zA
      refine (eqEntryS_any _ _ _ _ _ _ _ _ _ HHS.out.ow.rdE HWS.out.ow.rdE (by omega) (by omega)).mono ?_
      rintro e w13 ⟨he, hb⟩
      have s13 : w12.heap.size ≤ w13.heap.size := hb.size
      replace HAB := Lib.hid (HAB.out.next hb)
      replace HWS := Lib.hid (HWS.out.next hb)
      replace HGS := Lib.hid (HGS.out.next hb)
      replace HHS := Lib.hid (HHS.out.next hb)
      replace HB1 := Lib.hid (below_next HB1.out hb)
      replace HBW := Lib.hid (below_next HBW.out hb)
      rw [show decide ((topS S0 a1).1 = (topS S0 a1).1) = true by simp] at he
      subst he
      clear hb
      have cA := fun o => HAB.out.cell o
      have zA := HAB.out.lt
      go_wp2_with fail
      clear cA zA
      refine (heldE_any _ _ _ 1 _ HGS.out.ow.rdE (by omega) (by omega) (by omega)).mono ?_
      rintro e _ ⟨rfl, rfl⟩
      go_wp2_with fail
      go_ret
      exact ⟨rfl, HB1.out⟩


set_option maxRecDepth 100000 in
theorem lifted (os : Os) (started : os.Started) (H : Type) (enc : TypeId × Value → H) :
    ReturnsInHanded {} Try.checked os 8 .any (Rows.fnExactServiceTopSpec.pre6 enc Try.prog Try.f8 Rows.fnExactServiceTopRow.domain false) (Rows.fnExactServiceTopSpec.post enc Try.prog Try.f8 false true false false) := by
  refine returnsInHanded_of_change (C := Try.checked) own_ started (by kernel_rfl) Try.func8
    (ChangeSpec.witness6 (enc := enc) (C := Try.checked) false ⟨#[], #[.agg #[.slice none 0 0, .slice none 0 0, .slice none 0 0], .int .i64 0], []⟩ 8 (by kernel_rfl) (by kernel_rfl) (by kernel_rfl) (by kernel_rfl)) ?_
  intro W base args ds gs before hval0 hW hcnd _
  have hval : ∀ (j : Nat) t v, Try.f8.params[j]? = some t → args[j]? = some v → Value.okWide Try.prog W .any base t v := hval0
  have hW' := hW
  obtain ⟨p, q, hA0, hV, rfl, hfz, hnd⟩ := hW
  have hA : DataW.TrodAll enc Try.prog W 0 (fun _ => true) true Try.f8.params.toList args.toList ds p := hA0
  rw [Try.params8] at hA hval
  obtain ⟨v0, vs0, d0, ds0, p0, q0, hargs, rfl, rfl, h0, r0⟩ := trodAll_cons hA
  obtain ⟨v1, vs1, d1, ds1, p1, q1, rfl, rfl, rfl, h1, r1⟩ := trodAll_cons r0
  obtain ⟨rfl, rfl, rfl⟩ := trodAll_nil r1
  obtain rfl : args = #[v0, v1] := by cases args; simp_all
  obtain ⟨rfl, rfl⟩ := trodVars_none hV
  have k0 := h0
  have lt0 : ∀ x ∈ p0, x.block < W.heap.size := by obtain ⟨m, hm⟩ := k0; exact DataW.trod_lt m _ _ _ hm
  obtain ⟨t0, k_0, g0, S0, xs0, rfl, w0⟩ := open_service (hval 0 53 v0 rfl rfl) h0
  obtain ⟨a1, rfl, rfl, rfl, w1⟩ := open_int Try.underlying3 (hval 1 3 v1 rfl rfl) h1
  clear hA0 hval0
  refine (walk t0 k_0 g0 S0 xs0 a1 W w0 w1).mono fun e W' ⟨he, bel⟩ => ?_
  subst he
  exact ⟨_, rfl, _, _, _, [], _, [], hW', trodAll_mk1 (shut_bool Try.underlying4 _), (trodAll_cons_mk (Below.trod laidOut_ (by kernel_rfl) (of_decide_eq_true (by kernel_rfl)) k0 bel lt0) (trodAll_cons_mk (shut_int Try.underlying3 w1) trodAll_mk0)), rfl, bel.frame _, fun h => by cases h⟩

theorem closed_ : joinedFacts Try.prog 8 Try.f8 Rows.fnExactServiceTopSpec Rows.fnExactServiceTopRow = true :=
  joined_by mayEnter_ liftsFinal_ make_ (by kernel_rfl) laidOut_ mapsRowed_ (by kernel_rfl) (by kernel_rfl) rfl stops_ rfl stopKnobs_ (by kernel_rfl) (by kernel_rfl) (by kernel_rfl) (by kernel_rfl) (by kernel_rfl) (by kernel_rfl) (by kernel_rfl) (by kernel_rfl) (by kernel_rfl) (by kernel_rfl) rfl stopsHeard_ rfl rfl rfl (by kernel_rfl)
theorem over : Rows.fnExactServiceTopRow.holds Try.pinned (OpenSpec.ofChange Rows.fnExactServiceTopSpec) :=
  OpenClaim.holds_of_wide 8 Try.f8 rfl rfl rfl rfl rfl rfl rfl ⟨rfl, rfl, rfl, rfl, rfl⟩ rfl rfl rfl rfl rfl (by kernel_rfl) Try.func8 closed_
    (of_decide_eq_true (by kernel_rfl)) (by unfold Func.isWrapper; first | (rw [if_pos (by decide +kernel)]; kernel_rfl) | (rw [if_neg (by decide +kernel)]; exact ⟨rfl, rfl⟩))
    (fun os started H enc _ => lifted os started H enc)

theorem proved : Rows.FnExactServiceTopSaid := over
#print axioms proved
end Go.Proofs.Ytnfmlmkabioepaa.fnExactServiceTop

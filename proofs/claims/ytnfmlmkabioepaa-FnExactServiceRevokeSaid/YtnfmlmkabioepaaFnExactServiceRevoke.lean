/-
  FnExactServiceRevoke returns true for every service and all arguments, and nothing that was there is written. No condition.
-/
import Derived.Test.YtnfmlmkabioepaaFs
import Derived.Test.YtnfmlmkabioepaaTs
import Derived.Test.YtnfmlmkabioepaaEq
import Derived.Test.YtnfmlmkabioepaaMh
import Derived.Test.YtnfmlmkabioepaaRv
import Derived.Deep.RegionWith
namespace Go.Proofs.Ytnfmlmkabioepaa.fnExactServiceRevoke
open Go.RowKit Go.ChangeShapes Go.WideShapes Go.ChangeAt
set_option linter.unusedVariables false

set_option maxRecDepth 100000 in
set_option maxHeartbeats 8000000 in
theorem walk (t0 k_0 g0 : Sl) (S0 : Svc) (xs0 : List Row) (a1 : Int) (w : World) (w0 : RdSr w t0 k_0 g0 S0 xs0) (w1 : (Lit.int .i64 a1).wf = true) :
    Calls Try.prog 10 #[svV t0 k_0 g0, .int .i64 a1] w fun e w' => e = .returned (.bool true) ∧ Below w.heap.size w w' := by
  have HRR := Lib.hid w0
  clear w0
  go_enter Try.func10, Try.ntmps10
  have hw0 : Below w.heap.size w (w.alloc (.cells #[.slice t0.a t0.n t0.c, .slice k_0.a k_0.n k_0.c, .slice g0.a g0.n g0.c] 53)) := (Below.refl _ _).alloc (Nat.le_refl _) _
  have HW0 := Lib.hid hw0
  have kA0 := Blk.new w 53 #[.slice t0.a t0.n t0.c, .slice k_0.a k_0.n k_0.c, .slice g0.a g0.n g0.c]
  have HA0 := Lib.hid kA0
  clear hw0 kA0
  go_wp2_with fail
  refine (szService_any _ _ _ S0 xs0 _ _ (HRR.out.below HW0.out) (by omega) (by omega)).mono ?_
  rintro e w1 ⟨v, rfl, _, hv, hb1⟩
  have HB1 := Lib.hid (below_next HW0.out hb1)
  have HA1 := Lib.hid (HA0.out.next hb1)
  by_cases h0 : v < 0
  · clear hb1
    go_wp2_with fail
    go_ret
    exact ⟨rfl, HB1.out⟩
  · have HRS := Lib.hid ((hv (by omega)).below hb1)
    have cA1 := fun o => HA1.out.cell o
    clear hv hb1
    skip
    have HAB := HA1
    have HBW := Lib.hid (Below.refl w1.heap.size w1)
    have sw : w.heap.size < w1.heap.size := HAB.out.lt
    clear cA1 HA1
    have cA := fun o => HAB.out.cell o
    have zA := HAB.out.lt
    go_wp2_with fail
    clear cA zA
    refine (toService_any _ _ _ S0 _ (HRS.out.below HBW.out)).mono ?_
    rintro e w2 ⟨t2, k2, g2, rfl, hO2, hb⟩
    have s2 : w1.heap.size ≤ w2.heap.size := hb.size
    replace HAB := Lib.hid (HAB.out.next hb)
    replace HB1 := Lib.hid (below_next HB1.out hb)
    replace HBW := Lib.hid (below_next HBW.out hb)
    have hr2 := hO2.rd
    clear hO2
    clear hb
    have cA := fun o => HAB.out.cell o
    have zA := HAB.out.lt
    go_wp2_with fail
    clear cA zA
    refine (specServiceRevoke_any _ _ _ S0 a1 _ hr2).mono ?_
    rintro e w3 ⟨t3, k3, g3, rfl, hO3, hb⟩
    have s3 : w2.heap.size ≤ w3.heap.size := hb.size
    replace HAB := Lib.hid (HAB.out.next hb)
    replace HB1 := Lib.hid (below_next HB1.out hb)
    replace HBW := Lib.hid (below_next HBW.out hb)
    have ho3 := hO3
    clear hO3 hr2
    clear hb
    have hb : Below w3.heap.size w3 (w3.alloc (.cells #[.slice t3.a t3.n t3.c, .slice k3.a k3.n k3.c, .slice g3.a g3.n g3.c] 41)) := (Below.refl _ _).alloc (Nat.le_refl _) _
    replace HAB := Lib.hid (HAB.out.next hb)
    replace HB1 := Lib.hid (below_next HB1.out hb)
    replace HBW := Lib.hid (below_next HBW.out hb)
    have HWB := Lib.hid (Blk.new w3 41 #[.slice t3.a t3.n t3.c, .slice k3.a k3.n k3.c, .slice g3.a g3.n g3.c])
    have HWS := Lib.hid (ho3.next hb)
    clear ho3
    clear hb
    have cA := fun o => HAB.out.cell o
    have zA := HAB.out.lt
    have cW := fun o => HWB.out.cell o
    have zW := HWB.out.lt
    go_wp2_with fail
    clear cA zA cW zW
    refine (toService_any _ _ _ S0 _ (HRS.out.below HBW.out)).mono ?_
    rintro e w4 ⟨t4, k4, g4, rfl, hO4, hb⟩
    have s4 : w3.heap.size + 1 ≤ w4.heap.size := by simpa using hb.size
    replace HAB := Lib.hid (HAB.out.next hb)
    replace HWB := Lib.hid (HWB.out.next hb)
    replace HWS := Lib.hid (HWS.out.next hb)
    replace HB1 := Lib.hid (below_next HB1.out hb)
    replace HBW := Lib.hid (below_next HBW.out hb)
    have ho4 := hO4
    clear hO4
    clear hb
    have hb : Below w4.heap.size w4 (w4.alloc (.cells #[.slice t4.a t4.n t4.c, .slice k4.a k4.n k4.c, .slice g4.a g4.n g4.c] 41)) := (Below.refl _ _).alloc (Nat.le_refl _) _
    replace HAB := Lib.hid (HAB.out.next hb)
    replace HWB := Lib.hid (HWB.out.next hb)
    replace HWS := Lib.hid (HWS.out.next hb)
    replace HB1 := Lib.hid (below_next HB1.out hb)
    replace HBW := Lib.hid (below_next HBW.out hb)
    have HXB := Lib.hid (Blk.new w4 41 #[.slice t4.a t4.n t4.c, .slice k4.a k4.n k4.c, .slice g4.a g4.n g4.c])
    have HXS := Lib.hid (ho4.next hb)
    clear ho4
    clear hb
    have cA := fun o => HAB.out.cell o
    have zA := HAB.out.lt
    have cW := fun o => HWB.out.cell o
    have zW := HWB.out.lt
    have cX := fun o => HXB.out.cell o
    have zX := HXB.out.lt
    go_wp2_with fail
    clear cA zA cW zW cX zX
    refine (implServiceRevoke_any _ _ _ S0 a1 _ HXS.out.rd).mono ?_
    rintro e w5 ⟨t5, k5, g5, rfl, hO5, hb⟩
    have s5 : w4.heap.size + 1 ≤ w5.heap.size := by simpa using hb.size
    replace HAB := Lib.hid (HAB.out.next hb)
    replace HWB := Lib.hid (HWB.out.next hb)
    replace HXB := Lib.hid (HXB.out.next hb)
    replace HWS := Lib.hid (HWS.out.next hb)
    replace HXS := Lib.hid (HXS.out.next hb)
    replace HB1 := Lib.hid (below_next HB1.out hb)
    replace HBW := Lib.hid (below_next HBW.out hb)
    have ho5 := hO5
    clear hO5
    clear hb
    have hb : Below w5.heap.size w5 (w5.alloc (.cells #[.slice t5.a t5.n t5.c, .slice k5.a k5.n k5.c, .slice g5.a g5.n g5.c] 41)) := (Below.refl _ _).alloc (Nat.le_refl _) _
    replace HAB := Lib.hid (HAB.out.next hb)
    replace HWB := Lib.hid (HWB.out.next hb)
    replace HXB := Lib.hid (HXB.out.next hb)
    replace HWS := Lib.hid (HWS.out.next hb)
    replace HXS := Lib.hid (HXS.out.next hb)
    replace HB1 := Lib.hid (below_next HB1.out hb)
    replace HBW := Lib.hid (below_next HBW.out hb)
    have HGB := Lib.hid (Blk.new w5 41 #[.slice t5.a t5.n t5.c, .slice k5.a k5.n k5.c, .slice g5.a g5.n g5.c])
    have HGS := Lib.hid (ho5.next hb)
    clear ho5
    clear hb
    have cA := fun o => HAB.out.cell o
    have zA := HAB.out.lt
    have cW := fun o => HWB.out.cell o
    have zW := HWB.out.lt
    have cX := fun o => HXB.out.cell o
    have zX := HXB.out.lt
    have cG := fun o => HGB.out.cell o
    have zG := HGB.out.lt
    go_wp2_with fail
    clear cA zA cW zW cX zX cG zG
    refine (eqService_same _ _ _ _ _ _ (revS S0 a1).1 _ HGS.out.rd HWS.out.rd).mono ?_
    rintro e w6 ⟨rfl, hb⟩
    have s6 : w5.heap.size + 1 ≤ w6.heap.size := by simpa using hb.size
    replace HAB := Lib.hid (HAB.out.next hb)
    replace HWB := Lib.hid (HWB.out.next hb)
    replace HXB := Lib.hid (HXB.out.next hb)
    replace HGB := Lib.hid (HGB.out.next hb)
    replace HWS := Lib.hid (HWS.out.next hb)
    replace HXS := Lib.hid (HXS.out.next hb)
    replace HGS := Lib.hid (HGS.out.next hb)
    replace HB1 := Lib.hid (below_next HB1.out hb)
    replace HBW := Lib.hid (below_next HBW.out hb)
    clear hb
    have HRW := Lib.hid (HRS.out.below HBW.out)
    go_upto_region 10 with (fail)
    go_cut [49] (fun s wx => s = .bool false ∧ Hid (Below w6.heap.size w6 wx))
    case first =>
      have ca := fun o => HAB.out.cell o
      have cx := fun o => HXB.out.cell o
      have za := HAB.out.lt
      have zx := HXB.out.lt
      go_region_with (first
        | (go_at_call 33; refine (toService_any _ _ _ S0 _ (rds_drew HRW.out)).mono ?_; rintro e y1 ⟨t', k', g', rfl, hO1, hb1⟩; have hka := (HAB.out.drew).next hb1; have hkx := (HXB.out.drew).next hb1; have ca1 := fun o => hka.cell o; have cx1 := fun o => hkx.cell o; have hza := hka.lt; have hzx := hkx.lt; have HO1 := Lib.hid hO1; have HO2 := Lib.hid ((ows_drew HXS.out).next hb1); clear hO1 hka hkx)
        | (go_at_call 26; refine (eqService_same _ _ _ _ _ _ S0 _ HO2.out.rd HO1.out.rd).mono ?_; rintro e y2 ⟨rfl, hb2⟩))
      all_goals
        have HB2 : Hid (Below w6.heap.size w6 y2) := below_next (below_undrew hb1) hb2
        clear hb1 hb2
        go_wp2_with fail
        go_meet
        exact ⟨rfl, HB2.out⟩
    case rest =>
      obtain ⟨rfl, HBR⟩ := hcut
      skip
      replace HAB := Lib.hid (HAB.out.next HBR.out)
      replace HWB := Lib.hid (HWB.out.next HBR.out)
      replace HXB := Lib.hid (HXB.out.next HBR.out)
      replace HGB := Lib.hid (HGB.out.next HBR.out)
      replace HWS := Lib.hid (HWS.out.next HBR.out)
      replace HXS := Lib.hid (HXS.out.next HBR.out)
      replace HGS := Lib.hid (HGS.out.next HBR.out)
      replace HB1 := Lib.hid (below_next HB1.out HBR.out)
      replace HBW := Lib.hid (below_next HBW.out HBR.out)
      clear HRW HBR
      have zw := HWB.out.lt
      have zx := HXB.out.lt
      have zg := HGB.out.lt
      have cA := fun o => HAB.out.cell o
      have zA := HAB.out.lt
      have cW := fun o => HWB.out.cell o
      have zW := HWB.out.lt
      have cX := fun o => HXB.out.cell o
      have zX := HXB.out.lt
      have cG := fun o => HGB.out.cell o
      have zG := HGB.out.lt
      go_wp2_with fail
      clear cA zA cW zW cX zX cG zG
      refine (markS_any _ _ _ _ _ S0 1 _ HXS.out (by omega) (by omega) (by omega)).mono ?_
      rintro e w8 ⟨S', m, rfl, _, _, hf, hm0, hm1⟩
      clear HXS
      replace HAB := Lib.hid (HAB.out.frm hf (.inl (by first | omega | (simp <;> omega))))
      replace HWB := Lib.hid (HWB.out.frm hf (.inl (by first | omega | (simp <;> omega))))
      replace HXB := Lib.hid (HXB.out.frm hf (.inr (by first | omega | (simp <;> omega))))
      replace HGB := Lib.hid (HGB.out.frm hf (.inr (by first | omega | (simp <;> omega))))
      replace HWS := Lib.hid (HWS.out.frm hf (.inl (by first | omega | (simp <;> omega))))
      replace HGS := Lib.hid (HGS.out.frm hf (.inr (by simp)))
      replace HB1 := Lib.hid (HB1.out.trans (hf.below (by first | omega | (simp <;> omega)) (by have := HB1.out.size; omega)))
      replace HBW := Lib.hid (HBW.out.trans (hf.below (by first | omega | (simp <;> omega)) (by have := HBW.out.size; omega)))
      have q1 : ¬ m < 0 := by omega
      clear hf
      clear HXB
      have cA := fun o => HAB.out.cell o
      have zA := HAB.out.lt
      have cW := fun o => HWB.out.cell o
      have zW := HWB.out.lt
      have cG := fun o => HGB.out.cell o
      have zG := HGB.out.lt
      go_wp2_with fail
      clear cA zA cW zW cG zG
      refine (eqService_same _ _ _ _ _ _ (revS S0 a1).1 _ HGS.out.rd HWS.out.rd).mono ?_
      rintro e w9 ⟨rfl, hb⟩
      have s9 : w8.heap.size ≤ w9.heap.size := hb.size
      replace HAB := Lib.hid (HAB.out.next hb)
      replace HWB := Lib.hid (HWB.out.next hb)
      replace HGB := Lib.hid (HGB.out.next hb)
      replace HWS := Lib.hid (HWS.out.next hb)
      replace HGS := Lib.hid (HGS.out.next hb)
      replace HB1 := Lib.hid (below_next HB1.out hb)
      replace HBW := Lib.hid (below_next HBW.out hb)
      clear hb
      have zg2 := HGB.out.lt
      have cA := fun o => HAB.out.cell o
      have zA := HAB.out.lt
      have cW := fun o => HWB.out.cell o
      have zW := HWB.out.lt
      have cG := fun o => HGB.out.cell o
      have zG := HGB.out.lt
      go_wp2_with fail
      clear cA zA cW zW cG zG
      refine (markS_any _ _ _ _ _ _ 1 _ HGS.out (by omega) (by omega) (by omega)).mono ?_
      rintro e w10 ⟨S2, m2, rfl, hoG, hmk, hf, hn0, hn1⟩
      replace HAB := Lib.hid (HAB.out.frm hf (.inl (by first | omega | (simp <;> omega))))
      replace HWB := Lib.hid (HWB.out.frm hf (.inl (by first | omega | (simp <;> omega))))
      replace HGB := Lib.hid (HGB.out.frm hf (.inr (by first | omega | (simp <;> omega))))
      replace HWS := Lib.hid (HWS.out.frm hf (.inl (by first | omega | (simp <;> omega))))
      replace HB1 := Lib.hid (HB1.out.trans (hf.below (by first | omega | (simp <;> omega)) (by have := HB1.out.size; omega)))
      replace HBW := Lib.hid (HBW.out.trans (hf.below (by first | omega | (simp <;> omega)) (by have := HBW.out.size; omega)))
      clear HGS
      have HGS := Lib.hid hoG
      have HMK := Lib.hid hmk
      have q2 : ¬ m2 < 0 := by omega
      clear hf hoG hmk
      have cA := fun o => HAB.out.cell o
      have zA := HAB.out.lt
      have cW := fun o => HWB.out.cell o
      have zW := HWB.out.lt
      have cG := fun o => HGB.out.cell o
      have zG := HGB.out.lt
      go_wp2_with fail
      clear cA zA cW zW cG zG
      refine (heldS_any _ _ _ S2 1 m2 _ HGS.out.rd HMK.out (by omega) (by omega)).mono ?_
      rintro e w11 ⟨rfl, hb⟩
      have s11 : w10.heap.size ≤ w11.heap.size := hb.size
      replace HAB := Lib.hid (HAB.out.next hb)
      replace HWB := Lib.hid (HWB.out.next hb)
      replace HGB := Lib.hid (HGB.out.next hb)
      replace HWS := Lib.hid (HWS.out.next hb)
      replace HGS := Lib.hid (HGS.out.next hb)
      replace HB1 := Lib.hid (below_next HB1.out hb)
      replace HBW := Lib.hid (below_next HBW.out hb)
      clear hb
      have cA := fun o => HAB.out.cell o
      have zA := HAB.out.lt
      have cW := fun o => HWB.out.cell o
      have zW := HWB.out.lt
      have cG := fun o => HGB.out.cell o
      have zG := HGB.out.lt
      go_wp2_with fail
      clear cA zA cW zW cG zG
      refine (toService_any _ _ _ S0 _ (HRS.out.below HBW.out)).mono ?_
      rintro e w12 ⟨t12, k12, g12, rfl, hO12, hb⟩
      have s12 : w11.heap.size ≤ w12.heap.size := hb.size
      replace HAB := Lib.hid (HAB.out.next hb)
      replace HWB := Lib.hid (HWB.out.next hb)
      replace HGB := Lib.hid (HGB.out.next hb)
      replace HWS := Lib.hid (HWS.out.next hb)
      replace HGS := Lib.hid (HGS.out.next hb)
      replace HB1 := Lib.hid (below_next HB1.out hb)
      replace HBW := Lib.hid (below_next HBW.out hb)
      have hr12 := hO12.rd
      clear hO12
      clear hb
      have cA := fun o => HAB.out.cell o
      have zA := HAB.out.lt
      have cW := fun o => HWB.out.cell o
      have zW := HWB.out.lt
      have cG := fun o => HGB.out.cell o
      have zG := HGB.out.lt
      go_wp2_with fail
      clear cA zA cW zW cG zG
      refine (implServiceRevoke_any _ _ _ S0 a1 _ hr12).mono ?_
      rintro e w13 ⟨t13, k13, g13, rfl, hO13, hb⟩
      have s13 : w12.heap.size ≤ w13.heap.size := hb.size
      replace HAB := Lib.hid (HAB.out.next hb)
      replace HWB := Lib.hid (HWB.out.next hb)
      replace HGB := Lib.hid (HGB.out.next hb)
      replace HWS := Lib.hid (HWS.out.next hb)
      replace HGS := Lib.hid (HGS.out.next hb)
      replace HB1 := Lib.hid (below_next HB1.out hb)
      replace HBW := Lib.hid (below_next HBW.out hb)
      have ho13 := hO13
      clear hO13 hr12
      clear hb
      have hb : Below w13.heap.size w13 (w13.alloc (.cells #[.slice t13.a t13.n t13.c, .slice k13.a k13.n k13.c, .slice g13.a g13.n g13.c] 41)) := (Below.refl _ _).alloc (Nat.le_refl _) _
      replace HAB := Lib.hid (HAB.out.next hb)
      replace HWB := Lib.hid (HWB.out.next hb)
      replace HGB := Lib.hid (HGB.out.next hb)
      replace HWS := Lib.hid (HWS.out.next hb)
      replace HGS := Lib.hid (HGS.out.next hb)
      replace HB1 := Lib.hid (below_next HB1.out hb)
      replace HBW := Lib.hid (below_next HBW.out hb)
      have HHB := Lib.hid (Blk.new w13 41 #[.slice t13.a t13.n t13.c, .slice k13.a k13.n k13.c, .slice g13.a g13.n g13.c])
      have HHS := Lib.hid (ho13.next hb)
      clear ho13
      clear hb
      have cA := fun o => HAB.out.cell o
      have zA := HAB.out.lt
      have cW := fun o => HWB.out.cell o
      have zW := HWB.out.lt
      have cG := fun o => HGB.out.cell o
      have zG := HGB.out.lt
      have cH := fun o => HHB.out.cell o
      have zH := HHB.out.lt
      go_wp2_with fail
      clear cA zA cW zW cG zG cH zH
      refine (eqService_same _ _ _ _ _ _ (revS S0 a1).1 _ HHS.out.rd HWS.out.rd).mono ?_
      rintro e w14 ⟨rfl, hb⟩
      have s14 : w13.heap.size + 1 ≤ w14.heap.size := by simpa using hb.size
      replace HAB := Lib.hid (HAB.out.next hb)
      replace HWB := Lib.hid (HWB.out.next hb)
      replace HGB := Lib.hid (HGB.out.next hb)
      replace HHB := Lib.hid (HHB.out.next hb)
      replace HWS := Lib.hid (HWS.out.next hb)
      replace HGS := Lib.hid (HGS.out.next hb)
      replace HHS := Lib.hid (HHS.out.next hb)
      replace HB1 := Lib.hid (below_next HB1.out hb)
      replace HBW := Lib.hid (below_next HBW.out hb)
      clear hb
      have cA := fun o => HAB.out.cell o
      have zA := HAB.out.lt
      have cW := fun o => HWB.out.cell o
      have zW := HWB.out.lt
      have cG := fun o => HGB.out.cell o
      have zG := HGB.out.lt
      have cH := fun o => HHB.out.cell o
      have zH := HHB.out.lt
      go_wp2_with fail
      clear cA zA cW zW cG zG cH zH
      refine (heldS_any _ _ _ S2 1 m2 _ HGS.out.rd HMK.out (by omega) (by omega)).mono ?_
      rintro e w15 ⟨rfl, hb⟩
      have s15 : w14.heap.size ≤ w15.heap.size := hb.size
      replace HAB := Lib.hid (HAB.out.next hb)
      replace HWB := Lib.hid (HWB.out.next hb)
      replace HGB := Lib.hid (HGB.out.next hb)
      replace HHB := Lib.hid (HHB.out.next hb)
      replace HWS := Lib.hid (HWS.out.next hb)
      replace HGS := Lib.hid (HGS.out.next hb)
      replace HHS := Lib.hid (HHS.out.next hb)
      replace HB1 := Lib.hid (below_next HB1.out hb)
      replace HBW := Lib.hid (below_next HBW.out hb)
      clear hb
      go_wp2_with fail
      go_ret
      exact ⟨rfl, HB1.out⟩


set_option maxRecDepth 100000 in
theorem lifted (os : Os) (started : os.Started) (H : Type) (enc : TypeId × Value → H) :
    ReturnsInHanded {} Try.checked os 10 .any (Rows.fnExactServiceRevokeSpec.pre6 enc Try.prog Try.f10 Rows.fnExactServiceRevokeRow.domain false) (Rows.fnExactServiceRevokeSpec.post enc Try.prog Try.f10 false true false false) := by
  refine returnsInHanded_of_change (C := Try.checked) own_ started (by kernel_rfl) Try.func10
    (ChangeSpec.witness6 (enc := enc) (C := Try.checked) false ⟨#[], #[.agg #[.slice none 0 0, .slice none 0 0, .slice none 0 0], .int .i64 0], []⟩ 8 (by kernel_rfl) (by kernel_rfl) (by kernel_rfl) (by kernel_rfl)) ?_
  intro W base args ds gs before hval0 hW hcnd _
  have hval : ∀ (j : Nat) t v, Try.f10.params[j]? = some t → args[j]? = some v → Value.okWide Try.prog W .any base t v := hval0
  have hW' := hW
  obtain ⟨p, q, hA0, hV, rfl, hfz, hnd⟩ := hW
  have hA : DataW.TrodAll enc Try.prog W 0 (fun _ => true) true Try.f10.params.toList args.toList ds p := hA0
  rw [Try.params10] at hA hval
  obtain ⟨v0, vs0, d0, ds0, p0, q0, hargs, rfl, rfl, h0, r0⟩ := trodAll_cons hA
  obtain ⟨v1, vs1, d1, ds1, p1, q1, rfl, rfl, rfl, h1, r1⟩ := trodAll_cons r0
  obtain ⟨rfl, rfl, rfl⟩ := trodAll_nil r1
  obtain rfl : args = #[v0, v1] := by cases args; simp_all
  obtain ⟨rfl, rfl⟩ := trodVars_none hV
  have k0 := h0
  have lt0 : ∀ x ∈ p0, x.block < W.heap.size := by obtain ⟨m, hm⟩ := k0; exact DataW.trod_lt m _ _ _ hm
  obtain ⟨t0, k_0, g0, S0, xs0, rfl, w0⟩ := open_service (hval 0 53 v0 rfl rfl) h0
  obtain ⟨a1, rfl, rfl, rfl, w1⟩ := open_int Try.underlying3 (hval 1 3 v1 rfl rfl) h1
  clear hA0 hval0
  refine (walk t0 k_0 g0 S0 xs0 a1 W w0 w1).mono fun e W' ⟨he, bel⟩ => ?_
  subst he
  exact ⟨_, rfl, _, _, _, [], _, [], hW', trodAll_mk1 (shut_bool Try.underlying4 _), (trodAll_cons_mk (Below.trod laidOut_ (by kernel_rfl) (of_decide_eq_true (by kernel_rfl)) k0 bel lt0) (trodAll_cons_mk (shut_int Try.underlying3 w1) trodAll_mk0)), rfl, bel.frame _, fun h => by cases h⟩

theorem closed_ : joinedFacts Try.prog 10 Try.f10 Rows.fnExactServiceRevokeSpec Rows.fnExactServiceRevokeRow = true :=
  joined_by mayEnter_ liftsFinal_ make_ (by kernel_rfl) laidOut_ mapsRowed_ (by kernel_rfl) (by kernel_rfl) rfl stops_ rfl stopKnobs_ (by kernel_rfl) (by kernel_rfl) (by kernel_rfl) (by kernel_rfl) (by kernel_rfl) (by kernel_rfl) (by kernel_rfl) (by kernel_rfl) (by kernel_rfl) (by kernel_rfl) rfl stopsHeard_ rfl rfl rfl (by kernel_rfl)
theorem over : Rows.fnExactServiceRevokeRow.holds Try.pinned (OpenSpec.ofChange Rows.fnExactServiceRevokeSpec) :=
  OpenClaim.holds_of_wide 10 Try.f10 rfl rfl rfl rfl rfl rfl rfl ⟨rfl, rfl, rfl, rfl, rfl⟩ rfl rfl rfl rfl rfl (by kernel_rfl) Try.func10 closed_
    (of_decide_eq_true (by kernel_rfl)) (by unfold Func.isWrapper; first | (rw [if_pos (by decide +kernel)]; kernel_rfl) | (rw [if_neg (by decide +kernel)]; exact ⟨rfl, rfl⟩))
    (fun os started H enc _ => lifted os started H enc)

theorem proved : Rows.FnExactServiceRevokeSaid := over
#print axioms proved
end Go.Proofs.Ytnfmlmkabioepaa.fnExactServiceRevoke

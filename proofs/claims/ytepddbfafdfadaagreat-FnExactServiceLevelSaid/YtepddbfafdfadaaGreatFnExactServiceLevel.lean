/-
  FnExactServiceLevel returns true for every service and every level, and nothing that was there is written. No condition.
-/
import Derived.Test.YtepddbfafdfadaaGreatFs
import Derived.Test.YtepddbfafdfadaaGreatTs
import Derived.Test.YtepddbfafdfadaaGreatEq
import Derived.Test.YtepddbfafdfadaaGreatMh
import Derived.Test.YtepddbfafdfadaaGreatMl
import Derived.Test.YtepddbfafdfadaaGreatEl
import Derived.Test.YtepddbfafdfadaaGreatLv
import Derived.Test.YtepddbfafdfadaaGreatLu
import Derived.Deep.RegionWith
namespace Go.Proofs.YtepddbfafdfadaaGreat.fnExactServiceLevel
open Go.RowKit Go.ChangeShapes Go.WideShapes Go.ChangeAt
set_option linter.unusedVariables false

set_option maxRecDepth 100000 in
set_option maxHeartbeats 16000000 in
theorem walk (t0 k_0 g0 : Sl) (S0 : Svc) (xs0 : List Row) (l1 : Lvl) (ws1 gs1 : Sl) (w : World) (w0 : RdSr w t0 k_0 g0 S0 xs0) (w1 : RdLr w l1 ws1 gs1) :
    Calls Tryz.prog 3 #[svV t0 k_0 g0, lvlV l1 ws1 gs1] w fun e w' => e = .returned (.bool true) ∧ Below w.heap.size w w' := by
  have HRR := Lib.hid w0
  have HLL := Lib.hid w1
  clear w0 w1
  go_enter Tryz.func3, Tryz.ntmps3
  have hw0 : Below w.heap.size w ((w.alloc (.cells #[.slice t0.a t0.n t0.c, .slice k_0.a k_0.n k_0.c, .slice g0.a g0.n g0.c] 25)).alloc (.cells #[.int .i64 l1.id, .int .i64 l1.ticks, .int .i64 l1.sx, .int .i64 l1.sy, .slice ws1.a ws1.n ws1.c, .slice gs1.a gs1.n gs1.c, .int .i64 l1.f.1, .int .i64 l1.f.2.1, .int .i64 l1.f.2.2.1, .int .i64 l1.f.2.2.2, .int .i64 l1.bans] 32)) := by go_grown
  have HW0 := Lib.hid hw0
  have HA0 := Lib.hid ((Blk.new w 25 #[.slice t0.a t0.n t0.c, .slice k_0.a k_0.n k_0.c, .slice g0.a g0.n g0.c]).alloc (.cells #[.int .i64 l1.id, .int .i64 l1.ticks, .int .i64 l1.sx, .int .i64 l1.sy, .slice ws1.a ws1.n ws1.c, .slice gs1.a gs1.n gs1.c, .int .i64 l1.f.1, .int .i64 l1.f.2.1, .int .i64 l1.f.2.2.1, .int .i64 l1.f.2.2.2, .int .i64 l1.bans] 32))
  have HC0 := Lib.hid (Blk.newAt (w.alloc (.cells #[.slice t0.a t0.n t0.c, .slice k_0.a k_0.n k_0.c, .slice g0.a g0.n g0.c] 25)) 32 #[.int .i64 l1.id, .int .i64 l1.ticks, .int .i64 l1.sx, .int .i64 l1.sy, .slice ws1.a ws1.n ws1.c, .slice gs1.a gs1.n gs1.c, .int .i64 l1.f.1, .int .i64 l1.f.2.1, .int .i64 l1.f.2.2.1, .int .i64 l1.f.2.2.2, .int .i64 l1.bans] (w.heap.size + 1) (by simp))
  clear hw0
  go_wp2_with fail
  refine (szService_any _ _ _ S0 xs0 _ _ (HRR.out.below HW0.out) (by omega) (by omega)).mono ?_
  rintro e w1 ⟨v, rfl, hvl, hv, hb1⟩
  have HB1 := Lib.hid (below_next HW0.out hb1)
  have HA1 := Lib.hid (HA0.out.next hb1)
  have HC1 := Lib.hid (HC0.out.next hb1)
  by_cases h0 : v < 0
  · clear hb1
    go_wp2_with fail
    go_ret
    exact ⟨rfl, HB1.out⟩
  · have HRS := Lib.hid ((hv (by omega)).below hb1)
    have cC := fun o => HC1.out.cell o
    have hv0 : 0 ≤ v := by omega
    clear hv hb1
    go_wp2_with fail
    refine (szLevel_any l1 ws1 gs1 v _ (Nat.le_trans HLL.out.2.2.1.1 HLL.out.2.2.1.2) (Nat.le_trans HLL.out.2.2.2.1 HLL.out.2.2.2.2) hv0 (by omega)).mono ?_
    rintro e w2 ⟨u, rfl, hul, hu, hb2⟩
    have HB2 := Lib.hid (below_next HB1.out hb2)
    have HA2 := Lib.hid (HA1.out.next hb2)
    have HC2 := Lib.hid (HC1.out.next hb2)
    have HRS2 := Lib.hid (HRS.out.below hb2)
    by_cases h1 : u < 0
    · clear hb2
      go_wp2_with fail
      go_ret
      exact ⟨rfl, HB2.out⟩
    · have HRL2 := Lib.hid (RdLr.small (⟨HLL.out.1.below HB2.out, HLL.out.2.1.below HB2.out, HLL.out.2.2⟩ : RdLr w2 l1 ws1 gs1) (hu (by omega)))
      clear hu hb2
      go_upto_region 8 with (fail)
      generalize decide (v < 0) = bv
      generalize decide (u < 0) = bu
      clear cC
      go_cut [6, 7] (fun sa sb wx => ∃ (o : Nat) (t3 k3 g3 : Sl), sa = .pointer (some ⟨o, 0, none⟩) ∧ sb = .bool (levelS S0 l1).2 ∧ Hid (w2.heap.size ≤ o ∧ Below w2.heap.size w2 wx ∧ Blk wx o 37 #[.slice t3.a t3.n t3.c, .slice k3.a k3.n k3.c, .slice g3.a g3.n g3.c] ∧ OwS w2.heap.size wx.heap.size wx t3 k3 g3 (levelS S0 l1).1))
      case first =>
        refine wp_region_inv (by kernel_rfl) (by kernel_rfl) (fun listed a_ w' => ∃ (s28 s29 s30 s31 s32 s27 s33 s34 s6 s7 : Value) (tA kA gA aA bA tB kB gB : Sl) (oA : Nat), a_ = { tmps := #[svV t0 k_0 g0, lvlV l1 ws1 gs1, Value.pointer (some (⟨w.heap.size, 0, none⟩ : Addr)), Value.pointer (some (⟨w.heap.size + 1, 0, none⟩ : Addr)), Value.bool false, Value.int .i64 u, s6, s7, undef, undef, undef, undef, undef, undef, undef, undef, undef, Value.agg #[Value.slice t0.a t0.n t0.c, Value.slice k_0.a k_0.n k_0.c, Value.slice g0.a g0.n g0.c], Value.int .i64 1048576, Value.int .i64 v, Value.int .i64 v, Value.bool bv, Value.agg #[Value.int .i64 l1.id, Value.int .i64 l1.ticks, Value.int .i64 l1.sx, Value.int .i64 l1.sy, Value.slice ws1.a ws1.n ws1.c, Value.slice gs1.a gs1.n gs1.c, Value.int .i64 l1.f.1, Value.int .i64 l1.f.2.1, Value.int .i64 l1.f.2.2.1, Value.int .i64 l1.f.2.2.2, Value.int .i64 l1.bans], Value.int .i64 v, Value.int .i64 u, Value.int .i64 u, Value.bool bu, s27, s28, s29, s30, s31, s32, s33, s34, undef, undef, undef, undef, undef, undef, undef, undef, undef, undef, undef, undef, undef, undef, undef, undef, undef, undef, undef, undef, undef, undef, undef, undef, undef, undef, undef, undef, undef, undef, undef, undef, undef, undef, undef, undef, undef, undef, undef, undef, undef, undef, undef, undef, undef, undef, undef, undef, undef, undef, undef, undef, undef, undef, undef, undef, undef, undef, undef, undef, undef, undef, undef, undef, undef, undef, undef, undef, undef, undef, undef, undef, undef, undef, undef, undef, undef, undef, undef, undef, undef, undef, undef, undef], defers := [] } ∧ EL t0 k_0 g0 S0 l1 ws1 gs1 (levelS S0 l1) w2 (Dl listed) s28 s29 s30 s31 s32 s27 s33 s34 s6 s7 tA kA gA aA bA tB kB gB oA w') ?_ ?_ ?_
        · refine ⟨_, _, _, _, _, _, _, _, _, _, ⟨none, 0, 0⟩, ⟨none, 0, 0⟩, ⟨none, 0, 0⟩, ⟨none, 0, 0⟩, ⟨none, 0, 0⟩, ⟨none, 0, 0⟩, ⟨none, 0, 0⟩, ⟨none, 0, 0⟩, 0, rfl, { bel := ?_, f0 := ?_, f1 := ?_, f2 := ?_, f3 := ?_, f4 := ?_, f5 := ?_, f6 := ?_, f7 := ?_, f8 := ?_, f9 := ?_, f10 := ?_ }⟩
          · exact ⟨rfl, rfl, rfl, Nat.le_refl _, fun _ _ => rfl⟩
          all_goals (intro q'; cases q')
        · intro listed a_ w' j o_ hs ho hl hd hR K hK
          obtain ⟨s28, s29, s30, s31, s32, s27, s33, s34, s6, s7, tA, kA, gA, aA, bA, tB, kB, gB, oA, rfl, hc⟩ := hR
          have hltj : j < 11 := (Array.getElem?_eq_some_iff.1 ho).1
          rcases cases11 hltj with rfl | rfl | rfl | rfl | rfl | rfl | rfl | rfl | rfl | rfl | rfl
          · cases (show some _ = some o_ from ho)
            have c0 := (HA2.out.next hc.bel).cell 0
            have c1 := (HA2.out.next hc.bel).cell 1
            have c2 := (HA2.out.next hc.bel).cell 2
            go_simp
            exact hK _ _ ⟨_, s29, s30, s31, s32, s27, s33, s34, s6, s7, tA, kA, gA, aA, bA, tB, kB, gB, oA, rfl, by rw [Dl_set (by rw [hs]; decide)]; exact hc.u0 hl⟩
          · cases (show some _ = some o_ from ho)
            obtain rfl := hc.f0 (dep_ hs (by decide) (hd ⟨0, .data⟩ (by simp) rfl))
            go_simp
            go_at_call 15
            refine (toService_any _ _ _ S0 _ (HRS2.out.below hc.bel)).mono ?_
            rintro e y1 ⟨t2, k2, g2, rfl, hO2, hb1⟩
            exact hK _ _ ⟨_, _, s30, s31, s32, s27, s33, s34, s6, s7, t2, k2, g2, aA, bA, tB, kB, gB, oA, rfl, by rw [Dl_set (by rw [hs]; decide)]; exact (hc.next hb1).u1 hl t2 k2 g2 hO2.rd⟩
          · cases (show some _ = some o_ from ho)
            have c0 := (HC2.out.next hc.bel).cell 0
            have c1 := (HC2.out.next hc.bel).cell 1
            have c2 := (HC2.out.next hc.bel).cell 2
            have c3 := (HC2.out.next hc.bel).cell 3
            have c4 := (HC2.out.next hc.bel).cell 4
            have c5 := (HC2.out.next hc.bel).cell 5
            have c6 := (HC2.out.next hc.bel).cell 6
            have c7 := (HC2.out.next hc.bel).cell 7
            have c8 := (HC2.out.next hc.bel).cell 8
            have c9 := (HC2.out.next hc.bel).cell 9
            have c10 := (HC2.out.next hc.bel).cell 10
            go_simp
            exact hK _ _ ⟨s28, s29, _, s31, s32, s27, s33, s34, s6, s7, tA, kA, gA, aA, bA, tB, kB, gB, oA, rfl, by rw [Dl_set (by rw [hs]; decide)]; exact hc.u2 hl⟩
          · cases (show some _ = some o_ from ho)
            obtain rfl := hc.f2 (dep_ hs (by decide) (hd ⟨2, .data⟩ (by simp) rfl))
            go_simp
            go_at_call 16
            refine (toLevel_any l1 ws1 gs1 _ (HRL2.out.below hc.bel)).mono ?_
            rintro e y1 ⟨a2, b2, rfl, hO2, _, hb1⟩
            exact hK _ _ ⟨s28, s29, _, _, s32, s27, s33, s34, s6, s7, tA, kA, gA, a2, b2, tB, kB, gB, oA, rfl, by rw [Dl_set (by rw [hs]; decide)]; exact (hc.next hb1).u3 hl a2 b2 hO2.rd⟩
          · cases (show some _ = some o_ from ho)
            obtain ⟨rfl, hr1⟩ := hc.f1 (dep_ hs (by decide) (hd ⟨1, .data⟩ (by simp) rfl))
            obtain ⟨rfl, hr3⟩ := hc.f3 (dep_ hs (by decide) (hd ⟨3, .data⟩ (by simp) rfl))
            go_simp
            refine (specServiceLevel_any _ _ _ S0 l1 _ _ _ (hr1 hl) (hr3 hl)).mono ?_
            rintro e y1 ⟨t4, k4, g4, rfl, hO4, hb1⟩
            have hz4 := hc.bel.size
            exact hK _ _ ⟨s28, _, s30, _, _, s27, s33, s34, s6, s7, tA, kA, gA, aA, bA, t4, k4, g4, oA, rfl, by rw [Dl_set (by rw [hs]; decide)]; exact (hc.next hb1).u4 hl t4 k4 g4 (hO4.mono hz4 (Nat.le_refl _))⟩
          · cases (show some _ = some o_ from ho)
            have d4 := (dep_ hs (by decide) (hd ⟨4, .data⟩ (by simp) rfl))
            obtain ⟨rfl, _⟩ := hc.f4 d4
            go_simp
            exact hK _ _ ⟨s28, s29, s30, s31, _, _, s33, s34, s6, s7, tA, kA, gA, aA, bA, tB, kB, gB, oA, rfl, by rw [Dl_set (by rw [hs]; decide)]; exact hc.u5 hl d4⟩
          · cases (show some _ = some o_ from ho)
            obtain ⟨d4, rfl⟩ := hc.f5 (dep_ hs (by decide) (hd ⟨5, .data⟩ (by simp) rfl))
            go_simp
            exact hK _ _ ⟨s28, s29, s30, s31, s32, _, _, s34, s6, s7, tA, kA, gA, aA, bA, tB, kB, gB, oA, rfl, by rw [Dl_set (by rw [hs]; decide)]; exact hc.u6 hl d4⟩
          · cases (show some _ = some o_ from ho)
            obtain ⟨d4, rfl⟩ := hc.f5 (dep_ hs (by decide) (hd ⟨5, .data⟩ (by simp) rfl))
            go_simp
            exact hK _ _ ⟨s28, s29, s30, s31, s32, _, s33, _, s6, s7, tA, kA, gA, aA, bA, tB, kB, gB, oA, rfl, by rw [Dl_set (by rw [hs]; decide)]; exact hc.u7 hl⟩
          · cases (show some _ = some o_ from ho)
            go_simp
            exact hK _ _ ⟨s28, s29, s30, s31, s32, s27, s33, s34, _, s7, tA, kA, gA, aA, bA, tB, kB, gB, _, rfl, by rw [Dl_set (by rw [hs]; decide)]; exact (hc.next (ba (Below.refl _ _))).u8 hl _ hc.bel.size (Blk.new _ _ _)⟩
          · cases (show some _ = some o_ from ho)
            have d8 := (dep_ hs (by decide) (hd ⟨8, .data⟩ (by simp) rfl))
            obtain ⟨d4, rfl⟩ := hc.f6 (dep_ hs (by decide) (hd ⟨6, .data⟩ (by simp) rfl))
            obtain ⟨rfl, ho1, ho2⟩ := hc.f8 d8
            have ho3 := ho2 hl
            obtain ⟨rfl, hO⟩ := hc.f4 d4
            have cz := fun q => ho3.cell q
            have fz := fun q => ho3.frozen q
            go_simp
            refine hK _ _ ⟨s28, s29, s30, s31, _, s27, _, s34, _, s7, tA, kA, gA, aA, bA, tB, kB, gB, oA, rfl, ?_⟩
            rw [Dl_set (by rw [hs]; decide)]
            refine hc.u9 hl d4 d8 ?_ (((hO.apartS ho3 ?_)).mono (Nat.le_refl _) (by simp)) (((ho3.set_ 0 _).set_ 1 _).set_ 2 _)
            · iterate 3 (refine Below.setCell ?_ ho1 _)
              exact hc.bel
            · rw [ownB_some (by decide)]
              exact Only.set_ (Only.set_ (Only.set_ (Only.refl oA _) (.inl rfl) _) (.inl rfl) _) (.inl rfl) _
          · cases (show some _ = some o_ from ho)
            obtain rfl := hc.f7 (dep_ hs (by decide) (hd ⟨7, .data⟩ (by simp) rfl))
            go_simp
            exact hK _ _ ⟨s28, s29, s30, s31, s32, s27, s33, _, s6, _, tA, kA, gA, aA, bA, tB, kB, gB, oA, rfl, by rw [Dl_set (by rw [hs]; decide)]; exact hc.u10 hl⟩
        · intro listed a_ w' hall hR
          obtain ⟨s28, s29, s30, s31, s32, s27, s33, s34, s6, s7, tA, kA, gA, aA, bA, tB, kB, gB, oA, rfl, hc⟩ := hR
          obtain ⟨d4, d8, hk⟩ := hc.f9 (hall 9 (by decide))
          obtain ⟨rfl, hO⟩ := hc.f4 d4
          obtain ⟨rfl, ho1, _⟩ := hc.f8 d8
          obtain rfl := hc.f10 (hall 10 (by decide))
          have HH := Lib.hid (And.intro ho1 (And.intro hc.bel (And.intro hk hO)))
          clear hk hO hc hall
          go_wp2_with fail
          go_meet
          exact ⟨oA, tB, kB, gB, rfl, rfl, HH.out⟩
      case rest =>
        obtain ⟨oW, t3, k3, g3, rfl, rfl, HW⟩ := hcut
        have HAB := Lib.hid (HA2.out.next HW.out.2.1)
        have HCB := Lib.hid (HC2.out.next HW.out.2.1)
        have sw2 : w.heap.size + 1 < w2.heap.size := HC2.out.lt
        have HBW := Lib.hid HW.out.2.1
        replace HB2 := Lib.hid (below_next HB2.out HW.out.2.1)
        have HWB := Lib.hid HW.out.2.2.1
        have HWS := Lib.hid HW.out.2.2.2
        have ow1 := HW.out.1
        have ow2 := HW.out.2.2.1.lt
        have swa := HW.out.2.1.size
        clear HA2 HC2 HW
        have cA := fun o => HAB.out.cell o
        have zA := HAB.out.lt
        have cC := fun o => HCB.out.cell o
        have zC := HCB.out.lt
        have cW := fun o => HWB.out.cell o
        have zW := HWB.out.lt
        go_wp2_with fail
        clear cA zA cC zC cW zW
        refine (toService_any _ _ _ S0 _ (HRS2.out.below HBW.out)).mono ?_
        rintro e w4 ⟨t4, k4, g4, rfl, hO4, hb⟩
        have s4 : wc.heap.size ≤ w4.heap.size := hb.size
        replace HAB := Lib.hid (HAB.out.next hb)
        replace HCB := Lib.hid (HCB.out.next hb)
        replace HWB := Lib.hid (HWB.out.next hb)
        replace HWS := Lib.hid (HWS.out.next hb)
        replace HB2 := Lib.hid (below_next HB2.out hb)
        replace HBW := Lib.hid (below_next HBW.out hb)
        have ho4 := hO4
        clear hO4
        clear hb
        have hb : Below w4.heap.size w4 (w4.alloc (.cells #[.slice t4.a t4.n t4.c, .slice k4.a k4.n k4.c, .slice g4.a g4.n g4.c] 37)) := (Below.refl _ _).alloc (Nat.le_refl _) _
        replace HAB := Lib.hid (HAB.out.next hb)
        replace HCB := Lib.hid (HCB.out.next hb)
        replace HWB := Lib.hid (HWB.out.next hb)
        replace HWS := Lib.hid (HWS.out.next hb)
        replace HB2 := Lib.hid (below_next HB2.out hb)
        replace HBW := Lib.hid (below_next HBW.out hb)
        have HXB := Lib.hid (Blk.new w4 37 #[.slice t4.a t4.n t4.c, .slice k4.a k4.n k4.c, .slice g4.a g4.n g4.c])
        have HXS := Lib.hid (ho4.next hb)
        clear ho4
        clear hb
        have cA := fun o => HAB.out.cell o
        have zA := HAB.out.lt
        have cC := fun o => HCB.out.cell o
        have zC := HCB.out.lt
        have cW := fun o => HWB.out.cell o
        have zW := HWB.out.lt
        have cX := fun o => HXB.out.cell o
        have zX := HXB.out.lt
        go_wp2_with fail
        clear cA zA cC zC cW zW cX zX
        refine (toLevel_any l1 ws1 gs1 _ (HRL2.out.below HBW.out)).mono ?_
        rintro e w5 ⟨a5, b5, rfl, hO5, hn5, hb⟩
        have s5 : w4.heap.size + 1 ≤ w5.heap.size := by simpa using hb.size
        replace HAB := Lib.hid (HAB.out.next hb)
        replace HCB := Lib.hid (HCB.out.next hb)
        replace HWB := Lib.hid (HWB.out.next hb)
        replace HXB := Lib.hid (HXB.out.next hb)
        replace HWS := Lib.hid (HWS.out.next hb)
        replace HXS := Lib.hid (HXS.out.next hb)
        replace HB2 := Lib.hid (below_next HB2.out hb)
        replace HBW := Lib.hid (below_next HBW.out hb)
        have ho5 := hO5
        have HN5 := Lib.hid hn5
        clear hO5 hn5
        clear hb
        have hb : Below w5.heap.size w5 (w5.alloc (.cells #[.int .i64 l1.id, .int .i64 l1.ticks, .int .i64 l1.sx, .int .i64 l1.sy, .slice a5.a a5.n a5.c, .slice b5.a b5.n b5.c, .int .i64 l1.f.1, .int .i64 l1.f.2.1, .int .i64 l1.f.2.2.1, .int .i64 l1.f.2.2.2, .int .i64 l1.bans] 46)) := (Below.refl _ _).alloc (Nat.le_refl _) _
        replace HAB := Lib.hid (HAB.out.next hb)
        replace HCB := Lib.hid (HCB.out.next hb)
        replace HWB := Lib.hid (HWB.out.next hb)
        replace HXB := Lib.hid (HXB.out.next hb)
        replace HWS := Lib.hid (HWS.out.next hb)
        replace HXS := Lib.hid (HXS.out.next hb)
        replace HB2 := Lib.hid (below_next HB2.out hb)
        replace HBW := Lib.hid (below_next HBW.out hb)
        have HYB := Lib.hid (Blk.new w5 46 #[.int .i64 l1.id, .int .i64 l1.ticks, .int .i64 l1.sx, .int .i64 l1.sy, .slice a5.a a5.n a5.c, .slice b5.a b5.n b5.c, .int .i64 l1.f.1, .int .i64 l1.f.2.1, .int .i64 l1.f.2.2.1, .int .i64 l1.f.2.2.2, .int .i64 l1.bans])
        have HYS := Lib.hid (ho5.next hb)
        clear ho5
        clear hb
        have cA := fun o => HAB.out.cell o
        have zA := HAB.out.lt
        have cC := fun o => HCB.out.cell o
        have zC := HCB.out.lt
        have cW := fun o => HWB.out.cell o
        have zW := HWB.out.lt
        have cX := fun o => HXB.out.cell o
        have zX := HXB.out.lt
        have cY := fun o => HYB.out.cell o
        have zY := HYB.out.lt
        go_wp2_with fail
        clear cA zA cC zC cW zW cX zX cY zY
        refine (implServiceLevel_any _ _ _ S0 l1 _ _ _ HXS.out.rd HYS.out.rd).mono ?_
        rintro e w6 ⟨t6, k6, g6, rfl, hO6, hb⟩
        have s6 : w5.heap.size + 1 ≤ w6.heap.size := by simpa using hb.size
        replace HAB := Lib.hid (HAB.out.next hb)
        replace HCB := Lib.hid (HCB.out.next hb)
        replace HWB := Lib.hid (HWB.out.next hb)
        replace HXB := Lib.hid (HXB.out.next hb)
        replace HYB := Lib.hid (HYB.out.next hb)
        replace HWS := Lib.hid (HWS.out.next hb)
        replace HXS := Lib.hid (HXS.out.next hb)
        replace HYS := Lib.hid (HYS.out.next hb)
        replace HB2 := Lib.hid (below_next HB2.out hb)
        replace HBW := Lib.hid (below_next HBW.out hb)
        have ho6 := hO6
        clear hO6
        clear hb
        have hb : Below w6.heap.size w6 (w6.alloc (.cells #[.slice t6.a t6.n t6.c, .slice k6.a k6.n k6.c, .slice g6.a g6.n g6.c] 37)) := (Below.refl _ _).alloc (Nat.le_refl _) _
        replace HAB := Lib.hid (HAB.out.next hb)
        replace HCB := Lib.hid (HCB.out.next hb)
        replace HWB := Lib.hid (HWB.out.next hb)
        replace HXB := Lib.hid (HXB.out.next hb)
        replace HYB := Lib.hid (HYB.out.next hb)
        replace HWS := Lib.hid (HWS.out.next hb)
        replace HXS := Lib.hid (HXS.out.next hb)
        replace HYS := Lib.hid (HYS.out.next hb)
        replace HB2 := Lib.hid (below_next HB2.out hb)
        replace HBW := Lib.hid (below_next HBW.out hb)
        have HGB := Lib.hid (Blk.new w6 37 #[.slice t6.a t6.n t6.c, .slice k6.a k6.n k6.c, .slice g6.a g6.n g6.c])
        have HGS := Lib.hid (ho6.next hb)
        clear ho6
        clear hb
        have cA := fun o => HAB.out.cell o
        have zA := HAB.out.lt
        have cC := fun o => HCB.out.cell o
        have zC := HCB.out.lt
        have cW := fun o => HWB.out.cell o
        have zW := HWB.out.lt
        have cX := fun o => HXB.out.cell o
        have zX := HXB.out.lt
        have cY := fun o => HYB.out.cell o
        have zY := HYB.out.lt
        have cG := fun o => HGB.out.cell o
        have zG := HGB.out.lt
        go_wp2_with fail
        clear cA zA cC zC cW zW cX zX cY zY cG zG
        refine (eqService_same _ _ _ _ _ _ (levelS S0 l1).1 _ HGS.out.rd HWS.out.rd).mono ?_
        rintro e w7 ⟨rfl, hb⟩
        have s7 : w6.heap.size + 1 ≤ w7.heap.size := by simpa using hb.size
        replace HAB := Lib.hid (HAB.out.next hb)
        replace HCB := Lib.hid (HCB.out.next hb)
        replace HWB := Lib.hid (HWB.out.next hb)
        replace HXB := Lib.hid (HXB.out.next hb)
        replace HYB := Lib.hid (HYB.out.next hb)
        replace HGB := Lib.hid (HGB.out.next hb)
        replace HWS := Lib.hid (HWS.out.next hb)
        replace HXS := Lib.hid (HXS.out.next hb)
        replace HYS := Lib.hid (HYS.out.next hb)
        replace HGS := Lib.hid (HGS.out.next hb)
        replace HB2 := Lib.hid (below_next HB2.out hb)
        replace HBW := Lib.hid (below_next HBW.out hb)
        clear hb
        have HRW := Lib.hid (HRS2.out.below HBW.out)
        go_upto_region 14 with (fail)
        go_cut [58] (fun s wx => s = .bool false ∧ Hid (Below w7.heap.size w7 wx))
        case first =>
          have ca := fun o => HAB.out.cell o
          have cx := fun o => HXB.out.cell o
          have za := HAB.out.lt
          have zx := HXB.out.lt
          go_region_with (first
            | (go_at_call 15; refine (toService_any _ _ _ S0 _ (rds_drew HRW.out)).mono ?_; rintro e y1 ⟨t', k', g', rfl, hO1, hb1⟩; have hka := (HAB.out.drew).next hb1; have hkx := (HXB.out.drew).next hb1; have ca1 := fun o => hka.cell o; have cx1 := fun o => hkx.cell o; have hza := hka.lt; have hzx := hkx.lt; have HO1 := Lib.hid hO1; have HO2 := Lib.hid ((ows_drew HXS.out).next hb1); clear hO1 hka hkx)
            | (go_at_call 18; refine (eqService_same _ _ _ _ _ _ S0 _ HO2.out.rd HO1.out.rd).mono ?_; rintro e y2 ⟨rfl, hb2⟩))
          all_goals
            have HB2 : Hid (Below w7.heap.size w7 y2) := below_next (below_undrew hb1) hb2
            clear hb1 hb2
            go_wp2_with fail
            go_meet
            exact ⟨rfl, HB2.out⟩
        case rest =>
          obtain ⟨rfl, HBR⟩ := hcut
          skip
          replace HAB := Lib.hid (HAB.out.next HBR.out)
          replace HCB := Lib.hid (HCB.out.next HBR.out)
          replace HWB := Lib.hid (HWB.out.next HBR.out)
          replace HXB := Lib.hid (HXB.out.next HBR.out)
          replace HYB := Lib.hid (HYB.out.next HBR.out)
          replace HGB := Lib.hid (HGB.out.next HBR.out)
          replace HWS := Lib.hid (HWS.out.next HBR.out)
          replace HXS := Lib.hid (HXS.out.next HBR.out)
          replace HYS := Lib.hid (HYS.out.next HBR.out)
          replace HGS := Lib.hid (HGS.out.next HBR.out)
          replace HB2 := Lib.hid (below_next HB2.out HBR.out)
          replace HBW := Lib.hid (below_next HBW.out HBR.out)
          have sb7 := HBR.out.size
          clear HRW HBR
          have HRV := Lib.hid (HRL2.out.below HBW.out)
          go_upto_region 16 with (fail)
          go_cut [63] (fun s wx => s = .bool false ∧ Hid (Below wc.heap.size wc wx))
          case first =>
            have ca := fun o => HCB.out.cell o
            have cx := fun o => HYB.out.cell o
            have za := HCB.out.lt
            have zx := HYB.out.lt
            go_region_with (first
              | (go_at_call 16; refine (toLevel_any l1 ws1 gs1 _ (show RdL wc.drew l1 ws1 gs1 from HRV.out)).mono ?_; rintro e y1 ⟨a', b', rfl, hO1, _, hb1⟩; have hka := (HCB.out.drew).next hb1; have hkx := (HYB.out.drew).next hb1; have ca1 := fun o => hka.cell o; have cx1 := fun o => hkx.cell o; have hza := hka.lt; have hzx := hkx.lt; have HO1 := Lib.hid hO1; have HO2 := Lib.hid (HYS.out.rd.below (below_undrew hb1)); clear hO1 hka hkx)
              | (go_at_call 19; refine (eqLevel_same l1 _ _ _ _ _ HO2.out HO1.out.rd).mono ?_; rintro e y2 ⟨rfl, hb2⟩))
            all_goals
              have HB2 : Hid (Below wc.heap.size wc y2) := below_next (below_undrew hb1) hb2
              clear hb1 hb2
              go_wp2_with fail
              go_meet
              exact ⟨rfl, HB2.out⟩
          case rest =>
            obtain ⟨rfl, HBR⟩ := hcut
            replace HAB := Lib.hid (HAB.out.next HBR.out)
            replace HCB := Lib.hid (HCB.out.next HBR.out)
            replace HWB := Lib.hid (HWB.out.next HBR.out)
            replace HXB := Lib.hid (HXB.out.next HBR.out)
            replace HYB := Lib.hid (HYB.out.next HBR.out)
            replace HGB := Lib.hid (HGB.out.next HBR.out)
            replace HWS := Lib.hid (HWS.out.next HBR.out)
            replace HXS := Lib.hid (HXS.out.next HBR.out)
            replace HYS := Lib.hid (HYS.out.next HBR.out)
            replace HGS := Lib.hid (HGS.out.next HBR.out)
            replace HB2 := Lib.hid (below_next HB2.out HBR.out)
            replace HBW := Lib.hid (below_next HBW.out HBR.out)
            clear HRV HBR
            have zw := HWB.out.lt
            have zx := HXB.out.lt
            have zy := HYB.out.lt
            have zg := HGB.out.lt
            have cA := fun o => HAB.out.cell o
            have zA := HAB.out.lt
            have cC := fun o => HCB.out.cell o
            have zC := HCB.out.lt
            have cW := fun o => HWB.out.cell o
            have zW := HWB.out.lt
            have cX := fun o => HXB.out.cell o
            have zX := HXB.out.lt
            have cY := fun o => HYB.out.cell o
            have zY := HYB.out.lt
            have cG := fun o => HGB.out.cell o
            have zG := HGB.out.lt
            go_wp2_with fail
            clear cA zA cC zC cW zW cX zX cY zY cG zG
            refine (markS_any _ _ _ _ _ S0 1 _ HXS.out (by omega) (by omega) (by omega)).mono ?_
            rintro e w8 ⟨S', m, rfl, _, _, hf, hm0, hm1⟩
            clear HXS
            replace HAB := Lib.hid (HAB.out.frm hf (.inl (by first | omega | (simp <;> omega))))
            replace HCB := Lib.hid (HCB.out.frm hf (.inl (by first | omega | (simp <;> omega))))
            replace HWB := Lib.hid (HWB.out.frm hf (.inl (by first | omega | (simp <;> omega))))
            replace HXB := Lib.hid (HXB.out.frm hf (.inr (by first | omega | (simp <;> omega))))
            replace HYB := Lib.hid (HYB.out.frm hf (.inr (by first | omega | (simp <;> omega))))
            replace HGB := Lib.hid (HGB.out.frm hf (.inr (by first | omega | (simp <;> omega))))
            replace HWS := Lib.hid (HWS.out.frm hf (.inl (by first | omega | (simp <;> omega))))
            replace HYS := Lib.hid (HYS.out.frm hf (.inr (by first | omega | (simp <;> omega))))
            replace HGS := Lib.hid (HGS.out.frm hf (.inr (by first | omega | (simp <;> omega))))
            replace HB2 := Lib.hid (HB2.out.trans (hf.below (by first | omega | (simp <;> omega)) (by have := HB2.out.size; omega)))
            replace HBW := Lib.hid (HBW.out.trans (hf.below (by first | omega | (simp <;> omega)) (by have := HBW.out.size; omega)))
            clear hf
            clear HXB
            have cA := fun o => HAB.out.cell o
            have zA := HAB.out.lt
            have cC := fun o => HCB.out.cell o
            have zC := HCB.out.lt
            have cW := fun o => HWB.out.cell o
            have zW := HWB.out.lt
            have cY := fun o => HYB.out.cell o
            have zY := HYB.out.lt
            have cG := fun o => HGB.out.cell o
            have zG := HGB.out.lt
            go_wp2_with fail
            clear cA zA cC zC cW zW cY zY cG zG
            refine (markLevel_any _ _ l1 _ _ m _ HYS.out HN5.out (by omega) (by omega)).mono ?_
            rintro e w9 ⟨m', rfl, hf, hm2, hm3⟩
            clear HYS HN5
            replace HAB := Lib.hid (HAB.out.frm hf (.inl (by first | omega | (simp <;> omega))))
            replace HCB := Lib.hid (HCB.out.frm hf (.inl (by first | omega | (simp <;> omega))))
            replace HWB := Lib.hid (HWB.out.frm hf (.inl (by first | omega | (simp <;> omega))))
            replace HYB := Lib.hid (HYB.out.frm hf (.inr (by first | omega | (simp <;> omega))))
            replace HGB := Lib.hid (HGB.out.frm hf (.inr (by first | omega | (simp <;> omega))))
            replace HWS := Lib.hid (HWS.out.frm hf (.inl (by first | omega | (simp <;> omega))))
            replace HGS := Lib.hid (HGS.out.frm hf (.inr (by first | omega | (simp <;> omega))))
            replace HB2 := Lib.hid (HB2.out.trans (hf.below (by first | omega | (simp <;> omega)) (by have := HB2.out.size; omega)))
            replace HBW := Lib.hid (HBW.out.trans (hf.below (by first | omega | (simp <;> omega)) (by have := HBW.out.size; omega)))
            have q1 : ¬ m' < 0 := by omega
            clear hf
            clear HYB
            have cA := fun o => HAB.out.cell o
            have zA := HAB.out.lt
            have cC := fun o => HCB.out.cell o
            have zC := HCB.out.lt
            have cW := fun o => HWB.out.cell o
            have zW := HWB.out.lt
            have cG := fun o => HGB.out.cell o
            have zG := HGB.out.lt
            go_wp2_with fail
            clear cA zA cC zC cW zW cG zG
            refine (eqService_same _ _ _ _ _ _ (levelS S0 l1).1 _ HGS.out.rd HWS.out.rd).mono ?_
            rintro e w10 ⟨rfl, hb⟩
            have s10 : w9.heap.size ≤ w10.heap.size := hb.size
            replace HAB := Lib.hid (HAB.out.next hb)
            replace HCB := Lib.hid (HCB.out.next hb)
            replace HWB := Lib.hid (HWB.out.next hb)
            replace HGB := Lib.hid (HGB.out.next hb)
            replace HWS := Lib.hid (HWS.out.next hb)
            replace HGS := Lib.hid (HGS.out.next hb)
            replace HB2 := Lib.hid (below_next HB2.out hb)
            replace HBW := Lib.hid (below_next HBW.out hb)
            clear hb
            have zg2 := HGB.out.lt
            have cA := fun o => HAB.out.cell o
            have zA := HAB.out.lt
            have cC := fun o => HCB.out.cell o
            have zC := HCB.out.lt
            have cW := fun o => HWB.out.cell o
            have zW := HWB.out.lt
            have cG := fun o => HGB.out.cell o
            have zG := HGB.out.lt
            go_wp2_with fail
            clear cA zA cC zC cW zW cG zG
            refine (markS_any _ _ _ _ _ _ 1 _ HGS.out (by omega) (by omega) (by omega)).mono ?_
            rintro e w11 ⟨S2, m2, rfl, hoG, hmk, hf, hn0, hn1⟩
            replace HAB := Lib.hid (HAB.out.frm hf (.inl (by first | omega | (simp <;> omega))))
            replace HCB := Lib.hid (HCB.out.frm hf (.inl (by first | omega | (simp <;> omega))))
            replace HWB := Lib.hid (HWB.out.frm hf (.inl (by first | omega | (simp <;> omega))))
            replace HGB := Lib.hid (HGB.out.frm hf (.inr (by first | omega | (simp <;> omega))))
            replace HWS := Lib.hid (HWS.out.frm hf (.inl (by first | omega | (simp <;> omega))))
            replace HB2 := Lib.hid (HB2.out.trans (hf.below (by first | omega | (simp <;> omega)) (by have := HB2.out.size; omega)))
            replace HBW := Lib.hid (HBW.out.trans (hf.below (by first | omega | (simp <;> omega)) (by have := HBW.out.size; omega)))
            clear HGS
            have HGS := Lib.hid hoG
            have HMK := Lib.hid hmk
            have q2 : ¬ m2 < 0 := by omega
            clear hf hoG hmk
            have cA := fun o => HAB.out.cell o
            have zA := HAB.out.lt
            have cC := fun o => HCB.out.cell o
            have zC := HCB.out.lt
            have cW := fun o => HWB.out.cell o
            have zW := HWB.out.lt
            have cG := fun o => HGB.out.cell o
            have zG := HGB.out.lt
            go_wp2_with fail
            clear cA zA cC zC cW zW cG zG
            refine (heldS_any _ _ _ S2 1 m2 _ HGS.out.rd HMK.out (by omega) (by omega)).mono ?_
            rintro e w12 ⟨rfl, hb⟩
            have s12 : w11.heap.size ≤ w12.heap.size := hb.size
            replace HAB := Lib.hid (HAB.out.next hb)
            replace HCB := Lib.hid (HCB.out.next hb)
            replace HWB := Lib.hid (HWB.out.next hb)
            replace HGB := Lib.hid (HGB.out.next hb)
            replace HWS := Lib.hid (HWS.out.next hb)
            replace HGS := Lib.hid (HGS.out.next hb)
            replace HB2 := Lib.hid (below_next HB2.out hb)
            replace HBW := Lib.hid (below_next HBW.out hb)
            clear hb
            have cA := fun o => HAB.out.cell o
            have zA := HAB.out.lt
            have cC := fun o => HCB.out.cell o
            have zC := HCB.out.lt
            have cW := fun o => HWB.out.cell o
            have zW := HWB.out.lt
            have cG := fun o => HGB.out.cell o
            have zG := HGB.out.lt
            go_upto_region 31 with (fail)
            clear cA zA cC zC cW zW cG zG
            generalize decide (m' < 0) = bm
            generalize decide (m2 < 0) = bn
            have HRW := Lib.hid (HRS2.out.below HBW.out)
            have HRV := Lib.hid (HRL2.out.below HBW.out)
            go_cut [15, 16] (fun sa sb wx => ∃ (o : Nat) (t3 k3 g3 : Sl), sa = .pointer (some ⟨o, 0, none⟩) ∧ sb = .bool (levelS S0 l1).2 ∧ Hid (w12.heap.size ≤ o ∧ Below w12.heap.size w12 wx ∧ Blk wx o 37 #[.slice t3.a t3.n t3.c, .slice k3.a k3.n k3.c, .slice g3.a g3.n g3.c] ∧ OwS w12.heap.size wx.heap.size wx t3 k3 g3 (levelS S0 l1).1))
            case first =>
              refine wp_region_inv (by kernel_rfl) (by kernel_rfl) (fun listed a_ w' => ∃ (s95 s96 s97 s98 s99 s94 s100 s101 s15 s16 : Value) (tA kA gA aA bA tB kB gB : Sl) (oA : Nat), a_ = { tmps := #[svV t0 k_0 g0, lvlV l1 ws1 gs1, Value.pointer (some (⟨w.heap.size, 0, none⟩ : Addr)), Value.pointer (some (⟨w.heap.size + 1, 0, none⟩ : Addr)), Value.bool false, Value.int .i64 u, Value.pointer (some (⟨oW, 0, none⟩ : Addr)), Value.bool (levelS S0 l1).snd, Value.pointer (some (⟨w4.heap.size, 0, none⟩ : Addr)), Value.pointer (some (⟨w5.heap.size, 0, none⟩ : Addr)), Value.pointer (some (⟨w6.heap.size, 0, none⟩ : Addr)), Value.bool (levelS S0 l1).snd, Value.int .i64 m', Value.int .i64 m2, Value.int .i64 m2, s15, s16, u17, u18, u19, u20, u21, u22, u23, u24, u25, u26, u27, u28, u29, u30, u31, u32, u33, u34, u35, u36, u37, u38, u39, u40, u41, u42, u43, u44, u45, u46, u47, u48, u49, u50, u51, u52, u53, u54, u55, u56, u57, u58, u59, u60, u61, u62, Value.bool false, Value.agg #[Value.slice t4.a t4.n t4.c, Value.slice k4.a k4.n k4.c, Value.slice g4.a g4.n g4.c], Value.int .i64 1, Value.int .i64 m, Value.agg #[Value.int .i64 l1.id, Value.int .i64 l1.ticks, Value.int .i64 l1.sx, Value.int .i64 l1.sy, Value.slice a5.a a5.n a5.c, Value.slice b5.a b5.n b5.c, Value.int .i64 l1.f.1, Value.int .i64 l1.f.2.1, Value.int .i64 l1.f.2.2.1, Value.int .i64 l1.f.2.2.2, Value.int .i64 l1.bans], Value.int .i64 m, Value.int .i64 m', Value.int .i64 m', Value.bool bm, Value.bool bm, Value.agg #[Value.slice t6.a t6.n t6.c, Value.slice k6.a k6.n k6.c, Value.slice g6.a g6.n g6.c], Value.agg #[Value.slice t3.a t3.n t3.c, Value.slice k3.a k3.n k3.c, Value.slice g3.a g3.n g3.c], Value.bool true, Value.bool false, Value.bool bm, Value.bool bm, Value.bool (levelS S0 l1).snd, Value.bool (levelS S0 l1).snd, Value.bool false, Value.bool bm, Value.agg #[Value.slice t6.a t6.n t6.c, Value.slice k6.a k6.n k6.c, Value.slice g6.a g6.n g6.c], Value.int .i64 1, Value.int .i64 m2, Value.agg #[Value.slice t6.a t6.n t6.c, Value.slice k6.a k6.n k6.c, Value.slice g6.a g6.n g6.c], Value.int .i64 1, Value.int .i64 m2, Value.int .i64 m2, Value.bool bn, Value.int .i64 m2, Value.int .i64 m2, Value.bool false, s94, s95, s96, s97, s98, s99, s100, s101, u102, u103, u104, u105, u106, u107, u108, u109, u110, u111, u112, u113, u114, u115, u116, u117, u118], defers := [] } ∧ EL t0 k_0 g0 S0 l1 ws1 gs1 (levelS S0 l1) w12 (Dl listed) s95 s96 s97 s98 s99 s94 s100 s101 s15 s16 tA kA gA aA bA tB kB gB oA w') ?_ ?_ ?_
              · refine ⟨_, _, _, _, _, _, _, _, _, _, ⟨none, 0, 0⟩, ⟨none, 0, 0⟩, ⟨none, 0, 0⟩, ⟨none, 0, 0⟩, ⟨none, 0, 0⟩, ⟨none, 0, 0⟩, ⟨none, 0, 0⟩, ⟨none, 0, 0⟩, 0, rfl, { bel := ?_, f0 := ?_, f1 := ?_, f2 := ?_, f3 := ?_, f4 := ?_, f5 := ?_, f6 := ?_, f7 := ?_, f8 := ?_, f9 := ?_, f10 := ?_ }⟩
                · exact ⟨rfl, rfl, rfl, Nat.le_refl _, fun _ _ => rfl⟩
                all_goals (intro q'; cases q')
              · intro listed a_ w' j o_ hs ho hl hd hR K hK
                obtain ⟨s95, s96, s97, s98, s99, s94, s100, s101, s15, s16, tA, kA, gA, aA, bA, tB, kB, gB, oA, rfl, hc⟩ := hR
                have hltj : j < 11 := (Array.getElem?_eq_some_iff.1 ho).1
                rcases cases11 hltj with rfl | rfl | rfl | rfl | rfl | rfl | rfl | rfl | rfl | rfl | rfl
                · cases (show some _ = some o_ from ho)
                  have c0 := (HAB.out.next hc.bel).cell 0
                  have c1 := (HAB.out.next hc.bel).cell 1
                  have c2 := (HAB.out.next hc.bel).cell 2
                  go_simp
                  exact hK _ _ ⟨_, s96, s97, s98, s99, s94, s100, s101, s15, s16, tA, kA, gA, aA, bA, tB, kB, gB, oA, rfl, by rw [Dl_set (by rw [hs]; decide)]; exact hc.u0 hl⟩
                · cases (show some _ = some o_ from ho)
                  obtain rfl := hc.f0 (dep_ hs (by decide) (hd ⟨0, .data⟩ (by simp) rfl))
                  go_simp
                  go_at_call 15
                  refine (toService_any _ _ _ S0 _ (HRW.out.below hc.bel)).mono ?_
                  rintro e y1 ⟨t2, k2, g2, rfl, hO2, hb1⟩
                  exact hK _ _ ⟨_, _, s97, s98, s99, s94, s100, s101, s15, s16, t2, k2, g2, aA, bA, tB, kB, gB, oA, rfl, by rw [Dl_set (by rw [hs]; decide)]; exact (hc.next hb1).u1 hl t2 k2 g2 hO2.rd⟩
                · cases (show some _ = some o_ from ho)
                  have c0 := (HCB.out.next hc.bel).cell 0
                  have c1 := (HCB.out.next hc.bel).cell 1
                  have c2 := (HCB.out.next hc.bel).cell 2
                  have c3 := (HCB.out.next hc.bel).cell 3
                  have c4 := (HCB.out.next hc.bel).cell 4
                  have c5 := (HCB.out.next hc.bel).cell 5
                  have c6 := (HCB.out.next hc.bel).cell 6
                  have c7 := (HCB.out.next hc.bel).cell 7
                  have c8 := (HCB.out.next hc.bel).cell 8
                  have c9 := (HCB.out.next hc.bel).cell 9
                  have c10 := (HCB.out.next hc.bel).cell 10
                  go_simp
                  exact hK _ _ ⟨s95, s96, _, s98, s99, s94, s100, s101, s15, s16, tA, kA, gA, aA, bA, tB, kB, gB, oA, rfl, by rw [Dl_set (by rw [hs]; decide)]; exact hc.u2 hl⟩
                · cases (show some _ = some o_ from ho)
                  obtain rfl := hc.f2 (dep_ hs (by decide) (hd ⟨2, .data⟩ (by simp) rfl))
                  go_simp
                  go_at_call 16
                  refine (toLevel_any l1 ws1 gs1 _ (HRV.out.below hc.bel)).mono ?_
                  rintro e y1 ⟨a2, b2, rfl, hO2, _, hb1⟩
                  exact hK _ _ ⟨s95, s96, _, _, s99, s94, s100, s101, s15, s16, tA, kA, gA, a2, b2, tB, kB, gB, oA, rfl, by rw [Dl_set (by rw [hs]; decide)]; exact (hc.next hb1).u3 hl a2 b2 hO2.rd⟩
                · cases (show some _ = some o_ from ho)
                  obtain ⟨rfl, hr1⟩ := hc.f1 (dep_ hs (by decide) (hd ⟨1, .data⟩ (by simp) rfl))
                  obtain ⟨rfl, hr3⟩ := hc.f3 (dep_ hs (by decide) (hd ⟨3, .data⟩ (by simp) rfl))
                  go_simp
                  refine (implServiceLevel_any _ _ _ S0 l1 _ _ _ (hr1 hl) (hr3 hl)).mono ?_
                  rintro e y1 ⟨t4, k4, g4, rfl, hO4, hb1⟩
                  have hz4 := hc.bel.size
                  exact hK _ _ ⟨s95, _, s97, _, _, s94, s100, s101, s15, s16, tA, kA, gA, aA, bA, t4, k4, g4, oA, rfl, by rw [Dl_set (by rw [hs]; decide)]; exact (hc.next hb1).u4 hl t4 k4 g4 (hO4.mono hz4 (Nat.le_refl _))⟩
                · cases (show some _ = some o_ from ho)
                  have d4 := (dep_ hs (by decide) (hd ⟨4, .data⟩ (by simp) rfl))
                  obtain ⟨rfl, _⟩ := hc.f4 d4
                  go_simp
                  exact hK _ _ ⟨s95, s96, s97, s98, _, _, s100, s101, s15, s16, tA, kA, gA, aA, bA, tB, kB, gB, oA, rfl, by rw [Dl_set (by rw [hs]; decide)]; exact hc.u5 hl d4⟩
                · cases (show some _ = some o_ from ho)
                  obtain ⟨d4, rfl⟩ := hc.f5 (dep_ hs (by decide) (hd ⟨5, .data⟩ (by simp) rfl))
                  go_simp
                  exact hK _ _ ⟨s95, s96, s97, s98, s99, _, _, s101, s15, s16, tA, kA, gA, aA, bA, tB, kB, gB, oA, rfl, by rw [Dl_set (by rw [hs]; decide)]; exact hc.u6 hl d4⟩
                · cases (show some _ = some o_ from ho)
                  obtain ⟨d4, rfl⟩ := hc.f5 (dep_ hs (by decide) (hd ⟨5, .data⟩ (by simp) rfl))
                  go_simp
                  exact hK _ _ ⟨s95, s96, s97, s98, s99, _, s100, _, s15, s16, tA, kA, gA, aA, bA, tB, kB, gB, oA, rfl, by rw [Dl_set (by rw [hs]; decide)]; exact hc.u7 hl⟩
                · cases (show some _ = some o_ from ho)
                  go_simp
                  exact hK _ _ ⟨s95, s96, s97, s98, s99, s94, s100, s101, _, s16, tA, kA, gA, aA, bA, tB, kB, gB, _, rfl, by rw [Dl_set (by rw [hs]; decide)]; exact (hc.next (ba (Below.refl _ _))).u8 hl _ hc.bel.size (Blk.new _ _ _)⟩
                · cases (show some _ = some o_ from ho)
                  have d8 := (dep_ hs (by decide) (hd ⟨8, .data⟩ (by simp) rfl))
                  obtain ⟨d4, rfl⟩ := hc.f6 (dep_ hs (by decide) (hd ⟨6, .data⟩ (by simp) rfl))
                  obtain ⟨rfl, ho1, ho2⟩ := hc.f8 d8
                  have ho3 := ho2 hl
                  obtain ⟨rfl, hO⟩ := hc.f4 d4
                  have cz := fun q => ho3.cell q
                  have fz := fun q => ho3.frozen q
                  go_simp
                  refine hK _ _ ⟨s95, s96, s97, s98, _, s94, _, s101, _, s16, tA, kA, gA, aA, bA, tB, kB, gB, oA, rfl, ?_⟩
                  rw [Dl_set (by rw [hs]; decide)]
                  refine hc.u9 hl d4 d8 ?_ (((hO.apartS ho3 ?_)).mono (Nat.le_refl _) (by simp)) (((ho3.set_ 0 _).set_ 1 _).set_ 2 _)
                  · iterate 3 (refine Below.setCell ?_ ho1 _)
                    exact hc.bel
                  · rw [ownB_some (by decide)]
                    exact Only.set_ (Only.set_ (Only.set_ (Only.refl oA _) (.inl rfl) _) (.inl rfl) _) (.inl rfl) _
                · cases (show some _ = some o_ from ho)
                  obtain rfl := hc.f7 (dep_ hs (by decide) (hd ⟨7, .data⟩ (by simp) rfl))
                  go_simp
                  exact hK _ _ ⟨s95, s96, s97, s98, s99, s94, s100, _, s15, _, tA, kA, gA, aA, bA, tB, kB, gB, oA, rfl, by rw [Dl_set (by rw [hs]; decide)]; exact hc.u10 hl⟩
              · intro listed a_ w' hall hR
                obtain ⟨s95, s96, s97, s98, s99, s94, s100, s101, s15, s16, tA, kA, gA, aA, bA, tB, kB, gB, oA, rfl, hc⟩ := hR
                obtain ⟨d4, d8, hk⟩ := hc.f9 (hall 9 (by decide))
                obtain ⟨rfl, hO⟩ := hc.f4 d4
                obtain ⟨rfl, ho1, _⟩ := hc.f8 d8
                obtain rfl := hc.f10 (hall 10 (by decide))
                have HH := Lib.hid (And.intro ho1 (And.intro hc.bel (And.intro hk hO)))
                clear hk hO hc hall
                go_wp2_with fail
                go_meet
                exact ⟨oA, tB, kB, gB, rfl, rfl, HH.out⟩
            case rest =>
              obtain ⟨oH, t13, k13, g13, rfl, rfl, HH⟩ := hcut
              replace HAB := Lib.hid (HAB.out.next HH.out.2.1)
              replace HCB := Lib.hid (HCB.out.next HH.out.2.1)
              replace HWB := Lib.hid (HWB.out.next HH.out.2.1)
              replace HGB := Lib.hid (HGB.out.next HH.out.2.1)
              replace HWS := Lib.hid (HWS.out.next HH.out.2.1)
              replace HGS := Lib.hid (HGS.out.next HH.out.2.1)
              replace HB2 := Lib.hid (below_next HB2.out HH.out.2.1)
              replace HBW := Lib.hid (below_next HBW.out HH.out.2.1)
              have HHB := Lib.hid HH.out.2.2.1
              have HHS := Lib.hid HH.out.2.2.2
              clear HH HRW HRV
              have cA := fun o => HAB.out.cell o
              have zA := HAB.out.lt
              have cC := fun o => HCB.out.cell o
              have zC := HCB.out.lt
              have cW := fun o => HWB.out.cell o
              have zW := HWB.out.lt
              have cG := fun o => HGB.out.cell o
              have zG := HGB.out.lt
              have cH := fun o => HHB.out.cell o
              have zH := HHB.out.lt
              go_wp2_with fail
              clear cA zA cC zC cW zW cG zG cH zH
              refine (eqService_same _ _ _ _ _ _ (levelS S0 l1).1 _ HHS.out.rd HWS.out.rd).mono ?_
              rintro e w14 ⟨rfl, hb⟩
              have s14 : wc.heap.size ≤ w14.heap.size := hb.size
              replace HAB := Lib.hid (HAB.out.next hb)
              replace HCB := Lib.hid (HCB.out.next hb)
              replace HWB := Lib.hid (HWB.out.next hb)
              replace HGB := Lib.hid (HGB.out.next hb)
              replace HHB := Lib.hid (HHB.out.next hb)
              replace HWS := Lib.hid (HWS.out.next hb)
              replace HGS := Lib.hid (HGS.out.next hb)
              replace HHS := Lib.hid (HHS.out.next hb)
              replace HB2 := Lib.hid (below_next HB2.out hb)
              replace HBW := Lib.hid (below_next HBW.out hb)
              clear hb
              have cA := fun o => HAB.out.cell o
              have zA := HAB.out.lt
              have cC := fun o => HCB.out.cell o
              have zC := HCB.out.lt
              have cW := fun o => HWB.out.cell o
              have zW := HWB.out.lt
              have cG := fun o => HGB.out.cell o
              have zG := HGB.out.lt
              have cH := fun o => HHB.out.cell o
              have zH := HHB.out.lt
              go_wp2_with fail
              clear cA zA cC zC cW zW cG zG cH zH
              refine (heldS_any _ _ _ S2 1 m2 _ HGS.out.rd HMK.out (by omega) (by omega)).mono ?_
              rintro e w15 ⟨rfl, hb⟩
              have s15 : w14.heap.size ≤ w15.heap.size := hb.size
              replace HAB := Lib.hid (HAB.out.next hb)
              replace HCB := Lib.hid (HCB.out.next hb)
              replace HWB := Lib.hid (HWB.out.next hb)
              replace HGB := Lib.hid (HGB.out.next hb)
              replace HHB := Lib.hid (HHB.out.next hb)
              replace HWS := Lib.hid (HWS.out.next hb)
              replace HGS := Lib.hid (HGS.out.next hb)
              replace HHS := Lib.hid (HHS.out.next hb)
              replace HB2 := Lib.hid (below_next HB2.out hb)
              replace HBW := Lib.hid (below_next HBW.out hb)
              clear hb
              go_wp2_with fail
              go_ret
              exact ⟨rfl, HB2.out⟩


set_option maxRecDepth 100000 in
theorem lifted (os : Os) (started : os.Started) (H : Type) (enc : TypeId × Value → H) :
    ReturnsInHanded {} Tryz.checked os 3 .any (Rows.fnExactServiceLevelSpec.pre6 enc Tryz.prog Tryz.f3 Rows.fnExactServiceLevelRow.domain false) (Rows.fnExactServiceLevelSpec.post enc Tryz.prog Tryz.f3 false true false false) := by
  refine returnsInHanded_of_change (C := Tryz.checked) own_ started (by kernel_rfl) Tryz.func3
    (ChangeSpec.witness6 (enc := enc) (C := Tryz.checked) false ⟨#[], #[.agg #[.slice none 0 0, .slice none 0 0, .slice none 0 0], .agg #[.int .i64 0, .int .i64 0, .int .i64 0, .int .i64 0, .slice none 0 0, .slice none 0 0, .int .i64 0, .int .i64 0, .int .i64 0, .int .i64 0, .int .i64 0]], []⟩ 8 (by kernel_rfl) (by kernel_rfl) (by kernel_rfl) (by kernel_rfl)) ?_
  intro W base args ds gs before hval0 hW hcnd _
  have hval : ∀ (j : Nat) t v, Tryz.f3.params[j]? = some t → args[j]? = some v → Value.okWide Tryz.prog W .any base t v := hval0
  have hW' := hW
  obtain ⟨p, q, hA0, hV, rfl, hfz, hnd⟩ := hW
  have hA : DataW.TrodAll enc Tryz.prog W 0 (fun _ => true) true Tryz.f3.params.toList args.toList ds p := hA0
  rw [Tryz.params3] at hA hval
  obtain ⟨v0, vs0, d0, ds0, p0, q0, hargs, rfl, rfl, h0, r0⟩ := trodAll_cons hA
  obtain ⟨v1, vs1, d1, ds1, p1, q1, rfl, rfl, rfl, h1, r1⟩ := trodAll_cons r0
  obtain ⟨rfl, rfl, rfl⟩ := trodAll_nil r1
  obtain rfl : args = #[v0, v1] := by cases args; simp_all
  obtain ⟨rfl, rfl⟩ := trodVars_none hV
  have k0 := h0
  have lt0 : ∀ x ∈ p0, x.block < W.heap.size := by obtain ⟨m, hm⟩ := k0; exact DataW.trod_lt m _ _ _ hm
  obtain ⟨t0, k_0, g0, S0, xs0, rfl, w0⟩ := open_service (hval 0 25 v0 rfl rfl) h0
  have k1 := h1
  have lt1 : ∀ x ∈ p1, x.block < W.heap.size := by obtain ⟨m, hm⟩ := k1; exact DataW.trod_lt m _ _ _ hm
  obtain ⟨l1, ws1, gs1, rfl, w1⟩ := open_level (hval 1 32 v1 rfl rfl) h1
  clear hA0 hval0
  refine (walk t0 k_0 g0 S0 xs0 l1 ws1 gs1 W w0 w1).mono fun e W' ⟨he, bel⟩ => ?_
  subst he
  exact ⟨_, rfl, _, _, _, [], _, [], hW', trodAll_mk1 (shut_bool Tryz.underlying4 _), (trodAll_cons_mk (Below.trod laidOut_ (by kernel_rfl) (of_decide_eq_true (by kernel_rfl)) k0 bel lt0) (trodAll_cons_mk (Below.trod laidOut_ (by kernel_rfl) (of_decide_eq_true (by kernel_rfl)) k1 bel lt1) trodAll_mk0)), rfl, bel.frame _, fun h => by cases h⟩

theorem closed_ : joinedFacts Tryz.prog 3 Tryz.f3 Rows.fnExactServiceLevelSpec Rows.fnExactServiceLevelRow = true :=
  joined_by mayEnter_ liftsFinal_ make_ (by kernel_rfl) laidOut_ mapsRowed_ (by kernel_rfl) (by kernel_rfl) rfl stops_ rfl stopKnobs_ (by kernel_rfl) (by kernel_rfl) (by kernel_rfl) (by kernel_rfl) (by kernel_rfl) (by kernel_rfl) (by kernel_rfl) (by kernel_rfl) (by kernel_rfl) (by kernel_rfl) rfl stopsHeard_ rfl rfl rfl (by kernel_rfl)
theorem over : Rows.fnExactServiceLevelRow.holds Tryz.pinned (OpenSpec.ofChange Rows.fnExactServiceLevelSpec) :=
  OpenClaim.holds_of_wide 3 Tryz.f3 rfl rfl rfl rfl rfl rfl rfl ⟨rfl, rfl, rfl, rfl, rfl⟩ rfl rfl rfl rfl rfl (by kernel_rfl) Tryz.func3 closed_
    (of_decide_eq_true (by kernel_rfl)) (by unfold Func.isWrapper; first | (rw [if_pos (by decide +kernel)]; kernel_rfl) | (rw [if_neg (by decide +kernel)]; exact ⟨rfl, rfl⟩))
    (fun os started H enc _ => lifted os started H enc)

theorem proved : Rows.FnExactServiceLevelSaid := over
#print axioms proved
end Go.Proofs.YtepddbfafdfadaaGreat.fnExactServiceLevel

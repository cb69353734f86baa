/-
  The reference's ServiceValid: every service of slices of at most 2^20 elements.
-/
import Derived.Test.YtepddbfafdfadaaGreatSp
import Derived.Test.YtepddbfafdfadaaGreatBi
namespace Go.Proofs.YtepddbfafdfadaaGreat
open Go.RowKit Go.Sort

set_option maxHeartbeats 400000 in
theorem l23Hash_any (n : Int) (w : World) :
    Calls Tryz.prog 76 #[.int .i64 n] w fun e w' => e = .returned (.bool (hashOk n)) ∧ w = w' := by
  go_enter Tryz.func76, Tryz.ntmps76
  go_wp2_with fail
  refine (l6In_any _ _ _ _).mono ?_
  rintro e w' ⟨rfl, rfl⟩
  go_wp2_with fail
  go_ret
  exact ⟨rfl, rfl⟩

set_option maxRecDepth 100000 in
set_option maxHeartbeats 8000000 in
theorem specServiceValid_any (t k g : Sl) (S : Svc) (w : World) (hr : RdS w t k g S) :
    Calls Tryz.prog 27 #[svV t k g] w fun e w' => e = .returned (.bool (validS S)) ∧ Below w.heap.size w w' := by
  obtain ⟨⟨xs, hxs, hts⟩, hk, hg, ⟨_, hn1⟩, ⟨_, hn2⟩, _, hn3⟩ := hr
  have hlt : xs.length = t.n := hts.1.len
  have hlk := hk.len
  have hlg := hg.len
  have hxl : S.ts.length = t.n := by rw [← hxs, List.length_map, hlt]
  by_cases hb : S.keys.length = 10 ∧ S.ts.length ≤ 4 ∧ S.tags.length ≤ 12
  rotate_left
  · have HV := Lib.hid (validS_len hb)
    rw [hlk, hxl, hlg] at hb
    clear hts hk hg hxs
    by_cases h1 : k.n = 10
    · have h1' : (k.n : Int) = 10 := by omega
      by_cases h2 : t.n ≤ 4
      · have h2' : ¬ (4 : Int) < t.n := by omega
        have h3' : (12 : Int) < g.n := by omega
        clear hb h1 hlt hlk hlg hxl
        go_enter Tryz.func27, Tryz.ntmps27
        go_wp2
        go_ret
        exact ⟨ret_bool HV.out.symm, by go_grown⟩
      · have h2' : (4 : Int) < t.n := by omega
        clear hb h1 hlt hlk hlg hxl
        go_enter Tryz.func27, Tryz.ntmps27
        go_wp2
        go_ret
        exact ⟨ret_bool HV.out.symm, by go_grown⟩
    · have h1' : ((k.n : Int) != 10) = true := by simp; omega
      clear hb h1 hlt hlk hlg hxl
      go_enter Tryz.func27, Tryz.ntmps27
      go_wp2
      go_ret
      exact ⟨ret_bool HV.out.symm, by go_grown⟩
  · obtain ⟨b1, b2, b3⟩ := hb
    have hq1 : k.n = 10 := by omega
    have hq2 : t.n ≤ 4 := by omega
    have hq3 : g.n ≤ 12 := by omega
    have h1' : ((k.n : Int) != 10) = false := by simp; omega
    have h2' : ¬ (4 : Int) < t.n := by omega
    have h3' : ¬ (12 : Int) < g.n := by omega
    have HXS := Lib.hid hxs
    have HTS := Lib.hid hts
    have HK := Lib.hid hk
    have HG := Lib.hid hg
    have HXL := Lib.hid hxl
    have HL1 := Lib.hid b1
    have HL2 := Lib.hid b2
    have HL3 := Lib.hid b3
    have HQ1 := Lib.hid hq1
    have hq1l : k.n ≤ 10 := by omega
    clear hxs hts hk hg hxl b1 b2 b3 hlt hlk hlg hn1 hn2 hn3 hq1
    go_enter Tryz.func27, Tryz.ntmps27
    go_wp2
    have hw1 : Below w.heap.size w (w.alloc (.cells #[.slice t.a t.n t.c, .slice k.a k.n k.c, .slice g.a g.n g.c] 37)) := (Below.refl _ _).alloc (Nat.le_refl _) _
    have HK1 := Lib.hid (HK.out.below hw1)
    have HW1 := Lib.hid hw1
    have HBL := Lib.hid (Blk.new w 37 #[.slice t.a t.n t.c, .slice k.a k.n k.c, .slice g.a g.n g.c])
    clear hw1
    go_loop [3] (fun i => ∃ j : Nat, j ≤ k.n ∧ i = .int .i64 j ∧ Hid (S.keys.all keyOk = (S.keys.drop j).all keyOk)) (fun i => k.n - (intOf i).toNat)
    case atStart => exact ⟨0, Nat.zero_le _, rfl, rfl⟩
    case round =>
      obtain ⟨j, hj, rfl, HF⟩ := hrel
      by_cases hlt : j < k.n
      · obtain ⟨b, off, z, hA, hbb, hz, hc⟩ := HK.out.at_ hlt
        have HA := Lib.hid hA
        rw [hA]
        have HST := Lib.hid (all_drop (p := keyOk) hz)
        clear hz hA
        go_wp2_with fail
        refine (l6In_any _ _ _ _).mono ?_
        rintro e w' ⟨rfl, rfl⟩
        cases ho : inR z 0 9999
        · have HO := Lib.hid (show keyOk z = false from ho)
          clear ho
          go_wp2_with fail
          go_ret
          exact ⟨ret_bool (validS_keys (by rw [HF.out, HST.out, HO.out]; rfl)).symm, by go_grown⟩
        · have HO := Lib.hid (show keyOk z = true from ho)
          clear ho
          go_wp2_with fail
          go_round
          case rel => exact ⟨j + 1, by omega, by go_num, by show _ = _; rw [HF.out, HST.out, HO.out]; rfl⟩
          case measure => simp [intOf]; omega
      · have HKO : Hid (S.keys.all keyOk = true) := by
          show _ = _
          rw [HF.out, List.drop_of_length_le (by rw [HL1.out]; have := HQ1.out; omega)]; rfl
        clear HF
        go_wp2_with fail
        go_loopw [4, 5, 6] (fun i _ _ wr => ∃ j : Nat, j ≤ t.n ∧ i = .int .i64 j ∧ Hid (Below w.heap.size w wr ∧ Blk wr w.heap.size 37 #[.slice t.a t.n t.c, .slice k.a k.n k.c, .slice g.a g.n g.c] ∧ ∀ q, q < j → trkOk S q = true)) (fun i _ _ _ => t.n - (intOf i).toNat)
        case atStart => exact ⟨0, Nat.zero_le _, rfl, HW1.out, HBL.out, fun q hq => absurd hq (by omega)⟩
        case round =>
          obtain ⟨j, hj, rfl, HB⟩ := hrel
          obtain ⟨wo, rfl⟩ : ∃ wo : World, wo = wr := ⟨_, rfl⟩
          have s0 : wo.cell? ⟨w.heap.size, 0, none⟩ = some (.slice t.a t.n t.c) := HB.out.2.1.cell 0
          by_cases hlt2 : j < t.n
          · obtain ⟨b, off, x, hA, hbb, hx, hrt, e0, e1, e2, e3, e4, e5, e6, e7, e8, e9, e10, e11⟩ := RdTs.cells (HTS.out.below HB.out.1) hlt2
            have HA := Lib.hid hA
            rw [hA] at s0
            have hS : S.ts[j]? = some x.2 := by rw [← HXS.out, List.getElem?_map, hx]; rfl
            have HTR := Lib.hid (trkOk_some hS)
            have HRT := Lib.hid hrt
            clear hA hS
            go_upto_region 12 with (fail)
            have HAL := Lib.hid ((Below.refl wo.heap.size wo).alloc (Nat.le_refl _) (.cells (encT x).toArray 62))
            have hTB := Blk.new wo 62 (encT x).toArray
            generalize hWT : wo.alloc (.cells (encT x).toArray 62) = WT at HAL hTB
            have HRT := Lib.hid (hrt.below HAL.out)
            have HTSW := Lib.hid ((HTS.out.below HB.out.1).below HAL.out)
            have HTB := Lib.hid hTB
            have HSB := Lib.hid (HB.out.2.1.next HAL.out)
            have HWT := Lib.hid hWT
            clear hTB hrt hWT
            show Code.wp _ _ _ _ (wo.alloc (.cells (encT x).toArray 62))
            rw [HWT.out]
            have hz : wo.heap.size < WT.heap.size := HTB.out.lt
            have t0 : WT.cell? ⟨wo.heap.size, 0, none⟩ = some (.int .i64 x.2.l.id) := HTB.out.cell 0
            have t1 : WT.cell? ⟨wo.heap.size, 1, none⟩ = some (.int .i64 x.2.l.ticks) := HTB.out.cell 1
            have t2 : WT.cell? ⟨wo.heap.size, 2, none⟩ = some (.int .i64 x.2.l.sx) := HTB.out.cell 2
            have t3 : WT.cell? ⟨wo.heap.size, 3, none⟩ = some (.int .i64 x.2.l.sy) := HTB.out.cell 3
            have t4 : WT.cell? ⟨wo.heap.size, 4, none⟩ = some (.slice x.1.w.a x.1.w.n x.1.w.c) := HTB.out.cell 4
            have t5 : WT.cell? ⟨wo.heap.size, 5, none⟩ = some (.slice x.1.g.a x.1.g.n x.1.g.c) := HTB.out.cell 5
            have t6 : WT.cell? ⟨wo.heap.size, 6, none⟩ = some (.int .i64 x.2.l.f.1) := HTB.out.cell 6
            have t7 : WT.cell? ⟨wo.heap.size, 7, none⟩ = some (.int .i64 x.2.l.f.2.1) := HTB.out.cell 7
            have t8 : WT.cell? ⟨wo.heap.size, 8, none⟩ = some (.int .i64 x.2.l.f.2.2.1) := HTB.out.cell 8
            have t9 : WT.cell? ⟨wo.heap.size, 9, none⟩ = some (.int .i64 x.2.l.f.2.2.2) := HTB.out.cell 9
            have t10 : WT.cell? ⟨wo.heap.size, 10, none⟩ = some (.int .i64 x.2.l.bans) := HTB.out.cell 10
            have t11 : WT.cell? ⟨wo.heap.size, 11, none⟩ = some (.slice x.1.b.a x.1.b.n x.1.b.c) := HTB.out.cell 11
            clear s0 e0 e1 e2 e3 e4 e5 e6 e7 e8 e9 e10 e11
            have s0 : WT.cell? ⟨w.heap.size, 0, none⟩ = some (.slice (some ⟨b, off, none⟩) t.n t.c) := by rw [← HA.out]; exact HSB.out.cell 0
            have hbn := HRT.out.2.2.2
            have hbn2 := HRT.out.2.2.1
            go_cut [77] (fun s77 wx => s77 = .bool (!(levelOk x.2.l && validE x.2.b && !(decide (0 < j) && decide (x.2.l.id ≤ prevId S.ts j)))) ∧ Hid (Below WT.heap.size WT wx))
            case first =>
              have t0' := fun d os => cell_regrown t0 d os
              have t1' := fun d os => cell_regrown t1 d os
              have t2' := fun d os => cell_regrown t2 d os
              have t3' := fun d os => cell_regrown t3 d os
              have t4' := fun d os => cell_regrown t4 d os
              have t5' := fun d os => cell_regrown t5 d os
              have t6' := fun d os => cell_regrown t6 d os
              have t7' := fun d os => cell_regrown t7 d os
              have t8' := fun d os => cell_regrown t8 d os
              have t9' := fun d os => cell_regrown t9 d os
              have t10' := fun d os => cell_regrown t10 d os
              have t11' := fun d os => cell_regrown t11 d os
              have s0' := fun d os => cell_regrown s0 d os
              cases hlo : levelOk x.2.l with
              | false =>
                have HLO := Lib.hid hlo
                clear hlo
                refine wp_region_qb (by kernel_rfl) (by kernel_rfl) ?_
                repeat (go_big_quiet_step (first | (go_at_call 45; exact Calls.regrown_of ((specLevelValid_any x.2.l x.1.w x.1.g _ (HRT.out.1.below (below_regrown _ _ _))).mono fun e w' h => by rw [HLO.out] at h; exact h))))
                refine wpQuiet_nil ?_
                intro w5 hb5
                go_wp2_with fail
                go_meet
                exact ⟨by simp [HLO.out], hb5⟩
              | true =>
                have HLO := Lib.hid hlo
                clear hlo
                cases hbo : validE x.2.b with
                | false =>
                  have HBO := Lib.hid hbo
                  clear hbo
                  refine wp_region_qb (by kernel_rfl) (by kernel_rfl) ?_
                  repeat (go_big_quiet_step (first | (go_at_call 45; exact Calls.regrown_of ((specLevelValid_any x.2.l x.1.w x.1.g _ (HRT.out.1.below (below_regrown _ _ _))).mono fun e w' h => by rw [HLO.out] at h; exact h)) | (go_at_call 75; exact Calls.regrown_of ((specBoardValid_v _ _ _ _ _ (HRT.out.2.1.below (below_regrown _ _ _)) (by omega)).mono fun e w' h => by rw [HBO.out] at h; exact h))))
                  refine wpQuiet_nil ?_
                  intro w5 hb5
                  go_wp2_with fail
                  go_meet
                  exact ⟨by simp [HBO.out], hb5⟩
                | true =>
                  have HBO := Lib.hid hbo
                  clear hbo
                  by_cases hj0 : 0 < j
                  · obtain ⟨b', off', y, hA', _, hy, _, p0, _⟩ := RdTs.cells HTSW.out (k := j - 1) (by omega)
                    obtain ⟨rfl, rfl⟩ : b = b' ∧ off = off' := by rw [HA.out] at hA'; simpa using hA'
                    have hpv : prevId S.ts j = y.2.l.id := by unfold prevId; rw [← HXS.out, List.getElem?_map, hy]; rfl
                    have HPV := Lib.hid hpv
                    have p0' := fun d os => cell_regrown p0 d os
                    have q1 : IntKind.i64.wrap ((j : Int) - 1) = (j : Int) - 1 := IntWalk.i64_in _ (by omega)
                    have q2 : (0 : Int) ≤ (j : Int) - 1 := by omega
                    have q3 : ((j : Int) - 1).toNat = j - 1 := by omega
                    have q4 : (j : Int) - 1 < t.n := by omega
                    clear hA' hy hpv p0
                    by_cases hs : x.2.l.id ≤ y.2.l.id
                    · refine wp_region_qb (by kernel_rfl) (by kernel_rfl) ?_
                      repeat (go_big_quiet_step (first | (go_at_call 45; exact Calls.regrown_of ((specLevelValid_any x.2.l x.1.w x.1.g _ (HRT.out.1.below (below_regrown _ _ _))).mono fun e w' h => by rw [HLO.out] at h; exact h)) | (go_at_call 75; exact Calls.regrown_of ((specBoardValid_v _ _ _ _ _ (HRT.out.2.1.below (below_regrown _ _ _)) (by omega)).mono fun e w' h => by rw [HBO.out] at h; exact h))))
                      refine wpQuiet_nil ?_
                      intro w5 hb5
                      go_wp2_with fail
                      go_meet
                      exact ⟨by simp [HPV.out, hj0, hs], hb5⟩
                    · have hsb : decide (x.2.l.id ≤ y.2.l.id) = false := by simpa using hs
                      refine wp_region_qb (by kernel_rfl) (by kernel_rfl) ?_
                      repeat (go_big_quiet_step (first | (go_at_call 45; exact Calls.regrown_of ((specLevelValid_any x.2.l x.1.w x.1.g _ (HRT.out.1.below (below_regrown _ _ _))).mono fun e w' h => by rw [HLO.out] at h; exact h)) | (go_at_call 75; exact Calls.regrown_of ((specBoardValid_v _ _ _ _ _ (HRT.out.2.1.below (below_regrown _ _ _)) (by omega)).mono fun e w' h => by rw [HBO.out] at h; exact h))))
                      refine wpQuiet_nil ?_
                      intro w5 hb5
                      go_wp2_with fail
                      go_meet
                      exact ⟨by simp [HLO.out, HBO.out, HPV.out, hsb], hb5⟩
                  · refine wp_region_qb (by kernel_rfl) (by kernel_rfl) ?_
                    repeat (go_big_quiet_step (first | (go_at_call 45; exact Calls.regrown_of ((specLevelValid_any x.2.l x.1.w x.1.g _ (HRT.out.1.below (below_regrown _ _ _))).mono fun e w' h => by rw [HLO.out] at h; exact h)) | (go_at_call 75; exact Calls.regrown_of ((specBoardValid_v _ _ _ _ _ (HRT.out.2.1.below (below_regrown _ _ _)) (by omega)).mono fun e w' h => by rw [HBO.out] at h; exact h))))
                    refine wpQuiet_nil ?_
                    intro w5 hb5
                    go_wp2_with fail
                    go_meet
                    exact ⟨by simp [HLO.out, HBO.out, hj0], hb5⟩
            case rest =>
              obtain ⟨rfl, HBC⟩ := hcut
              have HW5 := Lib.hid (below_next HB.out.1 (ba (by rw [HWT.out]; exact HBC.out)))
              have HSB5 := Lib.hid (HSB.out.next HBC.out)
              have HTB5 := Lib.hid (HTB.out.next HBC.out)
              have HRB5 := Lib.hid (HRT.out.2.1.below HBC.out)
              have HK5 := Lib.hid (HK.out.below HW5.out)
              clear t0 t1 t2 t3 t4 t5 t6 t7 t8 t9 t10 t11 s0 HBC HRT HTSW HTB HSB HWT HAL
              cases hob : (levelOk x.2.l && validE x.2.b && !(decide (0 < j) && decide (x.2.l.id ≤ prevId S.ts j)))
              · have hv : validS S = false := validS_trk (k := j) (by rw [HXL.out]; exact hlt2) (by rw [HTR.out, hob]; rfl)
                have HV := Lib.hid hv
                clear hv hob
                go_wp2
                go_ret
                exact ⟨ret_bool HV.out.symm, HW5.out⟩
              · have hvb : validE x.2.b = true := by
                  simp only [Bool.and_eq_true] at hob
                  exact hob.1.2
                have HVB := Lib.hid hvb
                have HOB := Lib.hid hob
                clear hvb hob
                go_wp2_with fail
                go_loopw [6] (fun i wr => ∃ q : Nat, q ≤ x.1.b.n ∧ i = .int .i64 q ∧ Hid (Below wc.heap.size wc wr ∧ x.2.b.all (keyed S.keys) = (x.2.b.drop q).all (keyed S.keys))) (fun i _ => x.1.b.n - (intOf i).toNat)
                case atStart => exact ⟨0, Nat.zero_le _, rfl, Below.refl _ _, rfl⟩
                case round =>
                  obtain ⟨q, hq, rfl, HC⟩ := hrel
                  have HSBr := Lib.hid (HSB5.out.next HC.out.1)
                  have HTBr := Lib.hid (HTB5.out.next HC.out.1)
                  have u11 : wr.cell? ⟨wo.heap.size, 11, none⟩ = some (.slice x.1.b.a x.1.b.n x.1.b.c) := HTBr.out.cell 11
                  by_cases hlt3 : q < x.1.b.n
                  · obtain ⟨b2, off2, e, hA2, hb2, he, f0, f1⟩ := (HRB5.out.below HC.out.1).at_ hlt3
                    have heo := okE_bd (validE_ok HVB.out he)
                    obtain ⟨p, hp⟩ := Int.eq_ofNat_of_zero_le heo.1
                    have hp9 : p < k.n := by have := HQ1.out; omega
                    obtain ⟨b3, off3, z, hA3, hb3, hz, hc3⟩ := (HK5.out.below HC.out.1).at_ hp9
                    have hky : keyed S.keys e = decide (z ≠ 0) := by unfold keyed; rw [hp, Int.toNat_natCast, hz]; rfl
                    have HKY := Lib.hid hky
                    have HST := Lib.hid (all_drop (p := keyed S.keys) he)
                    have u1 : wr.cell? ⟨w.heap.size, 1, none⟩ = some (.slice k.a k.n k.c) := HSBr.out.cell 1
                    rw [hA2] at u11
                    rw [hA3] at u1
                    rw [hp] at f0
                    have u11' := fun d os => cell_regrown u11 d os
                    have u1' := fun d os => cell_regrown u1 d os
                    have f0' := fun d os => cell_regrown f0 d os
                    have hc3' := fun d os => cell_regrown hc3 d os
                    have hp9' : (p : Int) < k.n := by omega
                    clear he hz hky hA2 hA3 hp heo f0 f1 hc3 u1
                    go_upto_region 17 with (fail)
                    go_cut [95] (fun s95 wx => s95 = .bool (decide (z = 0)) ∧ Hid (Below wr.heap.size wr wx))
                    case first =>
                      clear u11
                      refine wp_region_qb (by kernel_rfl) (by kernel_rfl) ?_
                      repeat (go_big_quiet_step (fail))
                      refine wpQuiet_nil ?_
                      intro w6 hb6
                      go_wp2_with fail
                      go_meet
                      exact ⟨rfl, hb6⟩
                    case rest =>
                      obtain ⟨rfl, HBD⟩ := hcut
                      clear u11 u11' u1' f0' hc3'
                      by_cases hz0 : z = 0
                      · have hv : validS S = false := validS_trk (k := j) (by rw [HXL.out]; exact hlt2) (by rw [HTR.out, HC.out.2, HST.out, HKY.out]; simp [hz0])
                        have HV := Lib.hid hv
                        subst hz0
                        clear hv
                        go_wp2
                        go_ret
                        exact ⟨ret_bool HV.out.symm, below_next (below_next HW5.out HC.out.1) HBD.out⟩
                      · have HKT := Lib.hid (show keyed S.keys e = true by rw [HKY.out]; simpa using hz0)
                        go_wp2
                        exact ⟨⟨q + 1, by omega, by go_num, below_next HC.out.1 HBD.out, by rw [HC.out.2, HST.out, HKT.out]; rfl⟩, by simp [intOf]; omega⟩
                  · have hv : trkOk S j = true := by
                      rw [HTR.out, HOB.out, HC.out.2, List.drop_of_length_le (by rw [HRB5.out.len]; omega)]; rfl
                    have HV := Lib.hid hv
                    clear hv
                    go_wp2
                    exact ⟨⟨j + 1, by omega, by go_num, below_next HW5.out HC.out.1, HSBr.out, fun q hq => by
                      by_cases hqj : q = j
                      · rw [hqj]; exact HV.out
                      · exact HB.out.2.2 q (by omega)⟩, by simp [intOf]; omega⟩
          · have HKT : Hid (∀ q, q < S.ts.length → trkOk S q = true) := fun q hq => HB.out.2.2 q (by rw [HXL.out] at hq; omega)
            have HGr := Lib.hid (HG.out.below HB.out.1)
            have HB1 := Lib.hid HB.out.1
            have HB2 := Lib.hid HB.out.2.1
            clear HB
            go_wp2_with fail
            clear s0
            go_loop [7] (fun i => ∃ q : Nat, q ≤ g.n ∧ i = .int .i64 q ∧ Hid (S.tags.all hashOk = (S.tags.drop q).all hashOk)) (fun i => g.n - (intOf i).toNat)
            case atStart => exact ⟨0, Nat.zero_le _, rfl, rfl⟩
            case round =>
              obtain ⟨q, hq, rfl, HF⟩ := hrel
              have u2 : wo.cell? ⟨w.heap.size, 2, none⟩ = some (.slice g.a g.n g.c) := HB2.out.cell 2
              by_cases hlt3 : q < g.n
              · obtain ⟨b, off, z, hA, hbb, hz, hc⟩ := HGr.out.at_ hlt3
                have HA := Lib.hid hA
                rw [hA] at u2
                have HST := Lib.hid (all_drop (p := hashOk) hz)
                clear hz hA
                go_wp2_with fail
                refine (l23Hash_any _ _).mono ?_
                rintro e w' ⟨rfl, rfl⟩
                cases ho : hashOk z
                · have HO := Lib.hid ho
                  clear ho
                  go_wp2_with fail
                  go_ret
                  exact ⟨ret_bool (validS_tags (by rw [HF.out, HST.out, HO.out]; rfl)).symm, HB1.out⟩
                · have HO := Lib.hid ho
                  clear ho
                  go_wp2_with fail
                  go_round
                  case rel => exact ⟨q + 1, by omega, by go_num, by show _ = _; rw [HF.out, HST.out, HO.out]; rfl⟩
                  case measure => simp [intOf]; omega
              · go_wp2_with fail
                go_ret
                exact ⟨ret_bool (validS_true HL1.out HL2.out HL3.out HKO.out HKT.out (by rw [HF.out, List.drop_of_length_le (by rw [HGr.out.len]; omega)]; rfl)).symm, HB1.out⟩
end Go.Proofs.YtepddbfafdfadaaGreat

/-
  FnBoardAdd returns true whatever the code; nothing that was there is written. No condition.
-/
import Derived.Test.YtnfmlmkabioepaaFb
import Derived.Test.YtnfmlmkabioepaaDx
import Derived.Test.YtnfmlmkabioepaaPa
import Derived.Test.YtnfmlmkabioepaaAi
import Derived.Test.YtnfmlmkabioepaaSm
namespace Go.Proofs.Ytnfmlmkabioepaa.fnBoardAdd
open Go.RowKit Go.ChangeShapes Go.WideShapes Go.ChangeAt Go.Joins
set_option linter.unusedVariables false

set_option maxRecDepth 100000 in
set_option maxHeartbeats 8000000 in
theorem walk (a0 : Option Addr) (len0 cap0 : Nat) (z0 : List Int) (w : World) (w0 : BytesIn w a0 len0 cap0 z0) :
    Calls Try.prog 3 #[.slice a0 len0 cap0] w fun e w' => e = .returned (.bool true) ∧ Below w.heap.size w w' := by
  have hz := w0.bd
  obtain ⟨hr, hlc, hcm, _⟩ := w0
  by_cases hsz : (1048576 : Int) < len0
  · clear hr hlc hcm hz
    go_enter Try.func3, Try.ntmps3
    go_wp2
    go_ret
    exact ⟨rfl, Below.refl _ _⟩
  skip
  have H1 := Lib.hid (drawBoardAdd_any a0 len0 cap0 z0 w hr hz hlc hcm)
  clear hr hlc hcm hz
  go_enter Try.func3, Try.ntmps3
  go_wp2_with fail
  refine H1.out.mono ?_
  rintro e w1 ⟨A, c, es, x, rfl, hO, hl, hB⟩
  have HR1 := Lib.hid hO.rdE
  have hlec := hO.le
  have HB1 := Lib.hid hB
  clear H1 hO hB
  have hla : (addE es x).1.length ≤ 8 := addE_len8 es x hl
  have HWa : Hid (Below w1.heap.size w1 (w1.alloc (.cells #[.int .i64 x.1, .int .i64 x.2] 25))) := (Below.refl _ _).alloc (Nat.le_refl _) _
  have HEa := Lib.hid (Blk.new w1 25 #[.int .i64 x.1, .int .i64 x.2])
  go_wp2_with fail
  refine (implBoardAdd_any _ _ _ es x _ (HR1.out.below HWa.out) (by omega) hlec).mono ?_
  rintro e w2 ⟨A2, c2, rfl, hO2, hb2⟩
  have HR2 := Lib.hid ((HR1.out.below HWa.out).below hb2)
  have HE2 := Lib.hid (HEa.out.next hb2)
  have HB2 := Lib.hid (below_at HB1.out HB1.out.size (below_next HWa.out hb2))
  have HX2 := Lib.hid hO2.rdE
  have hlec2 := hO2.le
  have hc0 : w2.cell? ⟨w1.heap.size, 0, none⟩ = some (.int .i64 x.1) := HE2.out.cell 0
  have hc1 : w2.cell? ⟨w1.heap.size, 1, none⟩ = some (.int .i64 x.2) := HE2.out.cell 1
  clear hb2 hO2 HWa HEa
  go_wp2_with fail
  refine (specBoardAdd_any _ _ _ es x _ HR2.out (by omega)).mono ?_
  rintro e w3 ⟨A3, c3, rfl, hO3, hb3⟩
  have HR3 := Lib.hid (HR2.out.below hb3)
  have HX3 := Lib.hid (HX2.out.below hb3)
  have HE3 := Lib.hid (HE2.out.next hb3)
  have HB3 := Lib.hid (below_at HB2.out HB2.out.size hb3)
  have HY3 := Lib.hid hO3.rdE
  clear hb3 HB2 hO3 hc0 hc1
  go_wp2_with fail
  refine (sameBoard_any _ _ _ _ _ _ _ _ _ HX3.out HY3.out (by omega) (by omega)).mono ?_
  rintro e w4 ⟨rfl, hb4⟩
  rw [show decide ((addE es x).1 = (addE es x).1) = true by simp]
  have HR4 := Lib.hid (HR3.out.below hb4)
  have HX4 := Lib.hid (HX3.out.below hb4)
  have HY4 := Lib.hid (HY3.out.below hb4)
  have HE4 := Lib.hid (HE3.out.next hb4)
  have HB4 := Lib.hid (below_at HB3.out HB3.out.size hb4)
  clear hb4 HR2 HR3 HX2 HX3 HY3 HE2 HE3 HB3
  by_cases h3 : (addE es x).2 = 0
  · obtain ⟨hvd, hok, _, hc4, hfin⟩ := addE_done h3
    have hov := out_valid hvd hok
    have hol : (outE es x).length ≤ 8 := by rw [hfin] at hla; exact hla
    have HAD := Lib.hid (added_facts (x := x) hvd hc4)
    have HOV := Lib.hid hov
    obtain ⟨i0, hi0, hz0, hz1, hz2⟩ := info_parts infoE
    have HI := Lib.hid hi0
    have HZ := Lib.hid hz0
    have HS := Lib.hid hz1
    have HBY := Lib.hid hz2
    rw [hfin] at HX4 HY4 hlec2 ⊢
    clear hfin hvd hok hc4 h3 hla hov hi0 hz0 hz1 hz2
    go_wp2_with fail
    go_loopw [9, 10] (fun o i wr => ∃ (k : Nat) (A' : Option Addr) (c' : Nat), k ≤ es.length ∧ i = .int .i64 k ∧ o = .slice A' (withoutE x.1 (es.take k)).length c' ∧ Hid (Below w4.heap.size w4 wr ∧ OwE w4.heap.size wr A' (withoutE x.1 (es.take k)).length c' (withoutE x.1 (es.take k)))) (fun _ i _ => es.length - (intOf i).toNat)
    case atStart => exact ⟨0, _, _, Nat.zero_le _, rfl, rfl, (Below.refl _ _).alloc (Nat.le_refl _) _, Ow.bare _ _ _ _ _⟩
    case round =>
      obtain ⟨k, A', c', hk, rfl, rfl, HBL⟩ := hrel
      have hlw := withoutE_len x.1 es k
      have HEr := Lib.hid (HE4.out.next HBL.out.1)
      by_cases hlt : k < es.length
      · obtain ⟨b, off, e, hA, hb, he, h0, h1⟩ := (HR4.out.below HBL.out.1).at_ hlt
        subst hA
        have HST := Lib.hid (withoutE_step x.1 es k e he)
        have h0' := fun d os => cell_regrown h0 d os
        have c0 : wr.cell? ⟨w1.heap.size, 0, none⟩ = some (.int .i64 x.1) := HEr.out.cell 0
        have c0' := fun d os => cell_regrown c0 d os
        have HC0 := Lib.hid h0
        have HC1 := Lib.hid h1
        clear he h0 h1 c0
        by_cases hp : e.1 = x.1
        · have hq : (e.1 != x.1) = false := by simpa using hp
          have HE : Hid (withoutE x.1 (es.take (k + 1)) = withoutE x.1 (es.take k)) := by
            show _ = _
            rw [HST.out, hq]; simp
          have HP := Lib.hid hp; clear hp
          go_wp2
          refine wp_region_qb (by kernel_rfl) (by kernel_rfl) ?_
          repeat (go_big_quiet_step (fail))
          refine wpQuiet_nil ?_
          intro w6 hb6
          go_wp2
          exact ⟨⟨k + 1, A', c', by omega, by go_num, by rw [HE.out], by rw [HE.out]; exact ⟨below_next HBL.out.1 hb6, HBL.out.2.next hb6⟩⟩, by simp [intOf]; omega⟩
        · have hq : (e.1 != x.1) = true := by simpa using hp
          have HE : Hid (withoutE x.1 (es.take (k + 1)) = withoutE x.1 (es.take k) ++ [e]) := by
            show _ = _
            rw [HST.out, hq]; simp
          have HP := Lib.hid hp; clear hp
          go_wp2
          refine wp_region_qb (by kernel_rfl) (by kernel_rfl) ?_
          repeat (go_big_quiet_step (fail))
          refine wpQuiet_nil ?_
          intro w6 hb6
          have HBM := Lib.hid (below_next HBL.out.1 hb6)
          have HOM := Lib.hid (HBL.out.2.next hb6)
          have hsz := HBM.out.size
          have h0 := ((bcell hb6).1 _ _ hb).trans HC0.out
          have h1 := ((bcell hb6).1 _ _ hb).trans HC1.out
          clear h0' c0' hb6 HBL
          go_wp2_with (at_builtin; refine wpList_append_ow _ rfl (.tmp 69) (.tmp 74) _ rfl w4.heap.size 25 i0 _ 2 16 Try.underlying23 HI.out HZ.out HS.out HBY.out rfl (by omega) _ _ _ _ rfl (Ow.alloc HOM.out _) _ 1 1 (cellsE [e]) rfl (Src.blk (Blk.new _ _ _) rfl) (cellsE_one _) (by unfold maxLen; omega) (by omega) (by simp; omega) ?_; intro A2 c2 w2 hown2 hg2 _)
          have HO := Lib.hid hown2
          have HG := Lib.hid hg2
          clear hown2 hg2
          go_wp2
          have hb2 : Below w4.heap.size w4 w2 := (Ow.alloc HOM.out _).grown HG.out (HBM.out.alloc hsz _) (Nat.le_refl _) (by simp; omega)
          refine ⟨⟨k + 1, A2, c2, by omega, by go_num, by rw [HE.out]; simp, hb2, ?_⟩, by simp [intOf]; omega⟩
          rw [HE.out]
          have := HO.out
          rw [← cellsE_append] at this
          simpa [OwE] using this
      · have hkn : es.take k = es := List.take_of_length_le (by omega)
        rw [hkn] at HBL ⊢
        have hkk : k = es.length := by omega
        clear hkn hlw hkk
        have HR5 := Lib.hid (HR4.out.below HBL.out.1)
        have HX5 := Lib.hid (HX4.out.below HBL.out.1)
        have HB5 := Lib.hid (below_at HB4.out HB4.out.size HBL.out.1)
        have HO5 := Lib.hid HBL.out.2
        have HE5 := HEr
        clear HBL HEr HR4 HX4 HY4 HB4 HE4
        go_wp2_with fail
        obtain ⟨w5, rfl⟩ : ∃ v : World, v = wr := ⟨_, rfl⟩
        go_loopw [11, 12] (fun o i wr => ∃ (k : Nat) (A' : Option Addr) (c' : Nat), k ≤ (outE es x).length ∧ i = .int .i64 k ∧ o = .slice A' (withoutE x.1 ((outE es x).take k)).length c' ∧ Hid (Below w5.heap.size w5 wr ∧ OwE w5.heap.size wr A' (withoutE x.1 ((outE es x).take k)).length c' (withoutE x.1 ((outE es x).take k)))) (fun _ i _ => (outE es x).length - (intOf i).toNat)
        case atStart => exact ⟨0, _, _, Nat.zero_le _, rfl, rfl, (Below.refl _ _).alloc (Nat.le_refl _) _, Ow.bare _ _ _ _ _⟩
        case round =>
          obtain ⟨k, A', c', hk, rfl, rfl, HBL⟩ := hrel
          have hlw := withoutE_len x.1 (outE es x) k
          have HEr := Lib.hid (HE5.out.next HBL.out.1)
          by_cases hlt : k < (outE es x).length
          · obtain ⟨b, off, e, hA, hb, he, h0, h1⟩ := (HX5.out.below HBL.out.1).at_ hlt
            subst hA
            have HST := Lib.hid (withoutE_step x.1 (outE es x) k e he)
            have h0' := fun d os => cell_regrown h0 d os
            have c0 : wr.cell? ⟨w1.heap.size, 0, none⟩ = some (.int .i64 x.1) := HEr.out.cell 0
            have c0' := fun d os => cell_regrown c0 d os
            have HC0 := Lib.hid h0
            have HC1 := Lib.hid h1
            clear he h0 h1 c0
            by_cases hp : e.1 = x.1
            · have hq : (e.1 != x.1) = false := by simpa using hp
              have HE : Hid (withoutE x.1 ((outE es x).take (k + 1)) = withoutE x.1 ((outE es x).take k)) := by
                show _ = _
                rw [HST.out, hq]; simp
              have HP := Lib.hid hp; clear hp
              go_wp2
              refine wp_region_qb (by kernel_rfl) (by kernel_rfl) ?_
              repeat (go_big_quiet_step (fail))
              refine wpQuiet_nil ?_
              intro w6 hb6
              go_wp2
              exact ⟨⟨k + 1, A', c', by omega, by go_num, by rw [HE.out], by rw [HE.out]; exact ⟨below_next HBL.out.1 hb6, HBL.out.2.next hb6⟩⟩, by simp [intOf]; omega⟩
            · have hq : (e.1 != x.1) = true := by simpa using hp
              have HE : Hid (withoutE x.1 ((outE es x).take (k + 1)) = withoutE x.1 ((outE es x).take k) ++ [e]) := by
                show _ = _
                rw [HST.out, hq]; simp
              have HP := Lib.hid hp; clear hp
              go_wp2
              refine wp_region_qb (by kernel_rfl) (by kernel_rfl) ?_
              repeat (go_big_quiet_step (fail))
              refine wpQuiet_nil ?_
              intro w6 hb6
              have HBM := Lib.hid (below_next HBL.out.1 hb6)
              have HOM := Lib.hid (HBL.out.2.next hb6)
              have hsz := HBM.out.size
              have h0 := ((bcell hb6).1 _ _ hb).trans HC0.out
              have h1 := ((bcell hb6).1 _ _ hb).trans HC1.out
              clear h0' c0' hb6 HBL
              go_wp2_with (at_builtin; refine wpList_append_ow _ rfl (.tmp 91) (.tmp 96) _ rfl w5.heap.size 25 i0 _ 2 16 Try.underlying23 HI.out HZ.out HS.out HBY.out rfl (by omega) _ _ _ _ rfl (Ow.alloc HOM.out _) _ 1 1 (cellsE [e]) rfl (Src.blk (Blk.new _ _ _) rfl) (cellsE_one _) (by unfold maxLen; omega) (by omega) (by simp; omega) ?_; intro A2 c2 w2 hown2 hg2 _)
              have HO := Lib.hid hown2
              have HG := Lib.hid hg2
              clear hown2 hg2
              go_wp2
              have hb2 : Below w5.heap.size w5 w2 := (Ow.alloc HOM.out _).grown HG.out (HBM.out.alloc hsz _) (Nat.le_refl _) (by simp; omega)
              refine ⟨⟨k + 1, A2, c2, by omega, by go_num, by rw [HE.out]; simp, hb2, ?_⟩, by simp [intOf]; omega⟩
              rw [HE.out]
              have := HO.out
              rw [← cellsE_append] at this
              simpa [OwE] using this
          · have hkn : (outE es x).take k = (outE es x) := List.take_of_length_le (by omega)
            rw [hkn] at HBL ⊢
            have hkk : k = (outE es x).length := by omega
            clear hkn hlw hkk
            have HO6 := Lib.hid (HO5.out.next HBL.out.1)
            have HX6 := Lib.hid (HX5.out.below HBL.out.1)
            have HB6 := Lib.hid (below_at HB5.out HB5.out.size HBL.out.1)
            have hle5 := HO5.out.le
            have c0 : wr.cell? ⟨w1.heap.size, 0, none⟩ = some (.int .i64 x.1) := HEr.out.cell 0
            have c1 : wr.cell? ⟨w1.heap.size, 1, none⟩ = some (.int .i64 x.2) := HEr.out.cell 1
            have c0' := fun d os => cell_regrown c0 d os
            have c1' := fun d os => cell_regrown c1 d os
            obtain ⟨hm1, hm2, hm3, hm4⟩ := HAD.out
            have HM3 := Lib.hid hm3
            have HM4 := Lib.hid hm4
            have HBL2 := Lib.hid HBL.out.2
            have hR : (withoutE x.1 es).length ≤ es.length := List.length_filter_le _ _
            clear HAD c0 c1 HBL hm3 hm4
            generalize hN : (withoutE x.1 es).length = N at *
            generalize hM : (withoutE x.1 (outE es x)).length = M at *
            have q1 : decide ((M : Int) ≤ N) = true := by simp; omega
            have q2 : IntKind.i64.wrap ((N : Int) - 1) = (N : Int) - 1 := IntWalk.i64_in _ (by omega)
            have q3 : decide ((N : Int) - 1 ≤ M) = true := by simp; omega
            have q4 : (0 : Int) ≤ M := by omega
            have q5 : (M : Int) ≤ N := by omega
            have hBV := fun (W : World) (hb : Below wr.heap.size wr W) => (implBoardValid_v _ _ _ _ W (HX6.out.below hb) (by omega) hlec2).mono (R' := fun e w' => e = .returned (.bool true) ∧ Below W.heap.size W w') fun e w' h => by rw [HOV.out] at h; exact h
            have hSC := fun (W : World) (hb : Below wr.heap.size wr W) => (scoreOf_any _ _ c2 _ x.1 W (HX6.out.below hb) (by omega)).mono (R' := fun e w' => e = .returned (.int .i64 x.2) ∧ Below W.heap.size W w') fun e w' h => by rw [HM4.out] at h; exact ⟨h.1, by rw [h.2]; exact Below.refl _ _⟩
            have HBV := Lib.hid hBV
            have HSC := Lib.hid hSC
            clear hBV hSC
            go_wp2_with fail
            refine wp_region_qb (by kernel_rfl) (by kernel_rfl) ?_
            repeat (go_big_quiet_step (first | (go_at_call 15; exact Calls.regrown_of (HBV.out _ (below_regrown _ _ _))) | (go_at_call 16; exact Calls.regrown_of (HSC.out _ (below_regrown _ _ _))) | (go_at_call 14; exact Calls.regrown_of ((sameBoard_any _ _ _ _ _ _ _ _ _ (HBL2.out.rdE.below (below_regrown _ _ _)) ((HO6.out.rdE.take (k := M) (by omega)).below (below_regrown _ _ _)) (by omega) (by omega)).mono fun e w' h => by rw [HM3.out] at h; simpa using h))))
            refine wpQuiet_nil ?_
            intro w6 hb6
            go_wp2
            go_ret
            exact ⟨rfl, below_at HB6.out HB6.out.size hb6⟩
  · go_wp2_with fail
    refine (sameBoard_any _ _ _ _ _ _ _ _ _ HX4.out HY4.out (by omega) (by omega)).mono ?_
    rintro e w6 ⟨rfl, hb6⟩
    rw [show decide ((addE es x).1 = (addE es x).1) = true by simp]
    go_wp2
    go_ret
    exact ⟨rfl, below_at HB4.out HB4.out.size hb6⟩

set_option maxRecDepth 100000 in
theorem lifted (os : Os) (started : os.Started) (H : Type) (enc : TypeId × Value → H) :
    ReturnsInHanded {} Try.checked os 3 .any (Rows.fnBoardAddSpec.pre6 enc Try.prog Try.f3 Rows.fnBoardAddRow.domain false) (Rows.fnBoardAddSpec.post enc Try.prog Try.f3 false true false false) := by
  refine returnsInHanded_of_change (C := Try.checked) own_ started (by kernel_rfl) Try.func3
    (ChangeSpec.witness6 (enc := enc) (C := Try.checked) false ⟨#[], #[.slice none 0 0], []⟩ 8 (by kernel_rfl) (by kernel_rfl) (by kernel_rfl) (by kernel_rfl)) ?_
  intro W base args ds gs before hval0 hW hcnd _
  have hval : ∀ (j : Nat) t v, Try.f3.params[j]? = some t → args[j]? = some v → Value.okWide Try.prog W .any base t v := hval0
  have hW' := hW
  obtain ⟨p, q, hA0, hV, rfl, hfz, hnd⟩ := hW
  have hA : DataW.TrodAll enc Try.prog W 0 (fun _ => true) true Try.f3.params.toList args.toList ds p := hA0
  rw [Try.params3] at hA hval
  obtain ⟨v0, vs0, d0, ds0, p0, q0, hargs, rfl, rfl, h0, r0⟩ := trodAll_cons hA
  obtain ⟨rfl, rfl, rfl⟩ := trodAll_nil r0
  obtain rfl : args = #[v0] := by cases args; simp_all
  obtain ⟨rfl, rfl⟩ := trodVars_none hV
  obtain ⟨a0, len0, cap0, rfl⟩ := okWide_slice Try.underlying22 (hval 0 22 v0 rfl rfl)
  have k0 := h0
  have lt0 : ∀ x ∈ p0, x.block < W.heap.size := by obtain ⟨m, hm⟩ := k0; exact DataW.trod_lt m _ _ _ hm
  obtain ⟨z0, w0⟩ : ∃ zs, BytesIn W a0 len0 cap0 zs := by
    obtain ⟨fuel, hf⟩ := h0
    exact open_BytesIn Try.underlying22 Try.underlying5 (by kernel_rfl) (by simpa [Value.cells] using hf)
  clear hA0 hval0
  refine (walk a0 len0 cap0 z0 W w0).mono fun e W' ⟨he, bel⟩ => ?_
  subst he
  exact ⟨_, rfl, _, _, _, [], _, [], hW', trodAll_mk1 (shut_bool Try.underlying4 _), (trodAll_cons_mk (Below.trod laidOut_ (by kernel_rfl) (of_decide_eq_true (by kernel_rfl)) k0 bel lt0) trodAll_mk0), rfl, bel.frame _, fun h => by cases h⟩

theorem closed_ : joinedFacts Try.prog 3 Try.f3 Rows.fnBoardAddSpec Rows.fnBoardAddRow = true :=
  joined_by mayEnter_ liftsFinal_ make_ (by kernel_rfl) laidOut_ mapsRowed_ (by kernel_rfl) (by kernel_rfl) rfl stops_ rfl stopKnobs_ (by kernel_rfl) (by kernel_rfl) (by kernel_rfl) (by kernel_rfl) (by kernel_rfl) (by kernel_rfl) (by kernel_rfl) (by kernel_rfl) (by kernel_rfl) (by kernel_rfl) rfl stopsHeard_ rfl rfl rfl (by kernel_rfl)
theorem over : Rows.fnBoardAddRow.holds Try.pinned (OpenSpec.ofChange Rows.fnBoardAddSpec) :=
  OpenClaim.holds_of_wide 3 Try.f3 rfl rfl rfl rfl rfl rfl rfl ⟨rfl, rfl, rfl, rfl, rfl⟩ rfl rfl rfl rfl rfl (by kernel_rfl) Try.func3 closed_
    (of_decide_eq_true (by kernel_rfl)) (by unfold Func.isWrapper; first | (rw [if_pos (by decide +kernel)]; kernel_rfl) | (rw [if_neg (by decide +kernel)]; exact ⟨rfl, rfl⟩))
    (fun os started H enc _ => lifted os started H enc)

theorem proved : Rows.FnBoardAddSaid := over
#print axioms proved
end Go.Proofs.Ytnfmlmkabioepaa.fnBoardAdd

/-
  FnBoardBest returns true whatever the code; nothing that was there is written. No condition.
-/
import Derived.Test.YtjafdiacgaiphaaFb
import Derived.Test.YtjafdiacgaiphaaDx
import Derived.Test.YtjafdiacgaiphaaPq
import Derived.Test.YtjafdiacgaiphaaAi
import Derived.Test.YtjafdiacgaiphaaSm
namespace Go.Proofs.Ytjafdiacgaiphaa.fnBoardBest
open Go.RowKit Go.ChangeShapes Go.WideShapes Go.ChangeAt Go.Joins
set_option linter.unusedVariables false

set_option maxRecDepth 100000 in
set_option maxHeartbeats 4000000 in
theorem walk (a0 : Option Addr) (len0 cap0 : Nat) (z0 : List Int) (w : World) (w0 : BytesIn w a0 len0 cap0 z0) :
    Calls Try.prog 15 #[.slice a0 len0 cap0] w fun e w' => e = .returned (.bool true) ∧ Below w.heap.size w w' := by
  have hz := w0.bd
  obtain ⟨hr, hlc, hcm, _⟩ := w0
  by_cases hsz : (1048576 : Int) < len0
  · clear hr hlc hcm hz
    go_enter Try.func15, Try.ntmps15
    go_wp2
    go_ret
    exact ⟨rfl, Below.refl _ _⟩
  skip
  have H1 := Lib.hid (drawBoardAdd_any a0 len0 cap0 z0 w hr hz hlc hcm)
  clear hr hlc hcm hz
  go_enter Try.func15, Try.ntmps15
  go_wp2_with fail
  refine H1.out.mono ?_
  rintro e w1 ⟨A, c, es, x, rfl, hO, hl, hB⟩
  have HR1 := Lib.hid hO.rdE
  have hlec := hO.le
  have HB1 := Lib.hid hB
  clear H1 hO hB
  have hla : (addE es x).1.length ≤ 8 := addE_len8 es x hl
  have HWa : Hid (Below w1.heap.size w1 (w1.alloc (.cells #[.int .i64 x.1, .int .i64 x.2] 38))) := (Below.refl _ _).alloc (Nat.le_refl _) _
  have HEa := Lib.hid (Blk.new w1 38 #[.int .i64 x.1, .int .i64 x.2])
  go_wp2_with fail
  refine (implBoardAdd_any _ _ _ es x _ (HR1.out.below HWa.out) (by omega) hlec).mono ?_
  rintro e w2 ⟨A2, c2, rfl, hO2, hb2⟩
  have HR2 := Lib.hid ((HR1.out.below HWa.out).below hb2)
  have HE2 := Lib.hid (HEa.out.next hb2)
  have HB2 := Lib.hid (below_at HB1.out HB1.out.size (below_next HWa.out hb2))
  have HX2 := Lib.hid hO2.rdE
  have hlec2 := hO2.le
  have hc0 : w2.cell? ⟨w1.heap.size, 0, none⟩ = some (.int .i64 x.1) := HE2.out.cell 0
  have hc1 : w2.cell? ⟨w1.heap.size, 1, none⟩ = some (.int .i64 x.2) := HE2.out.cell 1
  clear hb2 hO2 HWa HEa
  go_wp2_with fail
  refine (specBoardAdd_any _ _ _ es x _ HR2.out (by omega)).mono ?_
  rintro e w3 ⟨A3, c3, rfl, hO3, hb3⟩
  have HR3 := Lib.hid (HR2.out.below hb3)
  have HX3 := Lib.hid (HX2.out.below hb3)
  have HE3 := Lib.hid (HE2.out.next hb3)
  have HB3 := Lib.hid (below_at HB2.out HB2.out.size hb3)
  have HY3 := Lib.hid hO3.rdE
  clear hb3 HB2 hO3 hc0 hc1
  go_wp2_with fail
  refine (sameBoard_any _ _ _ _ _ _ _ _ _ HX3.out HY3.out (by omega) (by omega)).mono ?_
  rintro e w4 ⟨rfl, hb4⟩
  rw [show decide ((addE es x).1 = (addE es x).1) = true by simp]
  have HR4 := Lib.hid (HR3.out.below hb4)
  have HX4 := Lib.hid (HX3.out.below hb4)
  have HY4 := Lib.hid (HY3.out.below hb4)
  have HE4 := Lib.hid (HE3.out.next hb4)
  have HB4 := Lib.hid (below_at HB3.out HB3.out.size hb4)
  clear hb4 HR2 HR3 HX2 HX3 HY3 HE2 HE3 HB3
  by_cases h3 : (addE es x).2 = 0
  · obtain ⟨hvd, hok, hwo, hc4, hfin⟩ := addE_done h3
    have hol : (outE es x).length ≤ 8 := by rw [hfin] at hla; exact hla
    have hmo := out_more (x := x) hvd
    have HBA := Lib.hid (fun e (he : e ∈ es) => best_at hvd hok hwo hc4 e he)
    obtain ⟨m, hm⟩ : ∃ m, m = (outE es x).length - 1 := ⟨_, rfl⟩
    have hpos : 0 < (outE es x).length := by rw [outE_lenEq]; omega
    have qm : IntKind.i64.wrap (((outE es x).length : Int) - 1) = (m : Int) := by rw [IntWalk.i64_in _ (by omega)]; omega
    have hml : m < (outE es x).length := by omega
    rw [hfin] at HX4 HY4 hlec2 ⊢
    clear hfin hvd hok hwo hc4 h3 hla hm
    go_wp2_with fail
    go_loopw [9] (fun i wr => ∃ k : Nat, k ≤ es.length ∧ i = .int .i64 k ∧ Hid (Below w4.heap.size w4 wr)) (fun i _ => es.length - (intOf i).toNat)
    case atStart => exact ⟨0, Nat.zero_le _, rfl, Below.refl _ _⟩
    case round =>
      obtain ⟨k, hk, rfl, HBL⟩ := hrel
      by_cases hlt : k < es.length
      · obtain ⟨b, off, e, hA, hb, he, h0, h1⟩ := (HR4.out.below HBL.out).at_ hlt
        subst hA
        obtain ⟨b2, off2, d, hA2, hb2, hd, d0, d1⟩ := (HX4.out.below HBL.out).at_ hml
        subst hA2
        obtain ⟨ho1, ho2⟩ := HBA.out e (List.mem_of_getElem? he)
        have hd2 := ho2
        have hlast : scoreE e.1 (outE es x) < 0 → d.2 ≤ e.2 := fun h => ho2 h d (List.mem_of_getElem? hd)
        have HLAST := Lib.hid hlast
        have HXr := Lib.hid (HX4.out.below HBL.out)
        clear he hd ho2 hd2 hlast d0
        go_wp2_with fail
        refine (scoreOf_any _ _ _ _ _ _ HXr.out (by omega)).mono ?_
        rintro e1 w5 ⟨rfl, rfl⟩
        obtain ⟨s, hs⟩ : ∃ s, s = scoreE e.1 (outE es x) := ⟨_, rfl⟩
        rw [← hs] at ho1 HLAST ⊢
        clear hs h0
        have h1' := fun d os => cell_regrown h1 d os
        have d1' := fun d os => cell_regrown d1 d os
        have q1 : decide (e.2 < s) = false := by simpa using ho1
        clear h1 d1 ho1
        by_cases hs0 : s < 0
        · have q2 : decide (e.2 < d.2) = false := by have := HLAST.out hs0; simpa using this
          have q3 : decide (s < 0) = true := by simpa using hs0
          clear hs0
          go_wp2_with fail
          refine wp_region_qb (by kernel_rfl) (by kernel_rfl) ?_
          repeat (go_big_quiet_step (fail))
          refine wpQuiet_nil ?_
          intro w6 hb6
          go_wp2
          exact ⟨⟨k + 1, by omega, by go_num, below_next HBL.out hb6⟩, by simp [intOf]; omega⟩
        · have q3 : decide (s < 0) = false := by simpa using hs0
          clear hs0
          go_wp2_with fail
          refine wp_region_qb (by kernel_rfl) (by kernel_rfl) ?_
          repeat (go_big_quiet_step (fail))
          refine wpQuiet_nil ?_
          intro w6 hb6
          go_wp2
          exact ⟨⟨k + 1, by omega, by go_num, below_next HBL.out hb6⟩, by simp [intOf]; omega⟩
      · have q0 : (es.length : Int) ≤ (outE es x).length := by omega
        go_wp2
        go_ret
        exact ⟨ret_bool (by simp), below_at HB4.out HB4.out.size HBL.out⟩
  · go_wp2_with fail
    refine (sameBoard_any _ _ _ _ _ _ _ _ _ HX4.out HY4.out (by omega) (by omega)).mono ?_
    rintro e w6 ⟨rfl, hb6⟩
    rw [show decide ((addE es x).1 = (addE es x).1) = true by simp]
    go_wp2
    go_ret
    exact ⟨rfl, below_at HB4.out HB4.out.size hb6⟩

set_option maxRecDepth 100000 in
theorem lifted (os : Os) (started : os.Started) (H : Type) (enc : TypeId × Value → H) :
    ReturnsInHanded {} Try.checked os 15 .any (Rows.fnBoardBestSpec.pre6 enc Try.prog Try.f15 Rows.fnBoardBestRow.domain false) (Rows.fnBoardBestSpec.post enc Try.prog Try.f15 false true false false) := by
  refine returnsInHanded_of_change (C := Try.checked) own_ started (by kernel_rfl) Try.func15
    (ChangeSpec.witness6 (enc := enc) (C := Try.checked) false ⟨#[], #[.slice none 0 0], []⟩ 8 (by kernel_rfl) (by kernel_rfl) (by kernel_rfl) (by kernel_rfl)) ?_
  intro W base args ds gs before hval0 hW hcnd _
  have hval : ∀ (j : Nat) t v, Try.f15.params[j]? = some t → args[j]? = some v → Value.okWide Try.prog W .any base t v := hval0
  have hW' := hW
  obtain ⟨p, q, hA0, hV, rfl, hfz, hnd⟩ := hW
  have hA : DataW.TrodAll enc Try.prog W 0 (fun _ => true) true Try.f15.params.toList args.toList ds p := hA0
  rw [Try.params15] at hA hval
  obtain ⟨v0, vs0, d0, ds0, p0, q0, hargs, rfl, rfl, h0, r0⟩ := trodAll_cons hA
  obtain ⟨rfl, rfl, rfl⟩ := trodAll_nil r0
  obtain rfl : args = #[v0] := by cases args; simp_all
  obtain ⟨rfl, rfl⟩ := trodVars_none hV
  obtain ⟨a0, len0, cap0, rfl⟩ := okWide_slice Try.underlying32 (hval 0 32 v0 rfl rfl)
  have k0 := h0
  have lt0 : ∀ x ∈ p0, x.block < W.heap.size := by obtain ⟨m, hm⟩ := k0; exact DataW.trod_lt m _ _ _ hm
  obtain ⟨z0, w0⟩ : ∃ zs, BytesIn W a0 len0 cap0 zs := by
    obtain ⟨fuel, hf⟩ := h0
    exact open_BytesIn Try.underlying32 Try.underlying5 (by kernel_rfl) (by simpa [Value.cells] using hf)
  clear hA0 hval0
  refine (walk a0 len0 cap0 z0 W w0).mono fun e W' ⟨he, bel⟩ => ?_
  subst he
  exact ⟨_, rfl, _, _, _, [], _, [], hW', trodAll_mk1 (shut_bool Try.underlying4 _), (trodAll_cons_mk (Below.trod laidOut_ (by kernel_rfl) (of_decide_eq_true (by kernel_rfl)) k0 bel lt0) trodAll_mk0), rfl, bel.frame _, fun h => by cases h⟩

theorem closed_ : joinedFacts Try.prog 15 Try.f15 Rows.fnBoardBestSpec Rows.fnBoardBestRow = true :=
  joined_by mayEnter_ liftsFinal_ make_ (by kernel_rfl) laidOut_ mapsRowed_ (by kernel_rfl) (by kernel_rfl) rfl stops_ rfl stopKnobs_ (by kernel_rfl) (by kernel_rfl) (by kernel_rfl) (by kernel_rfl) (by kernel_rfl) (by kernel_rfl) (by kernel_rfl) (by kernel_rfl) (by kernel_rfl) (by kernel_rfl) rfl stopsHeard_ rfl rfl rfl (by kernel_rfl)
theorem over : Rows.fnBoardBestRow.holds Try.pinned (OpenSpec.ofChange Rows.fnBoardBestSpec) :=
  OpenClaim.holds_of_wide 15 Try.f15 rfl rfl rfl rfl rfl rfl rfl ⟨rfl, rfl, rfl, rfl, rfl⟩ rfl rfl rfl rfl rfl (by kernel_rfl) Try.func15 closed_
    (of_decide_eq_true (by kernel_rfl)) (by unfold Func.isWrapper; first | (rw [if_pos (by decide +kernel)]; kernel_rfl) | (rw [if_neg (by decide +kernel)]; exact ⟨rfl, rfl⟩))
    (fun os started H enc _ => lifted os started H enc)

theorem proved : Rows.FnBoardBestSaid := over
#print axioms proved
end Go.Proofs.Ytjafdiacgaiphaa.fnBoardBest

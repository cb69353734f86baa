/-
  FnBoardCodes returns true whatever the code; nothing that was there is written. No condition.
-/
import Derived.Test.YtjafdiacgaiphaaFb
import Derived.Test.YtjafdiacgaiphaaDx
import Derived.Test.YtjafdiacgaiphaaPb
import Derived.Test.YtjafdiacgaiphaaAi
import Derived.Test.YtjafdiacgaiphaaSm
namespace Go.Proofs.Ytjafdiacgaiphaa.fnBoardCodes
open Go.RowKit Go.ChangeShapes Go.WideShapes Go.ChangeAt Go.Joins
set_option linter.unusedVariables false

set_option maxRecDepth 100000 in
set_option maxHeartbeats 4000000 in
theorem walk (a0 : Option Addr) (len0 cap0 : Nat) (z0 : List Int) (w : World) (w0 : BytesIn w a0 len0 cap0 z0) :
    Calls Try.prog 16 #[.slice a0 len0 cap0] w fun e w' => e = .returned (.bool true) ∧ Below w.heap.size w w' := by
  have hz := w0.bd
  obtain ⟨hr, hlc, hcm, _⟩ := w0
  by_cases hsz : (1048576 : Int) < len0
  · clear hr hlc hcm hz
    go_enter Try.func16, Try.ntmps16
    go_wp2
    go_ret
    exact ⟨rfl, Below.refl _ _⟩
  skip
  have H1 := Lib.hid (drawBoardAdd_any a0 len0 cap0 z0 w hr hz hlc hcm)
  clear hr hlc hcm hz
  go_enter Try.func16, Try.ntmps16
  go_wp2_with fail
  refine H1.out.mono ?_
  rintro e w1 ⟨A, c, es, x, rfl, hO, hl, hB⟩
  have HR1 := Lib.hid hO.rdE
  have hlec := hO.le
  have HB1 := Lib.hid hB
  clear H1 hO hB
  have hla : (addE es x).1.length ≤ 8 := addE_len8 es x hl
  have HWa : Hid (Below w1.heap.size w1 (w1.alloc (.cells #[.int .i64 x.1, .int .i64 x.2] 38))) := (Below.refl _ _).alloc (Nat.le_refl _) _
  have HEa := Lib.hid (Blk.new w1 38 #[.int .i64 x.1, .int .i64 x.2])
  go_wp2_with fail
  refine (implBoardAdd_any _ _ _ es x _ (HR1.out.below HWa.out) (by omega) hlec).mono ?_
  rintro e w2 ⟨A2, c2, rfl, hO2, hb2⟩
  have HR2 := Lib.hid ((HR1.out.below HWa.out).below hb2)
  have HE2 := Lib.hid (HEa.out.next hb2)
  have HB2 := Lib.hid (below_at HB1.out HB1.out.size (below_next HWa.out hb2))
  have HX2 := Lib.hid hO2.rdE
  have hlec2 := hO2.le
  have hc0 : w2.cell? ⟨w1.heap.size, 0, none⟩ = some (.int .i64 x.1) := HE2.out.cell 0
  have hc1 : w2.cell? ⟨w1.heap.size, 1, none⟩ = some (.int .i64 x.2) := HE2.out.cell 1
  clear hb2 hO2 HWa HEa
  go_wp2_with fail
  refine (specBoardAdd_any _ _ _ es x _ HR2.out (by omega)).mono ?_
  rintro e w3 ⟨A3, c3, rfl, hO3, hb3⟩
  have HR3 := Lib.hid (HR2.out.below hb3)
  have HX3 := Lib.hid (HX2.out.below hb3)
  have HE3 := Lib.hid (HE2.out.next hb3)
  have HB3 := Lib.hid (below_at HB2.out HB2.out.size hb3)
  have HY3 := Lib.hid hO3.rdE
  clear hb3 HB2 hO3 hc0 hc1
  go_wp2_with fail
  refine (sameBoard_any _ _ _ _ _ _ _ _ _ HX3.out HY3.out (by omega) (by omega)).mono ?_
  rintro e w4 ⟨rfl, hb4⟩
  rw [show decide ((addE es x).1 = (addE es x).1) = true by simp]
  have HR4 := Lib.hid (HR3.out.below hb4)
  have HX4 := Lib.hid (HX3.out.below hb4)
  have HY4 := Lib.hid (HY3.out.below hb4)
  have HE4 := Lib.hid (HE3.out.next hb4)
  have HB4 := Lib.hid (below_at HB3.out HB3.out.size hb4)
  clear hb4 HR2 HR3 HX2 HX3 HY3 HE2 HE3 HB3
  by_cases h3 : (addE es x).2 = 3
  · rw [h3]
    clear h3
    go_wp2_with fail
    refine (sameBoard_any _ _ _ _ _ _ _ _ _ HX4.out HY4.out (by omega) (by omega)).mono ?_
    rintro e w6 ⟨rfl, hb6⟩
    rw [show decide ((addE es x).1 = (addE es x).1) = true by simp]
    go_wp2
    go_ret
    exact ⟨rfl, below_at HB4.out HB4.out.size hb6⟩
  · obtain ⟨hvd, hok⟩ := addE_not3 h3
    have hc0 : w4.cell? ⟨w1.heap.size, 0, none⟩ = some (.int .i64 x.1) := HE4.out.cell 0
    have hws := Lib.hid (worse_score (x := x) hvd)
    have hbt := Lib.hid (better_cnt (p := x.1) (s := x.2) hvd)
    have hadd : addE es x = (if worseE es x then (es, 1) else if 4 ≤ cntE x.2 (withoutE x.1 es) then (es, 2) else (outE es x, 0)) := by simp [addE, hvd, hok]
    have HADD := Lib.hid hadd
    clear hadd hvd hok
    go_wp2_with fail
    refine (scoreOf_any _ _ _ _ _ _ HR4.out (by omega)).mono ?_
    rintro e w5 ⟨rfl, rfl⟩
    clear hc0
    go_wp2_with fail
    go_loopw [10, 11] (fun o i wr => ∃ k : Nat, k ≤ es.length ∧ i = .int .i64 k ∧ o = .int .i64 (betterE x.1 x.2 (es.take k)) ∧ Hid (Below w5.heap.size w5 wr)) (fun _ i _ => es.length - (intOf i).toNat)
    case atStart => exact ⟨0, Nat.zero_le _, rfl, rfl, Below.refl _ _⟩
    case round =>
      obtain ⟨k, hk, rfl, rfl, HBL⟩ := hrel
      have HEr := Lib.hid (HE4.out.next HBL.out)
      by_cases hlt : k < es.length
      · obtain ⟨b, off, e, rfl, hb, he, h0, h1⟩ := (HR4.out.below HBL.out).at_ hlt
        have hst := betterE_step x.1 x.2 es k e he
        have hbl : betterE x.1 x.2 (es.take k) ≤ k := Nat.le_trans (List.length_filter_le _ _) (List.length_take_le _ _)
        have c0 : wr.cell? ⟨w1.heap.size, 0, none⟩ = some (.int .i64 x.1) := HEr.out.cell 0
        have c1 : wr.cell? ⟨w1.heap.size, 1, none⟩ = some (.int .i64 x.2) := HEr.out.cell 1
        have g0 := fun d os => cell_regrown c0 d os
        have g1 := fun d os => cell_regrown c1 d os
        clear c0 c1
        have h0' := fun d os => cell_regrown h0 d os
        have h1' := fun d os => cell_regrown h1 d os
        have HST := Lib.hid hst
        clear he h0 h1 hst
        by_cases hp : e.1 = x.1
        · have hq : (e.1 != x.1) = false := by simpa using hp
          have HQ := Lib.hid hq
          clear hp
          go_wp2
          refine wp_region_qb (by kernel_rfl) (by kernel_rfl) ?_
          repeat (go_big_quiet_step (fail))
          refine wpQuiet_nil ?_
          intro w6 hb6
          go_wp2
          exact ⟨⟨k + 1, by omega, by go_num, by rw [HST.out, HQ.out]; simp, below_next HBL.out hb6⟩, by simp [intOf]; omega⟩
        · have hq : (e.1 != x.1) = true := by simpa using hp
          have HQ := Lib.hid hq
          clear hp
          by_cases hs : e.2 ≤ x.2
          · have HSS := Lib.hid (decide_eq_true hs)
            go_wp2
            refine wp_region_qb (by kernel_rfl) (by kernel_rfl) ?_
            repeat (go_big_quiet_step (fail))
            refine wpQuiet_nil ?_
            intro w6 hb6
            go_wp2
            exact ⟨⟨k + 1, by omega, by go_num, by rw [HST.out, HQ.out, HSS.out]; simp, below_next HBL.out hb6⟩, by simp [intOf]; omega⟩
          · have hss : decide (e.2 ≤ x.2) = false := by simpa using hs
            have HSS := Lib.hid hss
            go_wp2
            refine wp_region_qb (by kernel_rfl) (by kernel_rfl) ?_
            repeat (go_big_quiet_step (fail))
            refine wpQuiet_nil ?_
            intro w6 hb6
            go_wp2
            exact ⟨⟨k + 1, by omega, by go_num, by rw [HST.out, HQ.out, HSS.out]; simp, below_next HBL.out hb6⟩, by simp [intOf]; omega⟩
      · have hkn : es.take k = es := List.take_of_length_le (by omega)
        rw [hkn, hbt.out]
        have hc1 : wr.cell? ⟨w1.heap.size, 1, none⟩ = some (.int .i64 x.2) := HEr.out.cell 1
        have HR6 := Lib.hid (HR4.out.below HBL.out)
        have HX6 := Lib.hid (HX4.out.below HBL.out)
        have HB6 := Lib.hid (below_at HB4.out HB4.out.size HBL.out)
        clear hkn
        cases hw : worseE es x with
        | true =>
          have hfin : addE es x = (es, 1) := by rw [HADD.out, hw]; rfl
          have hd := hws.out.symm.trans hw
          simp only [Bool.and_eq_true, decide_eq_true_eq] at hd
          obtain ⟨hd1, hd2⟩ := hd
          rw [hfin] at HX6 ⊢
          clear hw hfin
          go_wp2_with fail
          refine (sameBoard_any _ _ _ _ _ _ _ _ _ HX6.out HR6.out (by omega) (by omega)).mono ?_
          rintro e w7 ⟨rfl, hb7⟩
          rw [show decide (es = es) = true by simp]
          go_wp2
          go_ret
          exact ⟨rfl, below_at HB6.out HB6.out.size hb7⟩
        | false =>
          have hd := hws.out.symm.trans hw
          by_cases h4 : 4 ≤ cntE x.2 (withoutE x.1 es)
          · have hfin : addE es x = (es, 2) := by rw [HADD.out, hw, if_neg (by simp), if_pos h4]
            rw [hfin] at HX6 ⊢
            have h4' : (4 : Int) ≤ cntE x.2 (withoutE x.1 es) := by omega
            clear hw hfin
            by_cases hs0 : 0 ≤ scoreE x.1 es
            · have hs1 : ¬ scoreE x.1 es ≤ x.2 := by simpa [hs0] using hd
              clear hd
              go_wp2_with fail
              refine (sameBoard_any _ _ _ _ _ _ _ _ _ HX6.out HR6.out (by omega) (by omega)).mono ?_
              rintro e w7 ⟨rfl, hb7⟩
              rw [show decide (es = es) = true by simp]
              go_wp2
              go_ret
              exact ⟨rfl, below_at HB6.out HB6.out.size hb7⟩
            · clear hd
              go_wp2_with fail
              refine (sameBoard_any _ _ _ _ _ _ _ _ _ HX6.out HR6.out (by omega) (by omega)).mono ?_
              rintro e w7 ⟨rfl, hb7⟩
              rw [show decide (es = es) = true by simp]
              go_wp2
              go_ret
              exact ⟨rfl, below_at HB6.out HB6.out.size hb7⟩
          · have hfin : addE es x = (outE es x, 0) := by rw [HADD.out, hw, if_neg (by simp), if_neg h4]
            rw [hfin]
            have h4' : ¬ (4 : Int) ≤ cntE x.2 (withoutE x.1 es) := by omega
            clear hw hfin
            by_cases hs0 : 0 ≤ scoreE x.1 es
            · have hs1 : ¬ scoreE x.1 es ≤ x.2 := by simpa [hs0] using hd
              clear hd
              go_wp2
              go_ret
              exact ⟨rfl, HB6.out⟩
            · clear hd
              go_wp2
              go_ret
              exact ⟨rfl, HB6.out⟩

set_option maxRecDepth 100000 in
theorem lifted (os : Os) (started : os.Started) (H : Type) (enc : TypeId × Value → H) :
    ReturnsInHanded {} Try.checked os 16 .any (Rows.fnBoardCodesSpec.pre6 enc Try.prog Try.f16 Rows.fnBoardCodesRow.domain false) (Rows.fnBoardCodesSpec.post enc Try.prog Try.f16 false true false false) := by
  refine returnsInHanded_of_change (C := Try.checked) own_ started (by kernel_rfl) Try.func16
    (ChangeSpec.witness6 (enc := enc) (C := Try.checked) false ⟨#[], #[.slice none 0 0], []⟩ 8 (by kernel_rfl) (by kernel_rfl) (by kernel_rfl) (by kernel_rfl)) ?_
  intro W base args ds gs before hval0 hW hcnd _
  have hval : ∀ (j : Nat) t v, Try.f16.params[j]? = some t → args[j]? = some v → Value.okWide Try.prog W .any base t v := hval0
  have hW' := hW
  obtain ⟨p, q, hA0, hV, rfl, hfz, hnd⟩ := hW
  have hA : DataW.TrodAll enc Try.prog W 0 (fun _ => true) true Try.f16.params.toList args.toList ds p := hA0
  rw [Try.params16] at hA hval
  obtain ⟨v0, vs0, d0, ds0, p0, q0, hargs, rfl, rfl, h0, r0⟩ := trodAll_cons hA
  obtain ⟨rfl, rfl, rfl⟩ := trodAll_nil r0
  obtain rfl : args = #[v0] := by cases args; simp_all
  obtain ⟨rfl, rfl⟩ := trodVars_none hV
  obtain ⟨a0, len0, cap0, rfl⟩ := okWide_slice Try.underlying32 (hval 0 32 v0 rfl rfl)
  have k0 := h0
  have lt0 : ∀ x ∈ p0, x.block < W.heap.size := by obtain ⟨m, hm⟩ := k0; exact DataW.trod_lt m _ _ _ hm
  obtain ⟨z0, w0⟩ : ∃ zs, BytesIn W a0 len0 cap0 zs := by
    obtain ⟨fuel, hf⟩ := h0
    exact open_BytesIn Try.underlying32 Try.underlying5 (by kernel_rfl) (by simpa [Value.cells] using hf)
  clear hA0 hval0
  refine (walk a0 len0 cap0 z0 W w0).mono fun e W' ⟨he, bel⟩ => ?_
  subst he
  exact ⟨_, rfl, _, _, _, [], _, [], hW', trodAll_mk1 (shut_bool Try.underlying4 _), (trodAll_cons_mk (Below.trod laidOut_ (by kernel_rfl) (of_decide_eq_true (by kernel_rfl)) k0 bel lt0) trodAll_mk0), rfl, bel.frame _, fun h => by cases h⟩

theorem closed_ : joinedFacts Try.prog 16 Try.f16 Rows.fnBoardCodesSpec Rows.fnBoardCodesRow = true :=
  joined_by mayEnter_ liftsFinal_ make_ (by kernel_rfl) laidOut_ mapsRowed_ (by kernel_rfl) (by kernel_rfl) rfl stops_ rfl stopKnobs_ (by kernel_rfl) (by kernel_rfl) (by kernel_rfl) (by kernel_rfl) (by kernel_rfl) (by kernel_rfl) (by kernel_rfl) (by kernel_rfl) (by kernel_rfl) (by kernel_rfl) rfl stopsHeard_ rfl rfl rfl (by kernel_rfl)
theorem over : Rows.fnBoardCodesRow.holds Try.pinned (OpenSpec.ofChange Rows.fnBoardCodesSpec) :=
  OpenClaim.holds_of_wide 16 Try.f16 rfl rfl rfl rfl rfl rfl rfl ⟨rfl, rfl, rfl, rfl, rfl⟩ rfl rfl rfl rfl rfl (by kernel_rfl) Try.func16 closed_
    (of_decide_eq_true (by kernel_rfl)) (by unfold Func.isWrapper; first | (rw [if_pos (by decide +kernel)]; kernel_rfl) | (rw [if_neg (by decide +kernel)]; exact ⟨rfl, rfl⟩))
    (fun os started H enc _ => lifted os started H enc)

theorem proved : Rows.FnBoardCodesSaid := over
#print axioms proved
end Go.Proofs.Ytjafdiacgaiphaa.fnBoardCodes

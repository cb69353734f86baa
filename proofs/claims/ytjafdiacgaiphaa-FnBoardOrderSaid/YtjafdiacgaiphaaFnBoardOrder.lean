/-
  FnBoardOrder returns true whatever the code; nothing that was there is written. No condition.
-/
import Derived.Test.YtjafdiacgaiphaaFb
import Derived.Test.YtjafdiacgaiphaaDx
import Derived.Test.YtjafdiacgaiphaaPo
import Derived.Test.YtjafdiacgaiphaaAi
import Derived.Test.YtjafdiacgaiphaaSm
namespace Go.Proofs.Ytjafdiacgaiphaa.fnBoardOrder
open Go.RowKit Go.ChangeShapes Go.WideShapes Go.ChangeAt Go.Joins
set_option linter.unusedVariables false

/-- ahead of the new entry no score is greater, behind it every score is -/
theorem order_at {es : List Ent} {x : Ent} (hv : validE es = true) (hc : cntE x.2 (withoutE x.1 es) < 4) (k : Nat) (e : Ent) (he : (outE es x)[k]? = some e) : (k < cntE x.2 (withoutE x.1 es) → e.2 ≤ x.2) ∧ (cntE x.2 (withoutE x.1 es) < k → x.2 < e.2) := by
  have hl := cntE_le x.2 (withoutE x.1 es)
  have hlt : ((withoutE x.1 es).take (cntE x.2 (withoutE x.1 es))).length = cntE x.2 (withoutE x.1 es) := by rw [List.length_take, Nat.min_eq_left hl]
  rw [out_split es x hc] at he
  refine ⟨fun hk => ?_, fun hk => ?_⟩
  · rw [List.getElem?_append_left (by omega)] at he
    exact take_cnt e (List.mem_of_getElem? he)
  · rw [List.getElem?_append_right (by omega), hlt, show k - cntE x.2 (withoutE x.1 es) = (k - cntE x.2 (withoutE x.1 es) - 1) + 1 by omega, List.getElem?_cons_succ] at he
    exact drop_cnt (Good.of (valid_without (p := x.1) hv)).2.2.2 e (List.mem_of_mem_take (List.mem_of_getElem? he))

set_option maxRecDepth 100000 in
set_option maxHeartbeats 4000000 in
theorem walk (a0 : Option Addr) (len0 cap0 : Nat) (z0 : List Int) (w : World) (w0 : BytesIn w a0 len0 cap0 z0) :
    Calls Try.prog 13 #[.slice a0 len0 cap0] w fun e w' => e = .returned (.bool true) ∧ Below w.heap.size w w' := by
  have hz := w0.bd
  obtain ⟨hr, hlc, hcm, _⟩ := w0
  by_cases hsz : (1048576 : Int) < len0
  · clear hr hlc hcm hz
    go_enter Try.func13, Try.ntmps13
    go_wp2
    go_ret
    exact ⟨rfl, Below.refl _ _⟩
  skip
  have H1 := Lib.hid (drawBoardAdd_any a0 len0 cap0 z0 w hr hz hlc hcm)
  clear hr hlc hcm hz
  go_enter Try.func13, Try.ntmps13
  go_wp2_with fail
  refine H1.out.mono ?_
  rintro e w1 ⟨A, c, es, x, rfl, hO, hl, hB⟩
  have HR1 := Lib.hid hO.rdE
  have hlec := hO.le
  have HB1 := Lib.hid hB
  clear H1 hO hB
  have hla : (addE es x).1.length ≤ 8 := addE_len8 es x hl
  have HWa : Hid (Below w1.heap.size w1 (w1.alloc (.cells #[.int .i64 x.1, .int .i64 x.2] 38))) := (Below.refl _ _).alloc (Nat.le_refl _) _
  have HEa := Lib.hid (Blk.new w1 38 #[.int .i64 x.1, .int .i64 x.2])
  go_wp2_with fail
  refine (implBoardAdd_any _ _ _ es x _ (HR1.out.below HWa.out) (by omega) hlec).mono ?_
  rintro e w2 ⟨A2, c2, rfl, hO2, hb2⟩
  have HR2 := Lib.hid ((HR1.out.below HWa.out).below hb2)
  have HE2 := Lib.hid (HEa.out.next hb2)
  have HB2 := Lib.hid (below_at HB1.out HB1.out.size (below_next HWa.out hb2))
  have HX2 := Lib.hid hO2.rdE
  have hlec2 := hO2.le
  have hc0 : w2.cell? ⟨w1.heap.size, 0, none⟩ = some (.int .i64 x.1) := HE2.out.cell 0
  have hc1 : w2.cell? ⟨w1.heap.size, 1, none⟩ = some (.int .i64 x.2) := HE2.out.cell 1
  clear hb2 hO2 HWa HEa
  go_wp2_with fail
  refine (specBoardAdd_any _ _ _ es x _ HR2.out (by omega)).mono ?_
  rintro e w3 ⟨A3, c3, rfl, hO3, hb3⟩
  have HR3 := Lib.hid (HR2.out.below hb3)
  have HX3 := Lib.hid (HX2.out.below hb3)
  have HE3 := Lib.hid (HE2.out.next hb3)
  have HB3 := Lib.hid (below_at HB2.out HB2.out.size hb3)
  have HY3 := Lib.hid hO3.rdE
  clear hb3 HB2 hO3 hc0 hc1
  go_wp2_with fail
  refine (sameBoard_any _ _ _ _ _ _ _ _ _ HX3.out HY3.out (by omega) (by omega)).mono ?_
  rintro e w4 ⟨rfl, hb4⟩
  rw [show decide ((addE es x).1 = (addE es x).1) = true by simp]
  have HR4 := Lib.hid (HR3.out.below hb4)
  have HX4 := Lib.hid (HX3.out.below hb4)
  have HY4 := Lib.hid (HY3.out.below hb4)
  have HE4 := Lib.hid (HE3.out.next hb4)
  have HB4 := Lib.hid (below_at HB3.out HB3.out.size hb4)
  clear hb4 HR2 HR3 HX2 HX3 HY3 HE2 HE3 HB3
  by_cases h3 : (addE es x).2 = 0
  · obtain ⟨hvd, hok, _, hc4, hfin⟩ := addE_done h3
    obtain ⟨hfi, hgi⟩ := out_find (es := es) (x := x) hc4
    have hov := out_valid hvd hok
    have hol : (outE es x).length ≤ 8 := by rw [hfin] at hla; exact hla
    have HORD := Lib.hid (fun k e he => order_at hvd hc4 k e he : ∀ k e, (outE es x)[k]? = some e → (k < cntE x.2 (withoutE x.1 es) → e.2 ≤ x.2) ∧ (cntE x.2 (withoutE x.1 es) < k → x.2 < e.2))
    have hrk : rankE (outE es x) x.1 = cntE x.2 (withoutE x.1 es) + 1 := by simp [rankE, hov, hfi]
    have HRK := Lib.hid hrk
    rw [hfin] at HX4 HY4 hlec2 ⊢
    have hc0 : w4.cell? ⟨w1.heap.size, 0, none⟩ = some (.int .i64 x.1) := HE4.out.cell 0
    obtain ⟨m, hm⟩ : ∃ m, m = cntE x.2 (withoutE x.1 es) := ⟨_, rfl⟩
    have hm4 : m < 4 := by omega
    rw [← hm] at HORD HRK
    clear hfin hvd hok hc4 h3 hla hfi hgi hov hrk hm
    go_wp2_with fail
    refine (implBoardRank_any _ _ _ _ _ _ HX4.out (by omega) hlec2).mono ?_
    rintro e w5 ⟨rfl, hb5⟩
    rw [HRK.out]
    have HX5 := Lib.hid (HX4.out.below hb5)
    have HE5 := Lib.hid (HE4.out.next hb5)
    have HB5 := Lib.hid (below_at HB4.out HB4.out.size hb5)
    have qm : (m : Int) + 1 - 1 = m := by omega
    clear hb5 hc0
    go_wp2_with fail
    go_loopw [10] (fun i wr => ∃ k : Nat, k ≤ (outE es x).length ∧ i = .int .i64 k ∧ Hid (Below w5.heap.size w5 wr)) (fun i _ => (outE es x).length - (intOf i).toNat)
    case atStart => exact ⟨0, Nat.zero_le _, rfl, Below.refl _ _⟩
    case round =>
      obtain ⟨k, hk, rfl, HBL⟩ := hrel
      by_cases hlt : k < (outE es x).length
      · have HEr := Lib.hid (HE5.out.next HBL.out)
        obtain ⟨b, off, e, hA, hb, he, h0, h1⟩ := (HX5.out.below HBL.out).at_ hlt
        subst hA
        obtain ⟨ho1, ho2⟩ := HORD.out k e he
        have c1 : wr.cell? ⟨w1.heap.size, 1, none⟩ = some (.int .i64 x.2) := HEr.out.cell 1
        have g1 := fun d os => cell_regrown c1 d os
        have h1' := fun d os => cell_regrown h1 d os
        clear he h0 h1 c1
        rcases Nat.lt_trichotomy k m with hkm | hkm | hkm
        · have hs : decide (x.2 < e.2) = false := by have := ho1 hkm; simpa using this
          have hkm2 : ¬ m < k := by omega
          clear ho1 ho2
          go_wp2
          refine wp_region_qb (by kernel_rfl) (by kernel_rfl) ?_
          repeat (go_big_quiet_step (fail))
          refine wpQuiet_nil ?_
          intro w6 hb6
          go_wp2
          exact ⟨⟨k + 1, by omega, by go_num, below_next HBL.out hb6⟩, by simp [intOf]; omega⟩
        · have hk1 : ¬ k < m := by omega
          have hk2 : ¬ m < k := by omega
          clear ho1 ho2 hkm
          go_wp2
          refine wp_region_qb (by kernel_rfl) (by kernel_rfl) ?_
          repeat (go_big_quiet_step (fail))
          refine wpQuiet_nil ?_
          intro w6 hb6
          go_wp2
          exact ⟨⟨k + 1, by omega, by go_num, below_next HBL.out hb6⟩, by simp [intOf]; omega⟩
        · have hs : decide (e.2 ≤ x.2) = false := by have := ho2 hkm; simp; omega
          have hkm2 : ¬ k < m := by omega
          clear ho1 ho2
          go_wp2
          refine wp_region_qb (by kernel_rfl) (by kernel_rfl) ?_
          repeat (go_big_quiet_step (fail))
          refine wpQuiet_nil ?_
          intro w6 hb6
          go_wp2
          exact ⟨⟨k + 1, by omega, by go_num, below_next HBL.out hb6⟩, by simp [intOf]; omega⟩
      · have q0 : (0 : Int) ≤ m := by omega
        go_wp2
        go_ret
        exact ⟨ret_bool (by simp), below_at HB5.out HB5.out.size HBL.out⟩
  · go_wp2_with fail
    refine (sameBoard_any _ _ _ _ _ _ _ _ _ HX4.out HY4.out (by omega) (by omega)).mono ?_
    rintro e w6 ⟨rfl, hb6⟩
    rw [show decide ((addE es x).1 = (addE es x).1) = true by simp]
    go_wp2
    go_ret
    exact ⟨rfl, below_at HB4.out HB4.out.size hb6⟩

set_option maxRecDepth 100000 in
theorem lifted (os : Os) (started : os.Started) (H : Type) (enc : TypeId × Value → H) :
    ReturnsInHanded {} Try.checked os 13 .any (Rows.fnBoardOrderSpec.pre6 enc Try.prog Try.f13 Rows.fnBoardOrderRow.domain false) (Rows.fnBoardOrderSpec.post enc Try.prog Try.f13 false true false false) := by
  refine returnsInHanded_of_change (C := Try.checked) own_ started (by kernel_rfl) Try.func13
    (ChangeSpec.witness6 (enc := enc) (C := Try.checked) false ⟨#[], #[.slice none 0 0], []⟩ 8 (by kernel_rfl) (by kernel_rfl) (by kernel_rfl) (by kernel_rfl)) ?_
  intro W base args ds gs before hval0 hW hcnd _
  have hval : ∀ (j : Nat) t v, Try.f13.params[j]? = some t → args[j]? = some v → Value.okWide Try.prog W .any base t v := hval0
  have hW' := hW
  obtain ⟨p, q, hA0, hV, rfl, hfz, hnd⟩ := hW
  have hA : DataW.TrodAll enc Try.prog W 0 (fun _ => true) true Try.f13.params.toList args.toList ds p := hA0
  rw [Try.params13] at hA hval
  obtain ⟨v0, vs0, d0, ds0, p0, q0, hargs, rfl, rfl, h0, r0⟩ := trodAll_cons hA
  obtain ⟨rfl, rfl, rfl⟩ := trodAll_nil r0
  obtain rfl : args = #[v0] := by cases args; simp_all
  obtain ⟨rfl, rfl⟩ := trodVars_none hV
  obtain ⟨a0, len0, cap0, rfl⟩ := okWide_slice Try.underlying32 (hval 0 32 v0 rfl rfl)
  have k0 := h0
  have lt0 : ∀ x ∈ p0, x.block < W.heap.size := by obtain ⟨m, hm⟩ := k0; exact DataW.trod_lt m _ _ _ hm
  obtain ⟨z0, w0⟩ : ∃ zs, BytesIn W a0 len0 cap0 zs := by
    obtain ⟨fuel, hf⟩ := h0
    exact open_BytesIn Try.underlying32 Try.underlying5 (by kernel_rfl) (by simpa [Value.cells] using hf)
  clear hA0 hval0
  refine (walk a0 len0 cap0 z0 W w0).mono fun e W' ⟨he, bel⟩ => ?_
  subst he
  exact ⟨_, rfl, _, _, _, [], _, [], hW', trodAll_mk1 (shut_bool Try.underlying4 _), (trodAll_cons_mk (Below.trod laidOut_ (by kernel_rfl) (of_decide_eq_true (by kernel_rfl)) k0 bel lt0) trodAll_mk0), rfl, bel.frame _, fun h => by cases h⟩

theorem closed_ : joinedFacts Try.prog 13 Try.f13 Rows.fnBoardOrderSpec Rows.fnBoardOrderRow = true :=
  joined_by mayEnter_ liftsFinal_ make_ (by kernel_rfl) laidOut_ mapsRowed_ (by kernel_rfl) (by kernel_rfl) rfl stops_ rfl stopKnobs_ (by kernel_rfl) (by kernel_rfl) (by kernel_rfl) (by kernel_rfl) (by kernel_rfl) (by kernel_rfl) (by kernel_rfl) (by kernel_rfl) (by kernel_rfl) (by kernel_rfl) rfl stopsHeard_ rfl rfl rfl (by kernel_rfl)
theorem over : Rows.fnBoardOrderRow.holds Try.pinned (OpenSpec.ofChange Rows.fnBoardOrderSpec) :=
  OpenClaim.holds_of_wide 13 Try.f13 rfl rfl rfl rfl rfl rfl rfl ⟨rfl, rfl, rfl, rfl, rfl⟩ rfl rfl rfl rfl rfl (by kernel_rfl) Try.func13 closed_
    (of_decide_eq_true (by kernel_rfl)) (by unfold Func.isWrapper; first | (rw [if_pos (by decide +kernel)]; kernel_rfl) | (rw [if_neg (by decide +kernel)]; exact ⟨rfl, rfl⟩))
    (fun os started H enc _ => lifted os started H enc)

theorem proved : Rows.FnBoardOrderSaid := over
#print axioms proved
end Go.Proofs.Ytjafdiacgaiphaa.fnBoardOrder

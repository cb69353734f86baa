/-
  FnBoardRemove returns true whatever the code; nothing that was there is written. No condition.
-/
import Derived.Test.YtjafdiacgaiphaaFb
import Derived.Test.YtjafdiacgaiphaaDx
import Derived.Test.YtjafdiacgaiphaaRi
import Derived.Test.YtjafdiacgaiphaaSm
namespace Go.Proofs.Ytjafdiacgaiphaa.fnBoardRemove
open Go.RowKit Go.ChangeShapes Go.WideShapes Go.ChangeAt Go.Joins
set_option linter.unusedVariables false

theorem without_lt (p : Int) : ∀ (es : List Ent) (j : Int), 0 ≤ j → (0 ≤ findE p es j ↔ (withoutE p es).length < es.length)
  | [], j, _ => by simp [findE, withoutE]
  | e :: r, j, hj => by
    have ih := without_lt p r (j + 1) (by omega)
    have hle : (withoutE p r).length ≤ r.length := List.length_filter_le _ _
    by_cases hp : e.1 = p
    · have h1 : withoutE p (e :: r) = withoutE p r := by unfold withoutE; rw [List.filter_cons, if_neg (by simp [hp])]
      rw [h1, findE, if_pos hp, List.length_cons]
      omega
    · have h1 : withoutE p (e :: r) = e :: withoutE p r := by unfold withoutE; rw [List.filter_cons, if_pos (by simp [hp])]
      rw [h1, findE, if_neg hp, ih, List.length_cons, List.length_cons]
      omega
theorem valid_without {p : Int} {es : List Ent} (h : validE es = true) : validE (withoutE p es) = true := by
  obtain ⟨h1, h2, h3, h4⟩ := Good.of h
  have hs : (withoutE p es).Sublist es := List.filter_sublist
  exact Good.valid ⟨Nat.le_trans hs.length_le h1, fun e he => h2 e (hs.subset he), h3.sublist hs, h4.sublist hs⟩

set_option maxRecDepth 100000 in
set_option maxHeartbeats 4000000 in
theorem walk (a0 : Option Addr) (len0 cap0 : Nat) (z0 : List Int) (w : World) (w0 : BytesIn w a0 len0 cap0 z0) :
    Calls Try.prog 10 #[.slice a0 len0 cap0] w fun e w' => e = .returned (.bool true) ∧ Below w.heap.size w w' := by
  have hz := w0.bd
  obtain ⟨hr, hlc, hcm, _⟩ := w0
  by_cases hsz : (1048576 : Int) < len0
  · clear hr hlc hcm hz
    go_enter Try.func10, Try.ntmps10
    go_wp2
    go_ret
    exact ⟨rfl, Below.refl _ _⟩
  · have H1 := Lib.hid (drawBoardRemove_any a0 len0 cap0 z0 w hr hz hlc hcm)
    clear hr hlc hcm hz
    go_enter Try.func10, Try.ntmps10
    go_wp2_with fail
    refine H1.out.mono ?_
    rintro e w1 ⟨A, c, es, p, rfl, hv0, hv1, hO, hl, hB⟩
    have HR := Lib.hid hO.rdE
    have hlec := hO.le
    have HB := Lib.hid hB
    clear H1 hO hB
    have hlr : (removeE es p).1.length ≤ es.length := by
      unfold removeE; split
      · exact List.length_filter_le _ _
      · exact Nat.zero_le _
    go_wp2_with fail
    refine (implBoardRemove_any _ _ _ _ _ _ HR.out (by omega) hlec).mono ?_
    rintro e w2 ⟨A2, c2, rfl, hO2, hb2⟩
    have HR2 := Lib.hid (HR.out.below hb2)
    have HB2 := Lib.hid (below_at HB.out HB.out.size hb2)
    have HX2 := Lib.hid hO2.rdE
    have hlec2 := hO2.le
    clear hb2 hO2
    go_wp2_with fail
    refine (specBoardRemove_any _ _ _ _ _ _ HR2.out (by omega)).mono ?_
    rintro e w3 ⟨A3, c3, rfl, hO3, hb3⟩
    have HR3 := Lib.hid (HR2.out.below hb3)
    have HX3 := Lib.hid (HX2.out.below hb3)
    have HB3 := Lib.hid (below_at HB2.out HB2.out.size hb3)
    have HY3 := Lib.hid hO3.rdE
    clear hb3 HR HB HR2 HB2 hO3
    go_wp2_with fail
    refine (sameBoard_any _ _ _ _ _ _ _ _ _ HX3.out HY3.out (by omega) (by omega)).mono ?_
    rintro e w4 ⟨rfl, hb4⟩
    rw [show decide ((removeE es p).1 = (removeE es p).1) = true by simp]
    have HR4 := Lib.hid (HR3.out.below hb4)
    have HX4 := Lib.hid (HX3.out.below hb4)
    have HY4 := Lib.hid (HY3.out.below hb4)
    have HB4 := Lib.hid (below_at HB3.out HB3.out.size hb4)
    clear hb4
    go_wp2_with fail
    refine (specBoardValid_v _ _ _ _ _ HR4.out (by omega)).mono ?_
    rintro e w5 ⟨rfl, hb5⟩
    have HR5 := Lib.hid (HR4.out.below hb5)
    have HX5 := Lib.hid (HX4.out.below hb5)
    have HY5 := Lib.hid (HY4.out.below hb5)
    have HB5 := Lib.hid (below_at HB4.out HB4.out.size hb5)
    clear hb5
    cases hvd : validE es with
    | false =>
      clear hvd
      go_wp2_with fail
      refine (sameBoard_any _ _ _ _ _ _ _ _ _ HX5.out HY5.out (by omega) (by omega)).mono ?_
      rintro e w6 ⟨rfl, hb6⟩
      rw [show decide ((removeE es p).1 = (removeE es p).1) = true by simp]
      go_wp2
      go_ret
      exact ⟨rfl, below_at HB5.out HB5.out.size hb6⟩
    | true =>
      have hre : removeE es p = (withoutE p es, decide (0 ≤ findE p es 0)) := by simp [removeE, hvd]
      have HVW := Lib.hid (valid_without (p := p) hvd)
      have HLT := Lib.hid (show decide (0 ≤ findE p es 0) = decide (((withoutE p es).length : Int) < es.length) by rw [decide_eq_decide, without_lt p es 0 (Int.le_refl _)]; omega)
      rw [hre] at HX5 HY5 hlr hlec2 ⊢
      obtain ⟨i0, hi0, hz0, hz1, hz2⟩ := info_parts infoE
      have HI := Lib.hid hi0
      have HZ := Lib.hid hz0
      have HS := Lib.hid hz1
      have HBY := Lib.hid hz2
      clear hi0 hz0 hz1 hz2 hvd hre HX2 HX3 HX4 HY3 HY4
      go_wp2_with fail
      go_loopw [9, 10] (fun o i wr => ∃ (k : Nat) (A' : Option Addr) (c' : Nat), k ≤ es.length ∧ i = .int .i64 k ∧ o = .slice A' (withoutE p (es.take k)).length c' ∧ Hid (Below w5.heap.size w5 wr ∧ OwE w5.heap.size wr A' (withoutE p (es.take k)).length c' (withoutE p (es.take k)))) (fun _ i _ => es.length - (intOf i).toNat)
      case atStart => exact ⟨0, _, _, Nat.zero_le _, rfl, rfl, (Below.refl _ _).alloc (Nat.le_refl _) _, Ow.bare _ _ _ _ _⟩
      case round =>
        obtain ⟨k, A', c', hk, rfl, rfl, HBL⟩ := hrel
        have hlw := withoutE_len p es k
        by_cases hlt : k < es.length
        · obtain ⟨b, off, e, rfl, hb, he, h0, h1⟩ := (HR5.out.below HBL.out.1).at_ hlt
          have HST := Lib.hid (withoutE_step p es k e he)
          clear he
          by_cases hp : e.1 = p
          · have hq : (e.1 != p) = false := by simpa using hp
            have HE : Hid (withoutE p (es.take (k + 1)) = withoutE p (es.take k)) := by
              show _ = _
              rw [HST.out, hq]; simp
            have HP := Lib.hid hp; clear hp
            go_wp2
            exact ⟨⟨k + 1, A', c', by omega, by go_num, by rw [HE.out], by rw [HE.out]; exact HBL.out⟩, by simp [intOf]; omega⟩
          · have hq : (e.1 != p) = true := by simpa using hp
            have HE : Hid (withoutE p (es.take (k + 1)) = withoutE p (es.take k) ++ [e]) := by
              show _ = _
              rw [HST.out, hq]; simp
            have HP := Lib.hid hp; clear hp
            have hsz := HBL.out.1.size
            go_wp2_with (at_builtin; refine wpList_append_ow _ rfl (.tmp 67) (.tmp 72) _ rfl w5.heap.size 38 i0 _ 2 16 Try.underlying25 HI.out HZ.out HS.out HBY.out rfl (by omega) _ _ _ _ rfl (Ow.alloc HBL.out.2 _) _ 1 1 (cellsE [e]) rfl (Src.blk (Blk.new _ _ _) rfl) (cellsE_one _) (by unfold maxLen; omega) (by omega) (by simp; omega) ?_; intro A2 c2 w2 hown2 hg2 _)
            have HO := Lib.hid hown2
            have HG := Lib.hid hg2
            clear hown2 hg2
            go_wp2
            have hb2 : Below w5.heap.size w5 w2 := (Ow.alloc HBL.out.2 _).grown HG.out (HBL.out.1.alloc hsz _) (Nat.le_refl _) (by simp; omega)
            refine ⟨⟨k + 1, A2, c2, by omega, by go_num, by rw [HE.out]; simp, hb2, ?_⟩, by simp [intOf]; omega⟩
            rw [HE.out]
            have := HO.out
            rw [← cellsE_append] at this
            simpa [OwE] using this
        · have hkn : es.take k = es := List.take_of_length_le (by omega)
          rw [hkn] at HBL ⊢
          have HX6 := Lib.hid (HX5.out.below HBL.out.1)
          clear hkn
          go_wp2_with fail
          refine (sameBoard_any _ _ _ _ _ _ _ _ _ HX6.out HBL.out.2.rdE (by omega) (by omega)).mono ?_
          rintro e w7 ⟨rfl, hb7⟩
          rw [show decide (withoutE p es = withoutE p es) = true by simp]
          have HX7 := Lib.hid (HX6.out.below hb7)
          have HB7 := Lib.hid (below_at HB5.out HB5.out.size (below_next HBL.out.1 hb7))
          clear hb7
          simp only [HLT.out]
          go_wp2_with fail
          refine (implBoardValid_v _ _ _ _ _ HX7.out (by omega) hlec2).mono ?_
          rintro e w8 ⟨rfl, hb8⟩
          rw [HVW.out]
          go_wp2
          go_ret
          exact ⟨rfl, below_at HB7.out HB7.out.size hb8⟩

set_option maxRecDepth 100000 in
theorem lifted (os : Os) (started : os.Started) (H : Type) (enc : TypeId × Value → H) :
    ReturnsInHanded {} Try.checked os 10 .any (Rows.fnBoardRemoveSpec.pre6 enc Try.prog Try.f10 Rows.fnBoardRemoveRow.domain false) (Rows.fnBoardRemoveSpec.post enc Try.prog Try.f10 false true false false) := by
  refine returnsInHanded_of_change (C := Try.checked) own_ started (by kernel_rfl) Try.func10
    (ChangeSpec.witness6 (enc := enc) (C := Try.checked) false ⟨#[], #[.slice none 0 0], []⟩ 8 (by kernel_rfl) (by kernel_rfl) (by kernel_rfl) (by kernel_rfl)) ?_
  intro W base args ds gs before hval0 hW hcnd _
  have hval : ∀ (j : Nat) t v, Try.f10.params[j]? = some t → args[j]? = some v → Value.okWide Try.prog W .any base t v := hval0
  have hW' := hW
  obtain ⟨p, q, hA0, hV, rfl, hfz, hnd⟩ := hW
  have hA : DataW.TrodAll enc Try.prog W 0 (fun _ => true) true Try.f10.params.toList args.toList ds p := hA0
  rw [Try.params10] at hA hval
  obtain ⟨v0, vs0, d0, ds0, p0, q0, hargs, rfl, rfl, h0, r0⟩ := trodAll_cons hA
  obtain ⟨rfl, rfl, rfl⟩ := trodAll_nil r0
  obtain rfl : args = #[v0] := by cases args; simp_all
  obtain ⟨rfl, rfl⟩ := trodVars_none hV
  obtain ⟨a0, len0, cap0, rfl⟩ := okWide_slice Try.underlying32 (hval 0 32 v0 rfl rfl)
  have k0 := h0
  have lt0 : ∀ x ∈ p0, x.block < W.heap.size := by obtain ⟨m, hm⟩ := k0; exact DataW.trod_lt m _ _ _ hm
  obtain ⟨z0, w0⟩ : ∃ zs, BytesIn W a0 len0 cap0 zs := by
    obtain ⟨fuel, hf⟩ := h0
    exact open_BytesIn Try.underlying32 Try.underlying5 (by kernel_rfl) (by simpa [Value.cells] using hf)
  clear hA0 hval0
  refine (walk a0 len0 cap0 z0 W w0).mono fun e W' ⟨he, bel⟩ => ?_
  subst he
  exact ⟨_, rfl, _, _, _, [], _, [], hW', trodAll_mk1 (shut_bool Try.underlying4 _), (trodAll_cons_mk (Below.trod laidOut_ (by kernel_rfl) (of_decide_eq_true (by kernel_rfl)) k0 bel lt0) trodAll_mk0), rfl, bel.frame _, fun h => by cases h⟩

theorem closed_ : joinedFacts Try.prog 10 Try.f10 Rows.fnBoardRemoveSpec Rows.fnBoardRemoveRow = true :=
  joined_by mayEnter_ liftsFinal_ make_ (by kernel_rfl) laidOut_ mapsRowed_ (by kernel_rfl) (by kernel_rfl) rfl stops_ rfl stopKnobs_ (by kernel_rfl) (by kernel_rfl) (by kernel_rfl) (by kernel_rfl) (by kernel_rfl) (by kernel_rfl) (by kernel_rfl) (by kernel_rfl) (by kernel_rfl) (by kernel_rfl) rfl stopsHeard_ rfl rfl rfl (by kernel_rfl)
theorem over : Rows.fnBoardRemoveRow.holds Try.pinned (OpenSpec.ofChange Rows.fnBoardRemoveSpec) :=
  OpenClaim.holds_of_wide 10 Try.f10 rfl rfl rfl rfl rfl rfl rfl ⟨rfl, rfl, rfl, rfl, rfl⟩ rfl rfl rfl rfl rfl (by kernel_rfl) Try.func10 closed_
    (of_decide_eq_true (by kernel_rfl)) (by unfold Func.isWrapper; first | (rw [if_pos (by decide +kernel)]; kernel_rfl) | (rw [if_neg (by decide +kernel)]; exact ⟨rfl, rfl⟩))
    (fun os started H enc _ => lifted os started H enc)

theorem proved : Rows.FnBoardRemoveSaid := over
#print axioms proved
end Go.Proofs.Ytjafdiacgaiphaa.fnBoardRemove

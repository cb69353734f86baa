/-
  FnBoardRemoveAdd returns true whatever the code; nothing that was there is written. No condition.
-/
import Derived.Test.YtjafdiacgaiphaaFb
import Derived.Test.YtjafdiacgaiphaaDx
import Derived.Test.YtjafdiacgaiphaaPb
import Derived.Test.YtjafdiacgaiphaaAi
import Derived.Test.YtjafdiacgaiphaaSm
namespace Go.Proofs.Ytjafdiacgaiphaa.fnBoardRemoveAdd
open Go.RowKit Go.ChangeShapes Go.WideShapes Go.ChangeAt Go.Joins
set_option linter.unusedVariables false

set_option maxRecDepth 100000 in
set_option maxHeartbeats 4000000 in
theorem walk (a0 : Option Addr) (len0 cap0 : Nat) (z0 : List Int) (w : World) (w0 : BytesIn w a0 len0 cap0 z0) :
    Calls Try.prog 18 #[.slice a0 len0 cap0] w fun e w' => e = .returned (.bool true) ∧ Below w.heap.size w w' := by
  have hz := w0.bd
  obtain ⟨hr, hlc, hcm, _⟩ := w0
  by_cases hsz : (1048576 : Int) < len0
  · clear hr hlc hcm hz
    go_enter Try.func18, Try.ntmps18
    go_wp2
    go_ret
    exact ⟨rfl, Below.refl _ _⟩
  · have H1 := Lib.hid (drawBoardRemove_any a0 len0 cap0 z0 w hr hz hlc hcm)
    clear hr hlc hcm hz
    go_enter Try.func18, Try.ntmps18
    go_wp2_with fail
    refine H1.out.mono ?_
    rintro e w1 ⟨A, c, es, p, rfl, hv0, hv1, hO, hl, hB⟩
    have HR := Lib.hid hO.rdE
    have hlec := hO.le
    have HB := Lib.hid hB
    clear H1 hO hB
    have hlr : (removeE es p).1.length ≤ es.length := by
      unfold removeE; split
      · exact List.length_filter_le _ _
      · exact Nat.zero_le _
    go_wp2_with fail
    refine (implBoardRemove_any _ _ _ _ _ _ HR.out (by omega) hlec).mono ?_
    rintro e w2 ⟨A2, c2, rfl, hO2, hb2⟩
    have HR2 := Lib.hid (HR.out.below hb2)
    have HB2 := Lib.hid (below_at HB.out HB.out.size hb2)
    have HX2 := Lib.hid hO2.rdE
    have hlec2 := hO2.le
    clear hb2 hO2
    go_wp2_with fail
    refine (specBoardRemove_any _ _ _ _ _ _ HR2.out (by omega)).mono ?_
    rintro e w3 ⟨A3, c3, rfl, hO3, hb3⟩
    have HR3 := Lib.hid (HR2.out.below hb3)
    have HX3 := Lib.hid (HX2.out.below hb3)
    have HB3 := Lib.hid (below_at HB2.out HB2.out.size hb3)
    have HY3 := Lib.hid hO3.rdE
    clear hb3 HR HB HR2 HB2 hO3
    go_wp2_with fail
    refine (sameBoard_any _ _ _ _ _ _ _ _ _ HX3.out HY3.out (by omega) (by omega)).mono ?_
    rintro e w4 ⟨rfl, hb4⟩
    rw [show decide ((removeE es p).1 = (removeE es p).1) = true by simp]
    have HR4 := Lib.hid (HR3.out.below hb4)
    have HX4 := Lib.hid (HX3.out.below hb4)
    have HY4 := Lib.hid (HY3.out.below hb4)
    have HB4 := Lib.hid (below_at HB3.out HB3.out.size hb4)
    clear hb4
    cases hok : (removeE es p).2 with
    | false =>
      clear hok
      go_wp2_with fail
      refine (sameBoard_any _ _ _ _ _ _ _ _ _ HX4.out HY4.out (by omega) (by omega)).mono ?_
      rintro e w6 ⟨rfl, hb6⟩
      rw [show decide ((removeE es p).1 = (removeE es p).1) = true by simp]
      go_wp2
      go_ret
      exact ⟨rfl, below_at HB4.out HB4.out.size hb6⟩
    | true =>
      have hvd : validE es = true := by
        cases hq : validE es with
        | true => rfl
        | false => simp [removeE, hq] at hok
      have hre : removeE es p = (withoutE p es, decide (0 ≤ findE p es 0)) := by simp [removeE, hvd]
      have hf : 0 ≤ findE p es 0 := by rw [hre] at hok; simpa using hok
      have hag := add_again hvd hf
      have ha1 := Lib.hid hag.1
      have ha2 := Lib.hid hag.2
      rw [hre] at HX4 hlr hlec2 ⊢
      clear hok hvd hre hf hag HX2 HX3 HY3 HY4
      go_wp2_with fail
      refine (scoreOf_any _ _ _ _ _ _ HR4.out (by omega)).mono ?_
      rintro e w5 ⟨rfl, rfl⟩
      go_wp2_with fail
      refine (implBoardAdd_any _ _ _ (withoutE p es) (p, scoreE p es) _ HX4.out (by omega) hlec2).mono ?_
      rintro e w6 ⟨A6, c6, rfl, hO6, hb6⟩
      rw [ha1.out, ha2.out]
      have HB6 := Lib.hid (below_at HB4.out HB4.out.size hb6)
      clear hO6 hb6
      go_wp2
      go_ret
      exact ⟨ret_bool (by simp), HB6.out⟩

set_option maxRecDepth 100000 in
theorem lifted (os : Os) (started : os.Started) (H : Type) (enc : TypeId × Value → H) :
    ReturnsInHanded {} Try.checked os 18 .any (Rows.fnBoardRemoveAddSpec.pre6 enc Try.prog Try.f18 Rows.fnBoardRemoveAddRow.domain false) (Rows.fnBoardRemoveAddSpec.post enc Try.prog Try.f18 false true false false) := by
  refine returnsInHanded_of_change (C := Try.checked) own_ started (by kernel_rfl) Try.func18
    (ChangeSpec.witness6 (enc := enc) (C := Try.checked) false ⟨#[], #[.slice none 0 0], []⟩ 8 (by kernel_rfl) (by kernel_rfl) (by kernel_rfl) (by kernel_rfl)) ?_
  intro W base args ds gs before hval0 hW hcnd _
  have hval : ∀ (j : Nat) t v, Try.f18.params[j]? = some t → args[j]? = some v → Value.okWide Try.prog W .any base t v := hval0
  have hW' := hW
  obtain ⟨p, q, hA0, hV, rfl, hfz, hnd⟩ := hW
  have hA : DataW.TrodAll enc Try.prog W 0 (fun _ => true) true Try.f18.params.toList args.toList ds p := hA0
  rw [Try.params18] at hA hval
  obtain ⟨v0, vs0, d0, ds0, p0, q0, hargs, rfl, rfl, h0, r0⟩ := trodAll_cons hA
  obtain ⟨rfl, rfl, rfl⟩ := trodAll_nil r0
  obtain rfl : args = #[v0] := by cases args; simp_all
  obtain ⟨rfl, rfl⟩ := trodVars_none hV
  obtain ⟨a0, len0, cap0, rfl⟩ := okWide_slice Try.underlying32 (hval 0 32 v0 rfl rfl)
  have k0 := h0
  have lt0 : ∀ x ∈ p0, x.block < W.heap.size := by obtain ⟨m, hm⟩ := k0; exact DataW.trod_lt m _ _ _ hm
  obtain ⟨z0, w0⟩ : ∃ zs, BytesIn W a0 len0 cap0 zs := by
    obtain ⟨fuel, hf⟩ := h0
    exact open_BytesIn Try.underlying32 Try.underlying5 (by kernel_rfl) (by simpa [Value.cells] using hf)
  clear hA0 hval0
  refine (walk a0 len0 cap0 z0 W w0).mono fun e W' ⟨he, bel⟩ => ?_
  subst he
  exact ⟨_, rfl, _, _, _, [], _, [], hW', trodAll_mk1 (shut_bool Try.underlying4 _), (trodAll_cons_mk (Below.trod laidOut_ (by kernel_rfl) (of_decide_eq_true (by kernel_rfl)) k0 bel lt0) trodAll_mk0), rfl, bel.frame _, fun h => by cases h⟩

theorem closed_ : joinedFacts Try.prog 18 Try.f18 Rows.fnBoardRemoveAddSpec Rows.fnBoardRemoveAddRow = true :=
  joined_by mayEnter_ liftsFinal_ make_ (by kernel_rfl) laidOut_ mapsRowed_ (by kernel_rfl) (by kernel_rfl) rfl stops_ rfl stopKnobs_ (by kernel_rfl) (by kernel_rfl) (by kernel_rfl) (by kernel_rfl) (by kernel_rfl) (by kernel_rfl) (by kernel_rfl) (by kernel_rfl) (by kernel_rfl) (by kernel_rfl) rfl stopsHeard_ rfl rfl rfl (by kernel_rfl)
theorem over : Rows.fnBoardRemoveAddRow.holds Try.pinned (OpenSpec.ofChange Rows.fnBoardRemoveAddSpec) :=
  OpenClaim.holds_of_wide 18 Try.f18 rfl rfl rfl rfl rfl rfl rfl ⟨rfl, rfl, rfl, rfl, rfl⟩ rfl rfl rfl rfl rfl (by kernel_rfl) Try.func18 closed_
    (of_decide_eq_true (by kernel_rfl)) (by unfold Func.isWrapper; first | (rw [if_pos (by decide +kernel)]; kernel_rfl) | (rw [if_neg (by decide +kernel)]; exact ⟨rfl, rfl⟩))
    (fun os started H enc _ => lifted os started H enc)

theorem proved : Rows.FnBoardRemoveAddSaid := over
#print axioms proved
end Go.Proofs.Ytjafdiacgaiphaa.fnBoardRemoveAdd

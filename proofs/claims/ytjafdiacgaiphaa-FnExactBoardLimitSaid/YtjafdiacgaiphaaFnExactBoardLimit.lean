/-
  FnExactBoardLimit returns true for every slice of entries, and nothing that was there is written. No condition.
-/
import Derived.Test.YtjafdiacgaiphaaFr
import Derived.Test.YtjafdiacgaiphaaBr
import Derived.Test.YtjafdiacgaiphaaLk
namespace Go.Proofs.Ytjafdiacgaiphaa.fnExactBoardLimit
open Go.RowKit Go.ChangeShapes Go.WideShapes Go.ChangeAt
set_option linter.unusedVariables false

theorem walk (a0 : Option Addr) (len0 cap0 : Nat) (es0 : List Ent) (w : World) (w0 : EntsIn w a0 len0 cap0 es0) :
    Calls Try.prog 5 #[.slice a0 len0 cap0] w fun e w' => e = .returned (.bool true) ∧ Below w.heap.size w w' := by
  obtain ⟨hr, hlc, hcm, _⟩ := w0
  by_cases hsz : (1048576 : Int) < len0
  · have hsz1 := szEntryS_no a0 len0 cap0 1048576 w (Nat.le_trans hlc hcm) (by omega) (by omega) hsz
    have H := Lib.hid hsz1; clear hsz1 hr hlc hcm hsz
    go_enter Try.func5, Try.ntmps5
    go_wp2_with (go_at_call 19; refine H.out.mono ?_; rintro e w' ⟨rfl, rfl⟩)
    go_ret
    exact ⟨rfl, Below.refl _ _⟩
  · have hsz1 := szEntryS_yes a0 len0 cap0 1048576 w (by omega) (by omega) (by omega)
    have H := Lib.hid hsz1; clear hsz1 
    have HR := Lib.hid hr; clear hr
    have hn : len0 ≤ 1048576 := by omega
    have hpos : ¬ (1048576 : Int) - len0 < 0 := by omega
    clear hcm
    have hl := HR.out.len
    subst hl
    go_enter Try.func5, Try.ntmps5
    go_wp2_with (go_at_call 19; refine H.out.mono ?_; rintro e w' ⟨rfl, rfl⟩)
    refine (toEntryS_any _ _ _ _ _ HR.out (by omega)).mono ?_
    rintro e w1 ⟨g1, rfl, hg1, hB1, hb1⟩
    go_wp2_with fail
    refine (specBoardLimit_any _ _ _ _ _ (RdE.blk hB1) (by omega)).mono ?_
    rintro e w2 ⟨rfl, hb2⟩
    go_wp2_with fail
    have hW2 := below_next hb1 hb2
    refine (toEntryS_any _ _ _ _ _ (HR.out.below hW2) (by omega)).mono ?_
    rintro e w3 ⟨g3, rfl, hg3, hB3, hb3⟩
    go_wp2_with fail
    refine (implBoardLimit_any _ _ _ _ _ (RdE.blk hB3) (by omega) (Nat.le_refl _)).mono ?_
    rintro e w4 ⟨rfl, hb4⟩
    go_wp2_with fail
    have hW4 := below_next (below_next hW2 hb3) hb4
    refine (toEntryS_any _ _ _ _ _ (HR.out.below hW4) (by omega)).mono ?_
    rintro e w5 ⟨g5, rfl, hg5, hB5, hb5⟩
    go_wp2_with fail
    refine (eqEntryS_any _ _ _ _ _ _ _ _ _ (RdE.blk ((hB3.next hb4).next hb5)) (RdE.blk hB5) (by omega) (by omega)).mono ?_
    rintro e w6 ⟨rfl, hb6⟩
    go_wp2_with fail
    go_ret
    exact ⟨rfl, below_next (below_next hW4 hb5) hb6⟩

set_option maxRecDepth 100000 in
theorem lifted (os : Os) (started : os.Started) (H : Type) (enc : TypeId × Value → H) :
    ReturnsInHanded {} Try.checked os 5 .any (Rows.fnExactBoardLimitSpec.pre6 enc Try.prog Try.f5 Rows.fnExactBoardLimitRow.domain false) (Rows.fnExactBoardLimitSpec.post enc Try.prog Try.f5 false true false false) := by
  refine returnsInHanded_of_change (C := Try.checked) own_ started (by kernel_rfl) Try.func5
    (ChangeSpec.witness6 (enc := enc) (C := Try.checked) false ⟨#[], #[.slice none 0 0], []⟩ 8 (by kernel_rfl) (by kernel_rfl) (by kernel_rfl) (by kernel_rfl)) ?_
  intro W base args ds gs before hval0 hW hcnd _
  have hval : ∀ (j : Nat) t v, Try.f5.params[j]? = some t → args[j]? = some v → Value.okWide Try.prog W .any base t v := hval0
  have hW' := hW
  obtain ⟨p, q, hA0, hV, rfl, hfz, hnd⟩ := hW
  have hA : DataW.TrodAll enc Try.prog W 0 (fun _ => true) true Try.f5.params.toList args.toList ds p := hA0
  rw [Try.params5] at hA hval
  obtain ⟨v0, vs0, d0, ds0, p0, q0, hargs, rfl, rfl, h0, r0⟩ := trodAll_cons hA
  obtain ⟨rfl, rfl, rfl⟩ := trodAll_nil r0
  obtain rfl : args = #[v0] := by cases args; simp_all
  obtain ⟨rfl, rfl⟩ := trodVars_none hV
  obtain ⟨a0, len0, cap0, rfl⟩ := okWide_slice Try.underlying22 (hval 0 22 v0 rfl rfl)
  have k0 := h0
  have lt0 : ∀ x ∈ p0, x.block < W.heap.size := by obtain ⟨m, hm⟩ := k0; exact DataW.trod_lt m _ _ _ hm
  obtain ⟨es0, w0⟩ : ∃ es, EntsIn W a0 len0 cap0 es := by
    obtain ⟨fuel, hf⟩ := h0
    exact open_ents Try.underlying22 Try.underlying42 (by kernel_rfl) rfl rfl (by kernel_rfl) (by kernel_rfl) Try.underlying3 Try.underlying3 (by simpa [Value.cells] using hf)
  clear hA0 hval0
  refine (walk a0 len0 cap0 es0 W w0).mono fun e W' ⟨he, bel⟩ => ?_
  subst he
  exact ⟨_, rfl, _, _, _, [], _, [], hW', trodAll_mk1 (shut_bool Try.underlying4 _), (trodAll_cons_mk (Below.trod laidOut_ (by kernel_rfl) (of_decide_eq_true (by kernel_rfl)) k0 bel lt0) trodAll_mk0), rfl, bel.frame _, fun h => by cases h⟩

theorem closed_ : joinedFacts Try.prog 5 Try.f5 Rows.fnExactBoardLimitSpec Rows.fnExactBoardLimitRow = true :=
  joined_by mayEnter_ liftsFinal_ make_ (by kernel_rfl) laidOut_ mapsRowed_ (by kernel_rfl) (by kernel_rfl) rfl stops_ rfl stopKnobs_ (by kernel_rfl) (by kernel_rfl) (by kernel_rfl) (by kernel_rfl) (by kernel_rfl) (by kernel_rfl) (by kernel_rfl) (by kernel_rfl) (by kernel_rfl) (by kernel_rfl) rfl stopsHeard_ rfl rfl rfl (by kernel_rfl)
theorem over : Rows.fnExactBoardLimitRow.holds Try.pinned (OpenSpec.ofChange Rows.fnExactBoardLimitSpec) :=
  OpenClaim.holds_of_wide 5 Try.f5 rfl rfl rfl rfl rfl rfl rfl ⟨rfl, rfl, rfl, rfl, rfl⟩ rfl rfl rfl rfl rfl (by kernel_rfl) Try.func5 closed_
    (of_decide_eq_true (by kernel_rfl)) (by unfold Func.isWrapper; first | (rw [if_pos (by decide +kernel)]; kernel_rfl) | (rw [if_neg (by decide +kernel)]; exact ⟨rfl, rfl⟩))
    (fun os started H enc _ => lifted os started H enc)

theorem proved : Rows.FnExactBoardLimitSaid := over
#print axioms proved
end Go.Proofs.Ytjafdiacgaiphaa.fnExactBoardLimit

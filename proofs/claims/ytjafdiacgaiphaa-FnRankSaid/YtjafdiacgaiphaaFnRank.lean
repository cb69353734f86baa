/-
  FnRank returns true whatever the code; nothing that was there is written. No condition.
-/
import Derived.Test.YtjafdiacgaiphaaFb
import Derived.Test.YtjafdiacgaiphaaDw
import Derived.Test.YtjafdiacgaiphaaBr
import Derived.Test.YtjafdiacgaiphaaSc
namespace Go.Proofs.Ytjafdiacgaiphaa.fnRank
open Go.RowKit Go.ChangeShapes Go.WideShapes Go.ChangeAt Go.Joins
set_option linter.unusedVariables false

set_option maxHeartbeats 2000000 in
set_option maxRecDepth 100000 in
theorem walk (a0 : Option Addr) (len0 cap0 : Nat) (z0 : List Int) (w : World) (w0 : BytesIn w a0 len0 cap0 z0) :
    Calls Try.prog 8 #[.slice a0 len0 cap0] w fun e w' => e = .returned (.bool true) ∧ Below w.heap.size w w' := by
  have hz := w0.bd
  obtain ⟨hr, hlc, hcm, _⟩ := w0
  by_cases hsz : (1048576 : Int) < len0
  · clear hr hlc hcm hz
    go_enter Try.func8, Try.ntmps8
    go_wp2
    go_ret
    exact ⟨rfl, Below.refl _ _⟩
  · have H1 := Lib.hid (drawBoardRank_any a0 len0 cap0 z0 w hr hz hlc hcm)
    clear hr hlc hcm hz
    go_enter Try.func8, Try.ntmps8
    go_wp2_with fail
    refine H1.out.mono ?_
    rintro e w1 ⟨A, c, es, v, rfl, hv0, hv1, hO, hl, hB⟩
    have HR := Lib.hid hO.rdE
    have hlec := hO.le
    have HB := Lib.hid hB
    clear H1 hO hB
    go_wp2_with fail
    refine (implBoardRank_any _ _ _ _ _ _ HR.out (by omega) hlec).mono ?_
    rintro e w2 ⟨rfl, hb2⟩
    have HR2 := Lib.hid (HR.out.below hb2)
    have HB2 := Lib.hid (below_at HB.out HB.out.size hb2)
    clear hb2
    go_wp2_with fail
    refine (specBoardRank_any _ _ _ _ _ _ HR2.out (by omega)).mono ?_
    rintro e w3 ⟨rfl, hb3⟩
    have HR3 := Lib.hid (HR2.out.below hb3)
    have HB3 := Lib.hid (below_at HB2.out HB2.out.size hb3)
    clear hb3 HR HB HR2 HB2
    have hbd := findE_bd v es 0
    by_cases hneg : rankE es v < 0
    · clear hbd
      generalize rankE es v = r at *
      go_wp2
      go_ret
      exact ⟨ret_bool (by simp), HB3.out⟩
    · have hvd : validE es = true := by
        cases hq : validE es with
        | true => rfl
        | false => simp [rankE, hq] at hneg
      have hrk : rankE es v = findE v es 0 + 1 := by simp [rankE, hvd]
      clear hvd
      by_cases h0 : rankE es v = 0
      · have hsc := findE_none v es 0 (Int.le_refl _) (by omega)
        clear hbd hrk hneg
        rw [h0]
        go_wp2_with fail
        refine (scoreOf_any _ _ _ _ _ _ HR3.out (by omega)).mono ?_
        rintro e w4 ⟨rfl, rfl⟩
        rw [hsc]
        go_wp2
        go_ret
        exact ⟨rfl, HB3.out⟩
      · obtain ⟨k, hk⟩ := Int.eq_ofNat_of_zero_le (show (0 : Int) ≤ findE v es 0 by omega)
        obtain ⟨e1, he1, hp⟩ := findE_get v es 0 k (Int.le_refl _) (by rw [hk]; simp)
        have hkl : k < es.length := (List.getElem?_eq_some_iff.1 he1).1
        rw [hk] at hrk
        have hrk' : rankE es v = ((k + 1 : Nat) : Int) := by rw [hrk]; push_cast; rfl
        obtain ⟨b, off, e2, hA, hbl, he2, h1, _⟩ := HR3.out.at_ (k := k) hkl
        obtain rfl : e1 = e2 := by rw [he1] at he2; injection he2
        rw [hrk']
        subst hA
        have hi1 : (((k + 1 : Nat) : Int) - 1).toNat = k := by omega
        have hi2 : ((k + 1 : Nat) : Int) - 1 = k := by omega
        have hi3 : ((k + 1 : Nat) : Int) ≤ es.length := by omega
        have hi4 : ((k : Int) + 1) ≤ es.length := by omega
        have hpb : (e1.1 == v) = true := by simpa using hp
        clear hbd hneg hrk hrk' hk h0 he1 he2
        go_wp2
        go_ret
        exact ⟨ret_bool (by simp), HB3.out⟩

set_option maxRecDepth 100000 in
theorem lifted (os : Os) (started : os.Started) (H : Type) (enc : TypeId × Value → H) :
    ReturnsInHanded {} Try.checked os 8 .any (Rows.fnRankSpec.pre6 enc Try.prog Try.f8 Rows.fnRankRow.domain false) (Rows.fnRankSpec.post enc Try.prog Try.f8 false true false false) := by
  refine returnsInHanded_of_change (C := Try.checked) own_ started (by kernel_rfl) Try.func8
    (ChangeSpec.witness6 (enc := enc) (C := Try.checked) false ⟨#[], #[.slice none 0 0], []⟩ 8 (by kernel_rfl) (by kernel_rfl) (by kernel_rfl) (by kernel_rfl)) ?_
  intro W base args ds gs before hval0 hW hcnd _
  have hval : ∀ (j : Nat) t v, Try.f8.params[j]? = some t → args[j]? = some v → Value.okWide Try.prog W .any base t v := hval0
  have hW' := hW
  obtain ⟨p, q, hA0, hV, rfl, hfz, hnd⟩ := hW
  have hA : DataW.TrodAll enc Try.prog W 0 (fun _ => true) true Try.f8.params.toList args.toList ds p := hA0
  rw [Try.params8] at hA hval
  obtain ⟨v0, vs0, d0, ds0, p0, q0, hargs, rfl, rfl, h0, r0⟩ := trodAll_cons hA
  obtain ⟨rfl, rfl, rfl⟩ := trodAll_nil r0
  obtain rfl : args = #[v0] := by cases args; simp_all
  obtain ⟨rfl, rfl⟩ := trodVars_none hV
  obtain ⟨a0, len0, cap0, rfl⟩ := okWide_slice Try.underlying32 (hval 0 32 v0 rfl rfl)
  have k0 := h0
  have lt0 : ∀ x ∈ p0, x.block < W.heap.size := by obtain ⟨m, hm⟩ := k0; exact DataW.trod_lt m _ _ _ hm
  obtain ⟨z0, w0⟩ : ∃ zs, BytesIn W a0 len0 cap0 zs := by
    obtain ⟨fuel, hf⟩ := h0
    exact open_BytesIn Try.underlying32 Try.underlying5 (by kernel_rfl) (by simpa [Value.cells] using hf)
  clear hA0 hval0
  refine (walk a0 len0 cap0 z0 W w0).mono fun e W' ⟨he, bel⟩ => ?_
  subst he
  exact ⟨_, rfl, _, _, _, [], _, [], hW', trodAll_mk1 (shut_bool Try.underlying4 _), (trodAll_cons_mk (Below.trod laidOut_ (by kernel_rfl) (of_decide_eq_true (by kernel_rfl)) k0 bel lt0) trodAll_mk0), rfl, bel.frame _, fun h => by cases h⟩

theorem closed_ : joinedFacts Try.prog 8 Try.f8 Rows.fnRankSpec Rows.fnRankRow = true :=
  joined_by mayEnter_ liftsFinal_ make_ (by kernel_rfl) laidOut_ mapsRowed_ (by kernel_rfl) (by kernel_rfl) rfl stops_ rfl stopKnobs_ (by kernel_rfl) (by kernel_rfl) (by kernel_rfl) (by kernel_rfl) (by kernel_rfl) (by kernel_rfl) (by kernel_rfl) (by kernel_rfl) (by kernel_rfl) (by kernel_rfl) rfl stopsHeard_ rfl rfl rfl (by kernel_rfl)
theorem over : Rows.fnRankRow.holds Try.pinned (OpenSpec.ofChange Rows.fnRankSpec) :=
  OpenClaim.holds_of_wide 8 Try.f8 rfl rfl rfl rfl rfl rfl rfl ⟨rfl, rfl, rfl, rfl, rfl⟩ rfl rfl rfl rfl rfl (by kernel_rfl) Try.func8 closed_
    (of_decide_eq_true (by kernel_rfl)) (by unfold Func.isWrapper; first | (rw [if_pos (by decide +kernel)]; kernel_rfl) | (rw [if_neg (by decide +kernel)]; exact ⟨rfl, rfl⟩))
    (fun os started H enc _ => lifted os started H enc)

theorem proved : Rows.FnRankSaid := over
#print axioms proved
end Go.Proofs.Ytjafdiacgaiphaa.fnRank

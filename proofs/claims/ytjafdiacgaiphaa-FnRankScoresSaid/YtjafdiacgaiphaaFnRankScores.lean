/-
  FnRankScores returns true whatever the code; nothing that was there is written. No condition.
-/
import Derived.Test.YtjafdiacgaiphaaFb
import Derived.Test.YtjafdiacgaiphaaDw
import Derived.Test.YtjafdiacgaiphaaBr
namespace Go.Proofs.Ytjafdiacgaiphaa.fnRankScores
open Go.RowKit Go.ChangeShapes Go.WideShapes Go.ChangeAt Go.Joins
set_option linter.unusedVariables false

theorem findE_bd (p : Int) : ∀ (es : List Ent) (j : Int), findE p es j = -1 ∨ (j ≤ findE p es j ∧ findE p es j < j + es.length)
  | [], j => .inl rfl
  | x :: r, j => by
    have := findE_bd p r (j + 1)
    simp only [findE, List.length_cons]
    split
    · exact .inr (by omega)
    · rcases this with h | h
      · exact .inl h
      · exact .inr (by omega)

theorem sorted_step {es : List Ent} (h : validE es = true) {k : Nat} {d e : Ent} (hd : es[k]? = some d) (he : es[k + 1]? = some e) : d.2 ≤ e.2 := by
  have h1 := validE_at h (List.getElem?_eq_some_iff.1 he).1
  simp [vriE, he, prevE, hd] at h1
  omega
theorem sorted_le {es : List Ent} (h : validE es = true) : ∀ (n k : Nat) (d e : Ent), es[k]? = some d → es[k + n]? = some e → d.2 ≤ e.2
  | 0, k, d, e, hd, he => by
    rw [Nat.add_zero, hd] at he
    injection he with he
    rw [he]; exact Int.le_refl _
  | n + 1, k, d, e, hd, he => by
    have hlt := (List.getElem?_eq_some_iff.1 he).1
    have hm : es[k + 1]? = some es[k + 1] := List.getElem?_eq_getElem (by omega)
    exact Int.le_trans (sorted_step h hd hm) (sorted_le h n (k + 1) _ e hm (by rw [show k + 1 + n = k + (n + 1) by omega]; exact he))

set_option maxHeartbeats 2000000 in
set_option maxRecDepth 100000 in
theorem walk (a0 : Option Addr) (len0 cap0 : Nat) (z0 : List Int) (w : World) (w0 : BytesIn w a0 len0 cap0 z0) :
    Calls Try.prog 7 #[.slice a0 len0 cap0] w fun e w' => e = .returned (.bool true) ∧ Below w.heap.size w w' := by
  have hz := w0.bd
  obtain ⟨hr, hlc, hcm, _⟩ := w0
  by_cases hsz : (1048576 : Int) < len0
  · clear hr hlc hcm hz
    go_enter Try.func7, Try.ntmps7
    go_wp2
    go_ret
    exact ⟨rfl, Below.refl _ _⟩
  · have H1 := Lib.hid (drawBoardRank_any a0 len0 cap0 z0 w hr hz hlc hcm)
    clear hr hlc hcm hz
    go_enter Try.func7, Try.ntmps7
    go_wp2_with fail
    refine H1.out.mono ?_
    rintro e w1 ⟨A, c, es, v, rfl, hv0, hv1, hO, hl, hB⟩
    have HR := Lib.hid hO.rdE
    have hlec := hO.le
    have HB := Lib.hid hB
    clear H1 hO hB
    go_wp2_with fail
    refine (implBoardRank_any _ _ _ _ _ _ HR.out (by omega) hlec).mono ?_
    rintro e w2 ⟨rfl, hb2⟩
    have HR2 := Lib.hid (HR.out.below hb2)
    have HB2 := Lib.hid (below_at HB.out HB.out.size hb2)
    clear hb2
    go_wp2_with fail
    refine (specBoardRank_any _ _ _ _ _ _ HR2.out (by omega)).mono ?_
    rintro e w3 ⟨rfl, hb3⟩
    have HR3 := Lib.hid (HR2.out.below hb3)
    have HB3 := Lib.hid (below_at HB2.out HB2.out.size hb3)
    clear hb3 HR HB HR2 HB2
    have hfl := findE_le v es 0 (Int.le_refl _)
    by_cases hpos : rankE es v ≤ 0
    · clear hfl
      generalize rankE es v = r at *
      go_wp2
      go_ret
      exact ⟨ret_bool (by simp), HB3.out⟩
    · have hvd : validE es = true := by
        cases hq : validE es with
        | true => rfl
        | false => simp [rankE, hq] at hpos
      have hrk : rankE es v = findE v es 0 + 1 := by simp [rankE, hvd]
      have hr1 : rankE es v ≤ es.length := by have hq := findE_bd v es 0; omega
      have HV := Lib.hid hvd
      clear hfl hrk hvd
      generalize rankE es v = r at *
      obtain ⟨m, rfl⟩ := Int.eq_ofNat_of_zero_le (show (0 : Int) ≤ r by omega)
      obtain ⟨b, off, e1, hA, hbl, he1, _, h1⟩ := HR3.out.at_ (k := m - 1) (by omega)
      have hm0 : ¬ m = 0 := by omega
      have hm1 : decide (m = 0) = false := by simpa using hm0
      subst hA
      have HE1 := Lib.hid he1
      clear he1
      go_wp2
      go_loopw [7] (fun i wr => ∃ k : Nat, (k : Int) ≤ m - 1 ∧ i = .int .i64 k ∧ Hid (Below w3.heap.size w3 wr)) (fun i _ => m - (intOf i).toNat)
      case atStart => exact ⟨0, by omega, rfl, Below.refl _ _⟩
      case round =>
        obtain ⟨k, hk, rfl, HW⟩ := hrel
        by_cases hlt : (k : Int) < m - 1
        · obtain ⟨b', off', e0, hA', _, he0, _, h0⟩ := (HR3.out.below HW.out).at_ (k := k) (by omega)
          obtain ⟨rfl, rfl⟩ : b = b' ∧ off = off' := by simpa using hA'
          have hle : e0.2 ≤ e1.2 := sorted_le HV.out (m - 1 - k) k _ _ he0 (by rw [show k + (m - 1 - k) = m - 1 by omega]; exact HE1.out)
          have h1' := ((bcell HW.out).1 b (off + (m - 1) * 2 + 1) hbl).trans h1
          have hng : ¬ e1.2 < e0.2 := by omega
          have hi1 : ((m : Int) - 1).toNat = m - 1 := by omega
          clear hA' he0
          go_wp2
          go_quiet (fail)
          go_wp2
          exact ⟨⟨k + 1, by omega, by go_num, ⟨HW.out.os, HW.out.tape, HW.out.output, HW.out.size, HW.out.block⟩⟩, by simp [intOf]; omega⟩
        · go_wp2
          go_ret
          exact ⟨rfl, below_at HB3.out HB3.out.size HW.out⟩

set_option maxRecDepth 100000 in
theorem lifted (os : Os) (started : os.Started) (H : Type) (enc : TypeId × Value → H) :
    ReturnsInHanded {} Try.checked os 7 .any (Rows.fnRankScoresSpec.pre6 enc Try.prog Try.f7 Rows.fnRankScoresRow.domain false) (Rows.fnRankScoresSpec.post enc Try.prog Try.f7 false true false false) := by
  refine returnsInHanded_of_change (C := Try.checked) own_ started (by kernel_rfl) Try.func7
    (ChangeSpec.witness6 (enc := enc) (C := Try.checked) false ⟨#[], #[.slice none 0 0], []⟩ 8 (by kernel_rfl) (by kernel_rfl) (by kernel_rfl) (by kernel_rfl)) ?_
  intro W base args ds gs before hval0 hW hcnd _
  have hval : ∀ (j : Nat) t v, Try.f7.params[j]? = some t → args[j]? = some v → Value.okWide Try.prog W .any base t v := hval0
  have hW' := hW
  obtain ⟨p, q, hA0, hV, rfl, hfz, hnd⟩ := hW
  have hA : DataW.TrodAll enc Try.prog W 0 (fun _ => true) true Try.f7.params.toList args.toList ds p := hA0
  rw [Try.params7] at hA hval
  obtain ⟨v0, vs0, d0, ds0, p0, q0, hargs, rfl, rfl, h0, r0⟩ := trodAll_cons hA
  obtain ⟨rfl, rfl, rfl⟩ := trodAll_nil r0
  obtain rfl : args = #[v0] := by cases args; simp_all
  obtain ⟨rfl, rfl⟩ := trodVars_none hV
  obtain ⟨a0, len0, cap0, rfl⟩ := okWide_slice Try.underlying32 (hval 0 32 v0 rfl rfl)
  have k0 := h0
  have lt0 : ∀ x ∈ p0, x.block < W.heap.size := by obtain ⟨m, hm⟩ := k0; exact DataW.trod_lt m _ _ _ hm
  obtain ⟨z0, w0⟩ : ∃ zs, BytesIn W a0 len0 cap0 zs := by
    obtain ⟨fuel, hf⟩ := h0
    exact open_BytesIn Try.underlying32 Try.underlying5 (by kernel_rfl) (by simpa [Value.cells] using hf)
  clear hA0 hval0
  refine (walk a0 len0 cap0 z0 W w0).mono fun e W' ⟨he, bel⟩ => ?_
  subst he
  exact ⟨_, rfl, _, _, _, [], _, [], hW', trodAll_mk1 (shut_bool Try.underlying4 _), (trodAll_cons_mk (Below.trod laidOut_ (by kernel_rfl) (of_decide_eq_true (by kernel_rfl)) k0 bel lt0) trodAll_mk0), rfl, bel.frame _, fun h => by cases h⟩

theorem closed_ : joinedFacts Try.prog 7 Try.f7 Rows.fnRankScoresSpec Rows.fnRankScoresRow = true :=
  joined_by mayEnter_ liftsFinal_ make_ (by kernel_rfl) laidOut_ mapsRowed_ (by kernel_rfl) (by kernel_rfl) rfl stops_ rfl stopKnobs_ (by kernel_rfl) (by kernel_rfl) (by kernel_rfl) (by kernel_rfl) (by kernel_rfl) (by kernel_rfl) (by kernel_rfl) (by kernel_rfl) (by kernel_rfl) (by kernel_rfl) rfl stopsHeard_ rfl rfl rfl (by kernel_rfl)
theorem over : Rows.fnRankScoresRow.holds Try.pinned (OpenSpec.ofChange Rows.fnRankScoresSpec) :=
  OpenClaim.holds_of_wide 7 Try.f7 rfl rfl rfl rfl rfl rfl rfl ⟨rfl, rfl, rfl, rfl, rfl⟩ rfl rfl rfl rfl rfl (by kernel_rfl) Try.func7 closed_
    (of_decide_eq_true (by kernel_rfl)) (by unfold Func.isWrapper; first | (rw [if_pos (by decide +kernel)]; kernel_rfl) | (rw [if_neg (by decide +kernel)]; exact ⟨rfl, rfl⟩))
    (fun os started H enc _ => lifted os started H enc)

theorem proved : Rows.FnRankScoresSaid := over
#print axioms proved
end Go.Proofs.Ytjafdiacgaiphaa.fnRankScores

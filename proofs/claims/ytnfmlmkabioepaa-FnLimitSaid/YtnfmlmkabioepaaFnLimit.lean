/-
  FnLimit returns true whatever the codes; nothing that was there is written. No condition.
-/
import Derived.Test.YtnfmlmkabioepaaFb
import Derived.Test.YtnfmlmkabioepaaDx
import Derived.Test.YtnfmlmkabioepaaPl
import Derived.Test.YtnfmlmkabioepaaAi
namespace Go.Proofs.Ytnfmlmkabioepaa.fnLimit
open Go.RowKit Go.ChangeShapes Go.WideShapes Go.ChangeAt Go.Joins
set_option linter.unusedVariables false

set_option maxRecDepth 100000 in
set_option maxHeartbeats 4000000 in
theorem walk (a0 : Option Addr) (len0 cap0 : Nat) (z0 : List Int) (a1 : Option Addr) (len1 cap1 : Nat) (z1 : List Int) (w : World) (w0 : BytesIn w a0 len0 cap0 z0) (w1 : BytesIn w a1 len1 cap1 z1) :
    Calls Try.prog 4 #[.slice a0 len0 cap0, .slice a1 len1 cap1] w fun e w' => e = .returned (.bool true) ∧ Below w.heap.size w w' := by
  have hz := w0.bd
  obtain ⟨hr, hlc, hcm, _⟩ := w0
  by_cases hsz : (1048576 : Int) < len0
  · clear hr hlc hcm hz
    go_enter Try.func4, Try.ntmps4
    go_wp2
    go_ret
    exact ⟨rfl, Below.refl _ _⟩
  obtain ⟨_, hlc1, hcm1, _⟩ := w1
  by_cases hsz1 : (1048576 : Int) < len1
  · clear hr hlc hcm hz hlc1 hcm1
    go_enter Try.func4, Try.ntmps4
    go_wp2
    go_ret
    exact ⟨rfl, Below.refl _ _⟩
  clear hlc1 hcm1
  have H1 := Lib.hid (drawBoardLimit_any a0 len0 cap0 z0 w hr hz hlc hcm)
  clear hr hlc hcm hz
  go_enter Try.func4, Try.ntmps4
  go_wp2_with fail
  refine H1.out.mono ?_
  rintro e w1 ⟨A, c, es, rfl, hO, hl, hB⟩
  have HR1 := Lib.hid hO.rdE
  have hlec := hO.le
  have HB1 := Lib.hid hB
  clear H1 hO hB
  go_wp2_with fail
  refine (implBoardLimit_any _ _ _ _ _ HR1.out (by omega) hlec).mono ?_
  rintro e w2 ⟨rfl, hb2⟩
  have HR2 := Lib.hid (HR1.out.below hb2)
  have HB2 := Lib.hid (below_at HB1.out HB1.out.size hb2)
  clear hb2
  go_wp2_with fail
  refine (specBoardLimit_any _ _ _ _ _ HR2.out (by omega)).mono ?_
  rintro e w3 ⟨rfl, hb3⟩
  have HR3 := Lib.hid (HR2.out.below hb3)
  have HB3 := Lib.hid (below_at HB2.out HB2.out.size hb3)
  clear hb3
  by_cases hneg : limitE es < 0
  · generalize limitE es = r at *
    go_wp2
    go_ret
    exact ⟨ret_bool (by simp), HB3.out⟩
  · have h0 : 0 ≤ limitE es := by omega
    have h60 := (limit_bd h0).2
    have h4 := validE_len (limit_bd h0).1
    have HONE := Lib.hid (fun (p : Int) (hp0 : 0 ≤ p) (hp9 : p ≤ 9) (hs : scoreE p es < 0) => limit_one h0 hp0 hp9 hs)
    have HTWO := Lib.hid (fun (p s : Int) (hp0 : 0 ≤ p) (hp9 : p ≤ 9) (hs : scoreE p es < 0) => limit_two (s := s) h0 hp0 hp9 hs)
    generalize limitE es = L at *
    go_wp2_with fail
    go_loopw [8] (fun p wr => wr = w3 ∧ ∃ k : Nat, k ≤ 4 ∧ p = .int .i64 k ∧ Hid (∀ q : Nat, q < k → 0 ≤ scoreE q es)) (fun p _ => 5 - (intOf p).toNat)
    case atStart => exact ⟨rfl, 0, by omega, rfl, fun q hq => absurd hq (by omega)⟩
    case round =>
      obtain ⟨rfl, k, hk, rfl, HQ⟩ := hrel
      by_cases hs : 0 ≤ scoreE k es
      · have hq' : ∀ q : Nat, q < k + 1 → 0 ≤ scoreE q es := by
          intro q hq
          by_cases hqk : q = k
          · rw [hqk]; exact hs
          · exact HQ.out q (by omega)
        have hk4 := players_le (k + 1) es hq'
        have HQ' := Lib.hid hq'
        clear hq'
        go_wp2_with fail
        refine (scoreOf_any _ _ _ _ _ _ HR3.out (by omega)).mono ?_
        rintro e w4 ⟨rfl, rfl⟩
        go_wp2
        exact ⟨⟨trivial, k + 1, by omega, by go_num, HQ'⟩, by simp [intOf]; omega⟩
      · have hone := HONE.out k (by omega) (by omega) (by omega)
        have H1 := Lib.hid hone
        have HT := Lib.hid (fun s (h1 : L < s) (h2 : s ≤ 60) => HTWO.out k s (by omega) (by omega) (by omega) h1 h2)
        clear hone HONE HTWO
        go_wp2_with fail
        refine (scoreOf_any _ _ _ _ _ _ HR3.out (by omega)).mono ?_
        rintro e w4 ⟨rfl, rfl⟩
        go_wp2_with fail
        refine (implBoardAdd_any _ _ _ es ((k : Int), L) _ HR3.out (by omega) hlec).mono ?_
        rintro e w6 ⟨A6, c6, rfl, hO6, hb6⟩
        rw [H1.out]
        have HR6 := Lib.hid (HR3.out.below hb6)
        have HB6 := Lib.hid (below_at HB3.out HB3.out.size hb6)
        clear hO6 hb6
        obtain ⟨j, hj⟩ : ∃ j, len1 % 9 = j := ⟨_, rfl⟩
        have hj9 : j < 9 := by rw [← hj]; exact Nat.mod_lt _ (by omega)
        have hje : (len1 : Int) % 9 = j := by rw [← hj]; rfl
        clear hj hs hneg
        by_cases hm : (60 : Int) < L + 1 + j
        · by_cases hL : L = 60
          · subst hL
            go_wp2_with fail
            refine (implBoardAdd_any _ _ _ es ((k : Int), 60) _ HR6.out (by omega) hlec).mono ?_
            rintro e w7 ⟨A7, c7, rfl, hO7, hb7⟩
            rw [H1.out]
            have HB7 := Lib.hid (below_at HB6.out HB6.out.size hb7)
            clear hO7 hb7
            go_wp2
            go_ret
            exact ⟨ret_bool (by simp), HB7.out⟩
          · have H2 := Lib.hid (HT.out 60 (by omega) (by omega))
            go_wp2_with fail
            refine (implBoardAdd_any _ _ _ es ((k : Int), 60) _ HR6.out (by omega) hlec).mono ?_
            rintro e w7 ⟨A7, c7, rfl, hO7, hb7⟩
            rw [H2.out]
            have HB7 := Lib.hid (below_at HB6.out HB6.out.size hb7)
            clear hO7 hb7
            go_wp2
            go_ret
            exact ⟨ret_bool (by simp), HB7.out⟩
        · have H2 := Lib.hid (HT.out (L + 1 + j) (by omega) (by omega))
          have hm' : L + 1 + (j : Int) ≤ 60 := by omega
          go_wp2_with fail
          refine (implBoardAdd_any _ _ _ es ((k : Int), (L + 1 + j)) _ HR6.out (by omega) hlec).mono ?_
          rintro e w7 ⟨A7, c7, rfl, hO7, hb7⟩
          rw [H2.out]
          have HB7 := Lib.hid (below_at HB6.out HB6.out.size hb7)
          clear hO7 hb7
          go_wp2
          go_ret
          exact ⟨ret_bool (by simp), HB7.out⟩

set_option maxRecDepth 100000 in
theorem lifted (os : Os) (started : os.Started) (H : Type) (enc : TypeId × Value → H) :
    ReturnsInHanded {} Try.checked os 4 .any (Rows.fnLimitSpec.pre6 enc Try.prog Try.f4 Rows.fnLimitRow.domain false) (Rows.fnLimitSpec.post enc Try.prog Try.f4 false true false false) := by
  refine returnsInHanded_of_change (C := Try.checked) own_ started (by kernel_rfl) Try.func4
    (ChangeSpec.witness6 (enc := enc) (C := Try.checked) false ⟨#[], #[.slice none 0 0, .slice none 0 0], []⟩ 8 (by kernel_rfl) (by kernel_rfl) (by kernel_rfl) (by kernel_rfl)) ?_
  intro W base args ds gs before hval0 hW hcnd _
  have hval : ∀ (j : Nat) t v, Try.f4.params[j]? = some t → args[j]? = some v → Value.okWide Try.prog W .any base t v := hval0
  have hW' := hW
  obtain ⟨p, q, hA0, hV, rfl, hfz, hnd⟩ := hW
  have hA : DataW.TrodAll enc Try.prog W 0 (fun _ => true) true Try.f4.params.toList args.toList ds p := hA0
  rw [Try.params4] at hA hval
  obtain ⟨v0, vs0, d0, ds0, p0, q0, hargs, rfl, rfl, h0, r0⟩ := trodAll_cons hA
  obtain ⟨v1, vs1, d1, ds1, p1, q1, rfl, rfl, rfl, h1, r1⟩ := trodAll_cons r0
  obtain ⟨rfl, rfl, rfl⟩ := trodAll_nil r1
  obtain rfl : args = #[v0, v1] := by cases args; simp_all
  obtain ⟨rfl, rfl⟩ := trodVars_none hV
  obtain ⟨a0, len0, cap0, rfl⟩ := okWide_slice Try.underlying22 (hval 0 22 v0 rfl rfl)
  have k0 := h0
  have lt0 : ∀ x ∈ p0, x.block < W.heap.size := by obtain ⟨m, hm⟩ := k0; exact DataW.trod_lt m _ _ _ hm
  obtain ⟨z0, w0⟩ : ∃ zs, BytesIn W a0 len0 cap0 zs := by
    obtain ⟨fuel, hf⟩ := h0
    exact open_BytesIn Try.underlying22 Try.underlying5 (by kernel_rfl) (by simpa [Value.cells] using hf)
  obtain ⟨a1, len1, cap1, rfl⟩ := okWide_slice Try.underlying22 (hval 1 22 v1 rfl rfl)
  have k1 := h1
  have lt1 : ∀ x ∈ p1, x.block < W.heap.size := by obtain ⟨m, hm⟩ := k1; exact DataW.trod_lt m _ _ _ hm
  obtain ⟨z1, w1⟩ : ∃ zs, BytesIn W a1 len1 cap1 zs := by
    obtain ⟨fuel, hf⟩ := h1
    exact open_BytesIn Try.underlying22 Try.underlying5 (by kernel_rfl) (by simpa [Value.cells] using hf)
  clear hA0 hval0
  refine (walk a0 len0 cap0 z0 a1 len1 cap1 z1 W w0 w1).mono fun e W' ⟨he, bel⟩ => ?_
  subst he
  exact ⟨_, rfl, _, _, _, [], _, [], hW', trodAll_mk1 (shut_bool Try.underlying4 _), (trodAll_cons_mk (Below.trod laidOut_ (by kernel_rfl) (of_decide_eq_true (by kernel_rfl)) k0 bel lt0) (trodAll_cons_mk (Below.trod laidOut_ (by kernel_rfl) (of_decide_eq_true (by kernel_rfl)) k1 bel lt1) trodAll_mk0)), rfl, bel.frame _, fun h => by cases h⟩

theorem closed_ : joinedFacts Try.prog 4 Try.f4 Rows.fnLimitSpec Rows.fnLimitRow = true :=
  joined_by mayEnter_ liftsFinal_ make_ (by kernel_rfl) laidOut_ mapsRowed_ (by kernel_rfl) (by kernel_rfl) rfl stops_ rfl stopKnobs_ (by kernel_rfl) (by kernel_rfl) (by kernel_rfl) (by kernel_rfl) (by kernel_rfl) (by kernel_rfl) (by kernel_rfl) (by kernel_rfl) (by kernel_rfl) (by kernel_rfl) rfl stopsHeard_ rfl rfl rfl (by kernel_rfl)
theorem over : Rows.fnLimitRow.holds Try.pinned (OpenSpec.ofChange Rows.fnLimitSpec) :=
  OpenClaim.holds_of_wide 4 Try.f4 rfl rfl rfl rfl rfl rfl rfl ⟨rfl, rfl, rfl, rfl, rfl⟩ rfl rfl rfl rfl rfl (by kernel_rfl) Try.func4 closed_
    (of_decide_eq_true (by kernel_rfl)) (by unfold Func.isWrapper; first | (rw [if_pos (by decide +kernel)]; kernel_rfl) | (rw [if_neg (by decide +kernel)]; exact ⟨rfl, rfl⟩))
    (fun os started H enc _ => lifted os started H enc)

theorem proved : Rows.FnLimitSaid := over
#print axioms proved
end Go.Proofs.Ytnfmlmkabioepaa.fnLimit

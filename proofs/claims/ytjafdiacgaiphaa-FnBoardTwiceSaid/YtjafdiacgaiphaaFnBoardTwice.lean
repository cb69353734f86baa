/-
  FnBoardTwice returns true whatever the codes; nothing that was there is written. No condition.
-/
import Derived.Test.YtjafdiacgaiphaaFb
import Derived.Test.YtjafdiacgaiphaaDx
import Derived.Test.YtjafdiacgaiphaaPo
import Derived.Test.YtjafdiacgaiphaaAi
import Derived.Test.YtjafdiacgaiphaaSm
namespace Go.Proofs.Ytjafdiacgaiphaa.fnBoardTwice
open Go.RowKit Go.ChangeShapes Go.WideShapes Go.ChangeAt Go.Joins
set_option linter.unusedVariables false

set_option maxRecDepth 100000 in
set_option maxHeartbeats 4000000 in
theorem walk (a0 : Option Addr) (len0 cap0 : Nat) (z0 : List Int) (a1 : Option Addr) (len1 cap1 : Nat) (z1 : List Int) (w : World) (w0 : BytesIn w a0 len0 cap0 z0) (w1 : BytesIn w a1 len1 cap1 z1) :
    Calls Try.prog 12 #[.slice a0 len0 cap0, .slice a1 len1 cap1] w fun e w' => e = .returned (.bool true) ∧ Below w.heap.size w w' := by
  have hz := w0.bd
  obtain ⟨hr, hlc, hcm, _⟩ := w0
  by_cases hsz : (1048576 : Int) < len0
  · clear hr hlc hcm hz
    go_enter Try.func12, Try.ntmps12
    go_wp2
    go_ret
    exact ⟨rfl, Below.refl _ _⟩
  obtain ⟨_, hlc1, hcm1, _⟩ := w1
  by_cases hsz1 : (1048576 : Int) < len1
  · clear hr hlc hcm hz hlc1 hcm1
    go_enter Try.func12, Try.ntmps12
    go_wp2
    go_ret
    exact ⟨rfl, Below.refl _ _⟩
  clear hlc1 hcm1
  have H1 := Lib.hid (drawBoardAdd_any a0 len0 cap0 z0 w hr hz hlc hcm)
  clear hr hlc hcm hz
  go_enter Try.func12, Try.ntmps12
  go_wp2_with fail
  refine H1.out.mono ?_
  rintro e w1 ⟨A, c, es, x, rfl, hO, hl, hB⟩
  have HR1 := Lib.hid hO.rdE
  have hlec := hO.le
  have HB1 := Lib.hid hB
  clear H1 hO hB
  have hla : (addE es x).1.length ≤ 8 := addE_len8 es x hl
  have HWa : Hid (Below w1.heap.size w1 (w1.alloc (.cells #[.int .i64 x.1, .int .i64 x.2] 38))) := (Below.refl _ _).alloc (Nat.le_refl _) _
  have HEa := Lib.hid (Blk.new w1 38 #[.int .i64 x.1, .int .i64 x.2])
  go_wp2_with fail
  refine (implBoardAdd_any _ _ _ es x _ (HR1.out.below HWa.out) (by omega) hlec).mono ?_
  rintro e w2 ⟨A2, c2, rfl, hO2, hb2⟩
  have HR2 := Lib.hid ((HR1.out.below HWa.out).below hb2)
  have HE2 := Lib.hid (HEa.out.next hb2)
  have HB2 := Lib.hid (below_at HB1.out HB1.out.size (below_next HWa.out hb2))
  have HX2 := Lib.hid hO2.rdE
  have hlec2 := hO2.le
  have hc0 : w2.cell? ⟨w1.heap.size, 0, none⟩ = some (.int .i64 x.1) := HE2.out.cell 0
  have hc1 : w2.cell? ⟨w1.heap.size, 1, none⟩ = some (.int .i64 x.2) := HE2.out.cell 1
  clear hb2 hO2 HWa HEa
  go_wp2_with fail
  refine (specBoardAdd_any _ _ _ es x _ HR2.out (by omega)).mono ?_
  rintro e w3 ⟨A3, c3, rfl, hO3, hb3⟩
  have HR3 := Lib.hid (HR2.out.below hb3)
  have HX3 := Lib.hid (HX2.out.below hb3)
  have HE3 := Lib.hid (HE2.out.next hb3)
  have HB3 := Lib.hid (below_at HB2.out HB2.out.size hb3)
  have HY3 := Lib.hid hO3.rdE
  clear hb3 HB2 hO3 hc0 hc1
  go_wp2_with fail
  refine (sameBoard_any _ _ _ _ _ _ _ _ _ HX3.out HY3.out (by omega) (by omega)).mono ?_
  rintro e w4 ⟨rfl, hb4⟩
  rw [show decide ((addE es x).1 = (addE es x).1) = true by simp]
  have HR4 := Lib.hid (HR3.out.below hb4)
  have HX4 := Lib.hid (HX3.out.below hb4)
  have HY4 := Lib.hid (HY3.out.below hb4)
  have HE4 := Lib.hid (HE3.out.next hb4)
  have HB4 := Lib.hid (below_at HB3.out HB3.out.size hb4)
  clear hb4 HR2 HR3 HX2 HX3 HY3 HE2 HE3 HB3
  by_cases h3 : (addE es x).2 = 0
  · obtain ⟨hvd, hok, _, hc4, hfin⟩ := addE_done h3
    have hb := okE_bd hok
    have hs0 : 0 ≤ x.2 := hb.2.2.1
    have hs1 : x.2 ≤ 60 := hb.2.2.2
    have hol : (outE es x).length ≤ 8 := by rw [hfin] at hla; exact hla
    have HA1 := Lib.hid (add_twice hvd hok hc4 x.2 (Int.le_refl _) hs1)
    have HA2 := Lib.hid (fun (s : Int) (h1 : x.2 ≤ s) (h2 : s ≤ 60) => add_twice hvd hok hc4 s h1 h2)
    rw [hfin] at HX4 HY4 hlec2 ⊢
    have hc0 : w4.cell? ⟨w1.heap.size, 0, none⟩ = some (.int .i64 x.1) := HE4.out.cell 0
    have hc1 : w4.cell? ⟨w1.heap.size, 1, none⟩ = some (.int .i64 x.2) := HE4.out.cell 1
    clear hfin hvd hok hc4 h3 hb hla
    go_wp2_with fail
    refine (implBoardAdd_any _ _ _ (outE es x) x _ HX4.out (by omega) hlec2).mono ?_
    rintro e w5 ⟨A5, c5, rfl, hO5, hb5⟩
    rw [show (x : Ent) = (x.1, x.2) from rfl] at hO5
    rw [show addE (outE es x) x = (outE es x, 1) from HA1.out] at hO5 ⊢
    have HX5 := Lib.hid (HX4.out.below hb5)
    have HE5 := Lib.hid (HE4.out.next hb5)
    have HB5 := Lib.hid (below_at HB4.out HB4.out.size hb5)
    have HZ5 := Lib.hid hO5.rdE
    clear hb5 hO5 hc0 hc1
    have hc0 : w5.cell? ⟨w1.heap.size, 0, none⟩ = some (.int .i64 x.1) := HE5.out.cell 0
    have hc1 : w5.cell? ⟨w1.heap.size, 1, none⟩ = some (.int .i64 x.2) := HE5.out.cell 1
    obtain ⟨s, hs⟩ : ∃ s : Int, s = min (x.2 + len1) 60 := ⟨_, rfl⟩
    have hA3 := HA2.out s (by omega) (by omega)
    have HA3 := Lib.hid hA3
    by_cases hm : (60 : Int) < x.2 + len1
    · have hs60 : s = 60 := by omega
      subst hs60
      clear hs hA3
      go_wp2_with fail
      refine (implBoardAdd_any _ _ _ (outE es x) (x.1, 60) _ HX5.out (by omega) hlec2).mono ?_
      rintro e w6 ⟨A6, c6, rfl, hO6, hb6⟩
      rw [HA3.out] at hO6 ⊢
      have HX6 := Lib.hid (HX5.out.below hb6)
      have HZ6 := Lib.hid (HZ5.out.below hb6)
      have HY6 := Lib.hid hO6.rdE
      have HB6 := Lib.hid (below_at HB5.out HB5.out.size hb6)
      clear hb6 hO6 hc0 hc1
      go_wp2_with fail
      refine (sameBoard_any _ _ _ _ _ _ _ _ _ HZ6.out HX6.out (by omega) (by omega)).mono ?_
      rintro e w7 ⟨rfl, hb7⟩
      rw [show decide (outE es x = outE es x) = true by simp]
      have HX7 := Lib.hid (HX6.out.below hb7)
      have HY7 := Lib.hid (HY6.out.below hb7)
      have HB7 := Lib.hid (below_at HB6.out HB6.out.size hb7)
      clear hb7
      go_wp2_with fail
      refine (sameBoard_any _ _ _ _ _ _ _ _ _ HY7.out HX7.out (by omega) (by omega)).mono ?_
      rintro e w8 ⟨rfl, hb8⟩
      rw [show decide (outE es x = outE es x) = true by simp]
      go_wp2
      go_ret
      exact ⟨rfl, below_at HB7.out HB7.out.size hb8⟩
    · have hse : s = x.2 + len1 := by omega
      rw [hse] at HA3
      have hm' : x.2 + (len1 : Int) ≤ 60 := by omega
      clear hs hA3 hse
      go_wp2_with fail
      refine (implBoardAdd_any _ _ _ (outE es x) (x.1, (x.2 + len1)) _ HX5.out (by omega) hlec2).mono ?_
      rintro e w6 ⟨A6, c6, rfl, hO6, hb6⟩
      rw [HA3.out] at hO6 ⊢
      have HX6 := Lib.hid (HX5.out.below hb6)
      have HZ6 := Lib.hid (HZ5.out.below hb6)
      have HY6 := Lib.hid hO6.rdE
      have HB6 := Lib.hid (below_at HB5.out HB5.out.size hb6)
      clear hb6 hO6 hc0 hc1
      go_wp2_with fail
      refine (sameBoard_any _ _ _ _ _ _ _ _ _ HZ6.out HX6.out (by omega) (by omega)).mono ?_
      rintro e w7 ⟨rfl, hb7⟩
      rw [show decide (outE es x = outE es x) = true by simp]
      have HX7 := Lib.hid (HX6.out.below hb7)
      have HY7 := Lib.hid (HY6.out.below hb7)
      have HB7 := Lib.hid (below_at HB6.out HB6.out.size hb7)
      clear hb7
      go_wp2_with fail
      refine (sameBoard_any _ _ _ _ _ _ _ _ _ HY7.out HX7.out (by omega) (by omega)).mono ?_
      rintro e w8 ⟨rfl, hb8⟩
      rw [show decide (outE es x = outE es x) = true by simp]
      go_wp2
      go_ret
      exact ⟨rfl, below_at HB7.out HB7.out.size hb8⟩
  · go_wp2_with fail
    refine (sameBoard_any _ _ _ _ _ _ _ _ _ HX4.out HY4.out (by omega) (by omega)).mono ?_
    rintro e w6 ⟨rfl, hb6⟩
    rw [show decide ((addE es x).1 = (addE es x).1) = true by simp]
    go_wp2
    go_ret
    exact ⟨rfl, below_at HB4.out HB4.out.size hb6⟩

set_option maxRecDepth 100000 in
theorem lifted (os : Os) (started : os.Started) (H : Type) (enc : TypeId × Value → H) :
    ReturnsInHanded {} Try.checked os 12 .any (Rows.fnBoardTwiceSpec.pre6 enc Try.prog Try.f12 Rows.fnBoardTwiceRow.domain false) (Rows.fnBoardTwiceSpec.post enc Try.prog Try.f12 false true false false) := by
  refine returnsInHanded_of_change (C := Try.checked) own_ started (by kernel_rfl) Try.func12
    (ChangeSpec.witness6 (enc := enc) (C := Try.checked) false ⟨#[], #[.slice none 0 0, .slice none 0 0], []⟩ 8 (by kernel_rfl) (by kernel_rfl) (by kernel_rfl) (by kernel_rfl)) ?_
  intro W base args ds gs before hval0 hW hcnd _
  have hval : ∀ (j : Nat) t v, Try.f12.params[j]? = some t → args[j]? = some v → Value.okWide Try.prog W .any base t v := hval0
  have hW' := hW
  obtain ⟨p, q, hA0, hV, rfl, hfz, hnd⟩ := hW
  have hA : DataW.TrodAll enc Try.prog W 0 (fun _ => true) true Try.f12.params.toList args.toList ds p := hA0
  rw [Try.params12] at hA hval
  obtain ⟨v0, vs0, d0, ds0, p0, q0, hargs, rfl, rfl, h0, r0⟩ := trodAll_cons hA
  obtain ⟨v1, vs1, d1, ds1, p1, q1, rfl, rfl, rfl, h1, r1⟩ := trodAll_cons r0
  obtain ⟨rfl, rfl, rfl⟩ := trodAll_nil r1
  obtain rfl : args = #[v0, v1] := by cases args; simp_all
  obtain ⟨rfl, rfl⟩ := trodVars_none hV
  obtain ⟨a0, len0, cap0, rfl⟩ := okWide_slice Try.underlying32 (hval 0 32 v0 rfl rfl)
  have k0 := h0
  have lt0 : ∀ x ∈ p0, x.block < W.heap.size := by obtain ⟨m, hm⟩ := k0; exact DataW.trod_lt m _ _ _ hm
  obtain ⟨z0, w0⟩ : ∃ zs, BytesIn W a0 len0 cap0 zs := by
    obtain ⟨fuel, hf⟩ := h0
    exact open_BytesIn Try.underlying32 Try.underlying5 (by kernel_rfl) (by simpa [Value.cells] using hf)
  obtain ⟨a1, len1, cap1, rfl⟩ := okWide_slice Try.underlying32 (hval 1 32 v1 rfl rfl)
  have k1 := h1
  have lt1 : ∀ x ∈ p1, x.block < W.heap.size := by obtain ⟨m, hm⟩ := k1; exact DataW.trod_lt m _ _ _ hm
  obtain ⟨z1, w1⟩ : ∃ zs, BytesIn W a1 len1 cap1 zs := by
    obtain ⟨fuel, hf⟩ := h1
    exact open_BytesIn Try.underlying32 Try.underlying5 (by kernel_rfl) (by simpa [Value.cells] using hf)
  clear hA0 hval0
  refine (walk a0 len0 cap0 z0 a1 len1 cap1 z1 W w0 w1).mono fun e W' ⟨he, bel⟩ => ?_
  subst he
  exact ⟨_, rfl, _, _, _, [], _, [], hW', trodAll_mk1 (shut_bool Try.underlying4 _), (trodAll_cons_mk (Below.trod laidOut_ (by kernel_rfl) (of_decide_eq_true (by kernel_rfl)) k0 bel lt0) (trodAll_cons_mk (Below.trod laidOut_ (by kernel_rfl) (of_decide_eq_true (by kernel_rfl)) k1 bel lt1) trodAll_mk0)), rfl, bel.frame _, fun h => by cases h⟩

theorem closed_ : joinedFacts Try.prog 12 Try.f12 Rows.fnBoardTwiceSpec Rows.fnBoardTwiceRow = true :=
  joined_by mayEnter_ liftsFinal_ make_ (by kernel_rfl) laidOut_ mapsRowed_ (by kernel_rfl) (by kernel_rfl) rfl stops_ rfl stopKnobs_ (by kernel_rfl) (by kernel_rfl) (by kernel_rfl) (by kernel_rfl) (by kernel_rfl) (by kernel_rfl) (by kernel_rfl) (by kernel_rfl) (by kernel_rfl) (by kernel_rfl) rfl stopsHeard_ rfl rfl rfl (by kernel_rfl)
theorem over : Rows.fnBoardTwiceRow.holds Try.pinned (OpenSpec.ofChange Rows.fnBoardTwiceSpec) :=
  OpenClaim.holds_of_wide 12 Try.f12 rfl rfl rfl rfl rfl rfl rfl ⟨rfl, rfl, rfl, rfl, rfl⟩ rfl rfl rfl rfl rfl (by kernel_rfl) Try.func12 closed_
    (of_decide_eq_true (by kernel_rfl)) (by unfold Func.isWrapper; first | (rw [if_pos (by decide +kernel)]; kernel_rfl) | (rw [if_neg (by decide +kernel)]; exact ⟨rfl, rfl⟩))
    (fun os started H enc _ => lifted os started H enc)

theorem proved : Rows.FnBoardTwiceSaid := over
#print axioms proved
end Go.Proofs.Ytjafdiacgaiphaa.fnBoardTwice

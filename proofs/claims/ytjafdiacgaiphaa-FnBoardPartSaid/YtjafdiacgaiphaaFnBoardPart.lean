/-
  FnBoardPart returns true whatever the codes; nothing that was there is written. No condition.
-/
import Derived.Test.YtjafdiacgaiphaaFb
import Derived.Test.YtjafdiacgaiphaaDw
import Derived.Test.YtjafdiacgaiphaaBr
import Derived.Test.YtjafdiacgaiphaaVp
namespace Go.Proofs.Ytjafdiacgaiphaa.fnBoardPart
open Go.RowKit Go.ChangeShapes Go.WideShapes Go.ChangeAt Go.Joins
set_option linter.unusedVariables false

theorem src_drop {w : World} {g : Nat} {n : Nat} {es : List Ent} (h : RdE w (some ⟨g, 0, none⟩) n es) (k m : Nat) (hm : m = n - k) (D : Option Addr) (hD : k < n → D = some ⟨g, k * 2, none⟩) : Src w 2 D m (cellsE (es.drop k)) := by
  subst hm
  refine ⟨by rw [cellsE_length, List.length_drop, h.1], fun hm => ?_⟩
  refine ⟨_, hD (by omega), fun j u hu => ?_⟩
  rw [← cellsE_drop, List.getElem?_drop] at hu
  obtain ⟨ad, had, hcell⟩ := (Src.ents h).2 (by omega)
  injection had with had
  subst had
  have := hcell _ u hu
  rw [Addr.add_lit] at this ⊢
  simpa using this

set_option maxHeartbeats 4000000 in
set_option maxRecDepth 100000 in
theorem walk (a0 : Option Addr) (len0 cap0 : Nat) (z0 : List Int) (a1 : Option Addr) (len1 cap1 : Nat) (z1 : List Int) (w : World) (w0 : BytesIn w a0 len0 cap0 z0) (w1 : BytesIn w a1 len1 cap1 z1) :
    Calls Try.prog 6 #[.slice a0 len0 cap0, .slice a1 len1 cap1] w fun e w' => e = .returned (.bool true) ∧ Below w.heap.size w w' := by
  have hz := w0.bd
  obtain ⟨hr, hlc, hcm, _⟩ := w0
  obtain ⟨_, hlc1, hcm1, _⟩ := w1
  by_cases hsz : (1048576 : Int) < len0
  · clear hr hlc hcm hz
    go_enter Try.func6, Try.ntmps6
    go_wp2
    go_ret
    exact ⟨rfl, Below.refl _ _⟩
  · by_cases hsz1 : (1048576 : Int) < len1
    · clear hr hlc hcm hz
      go_enter Try.func6, Try.ntmps6
      go_wp2
      go_ret
      exact ⟨rfl, Below.refl _ _⟩
    · obtain ⟨i0, hi0, hz0, hz1, hz2⟩ := info_parts infoE
      have HI := Lib.hid hi0
      have HZ := Lib.hid hz0
      have HS := Lib.hid hz1
      have HBY := Lib.hid hz2
      clear hi0 hz0 hz1 hz2
      have H1 := Lib.hid (drawBoardValid_any a0 len0 cap0 z0 w hr hz hlc hcm)
      clear hr hlc hcm hz hlc1 hcm1
      go_enter Try.func6, Try.ntmps6
      go_wp2_with fail
      refine H1.out.mono ?_
      rintro e w1 ⟨A, c, es, rfl, hO, hl, hB⟩
      have hlec := hO.le
      have HO := Lib.hid hO
      have HB := Lib.hid hB
      have HR := Lib.hid hO.rdE
      clear H1 hO hB
      go_wp2_with fail
      refine (implBoardValid_v _ _ _ _ _ HR.out (by omega) hlec).mono ?_
      rintro e w2 ⟨rfl, hb2⟩
      have HB2 := Lib.hid (below_at HB.out HB.out.size hb2)
      have HO2 := Lib.hid (HO.out.next hb2)
      clear hb2 HR HO HB
      go_wp2_with fail
      refine (specBoardValid_v _ _ _ _ _ HO2.out.rdE (by omega)).mono ?_
      rintro e w3 ⟨rfl, hb3⟩
      have HB3 := Lib.hid (below_at HB2.out HB2.out.size hb3)
      have HO3 := Lib.hid (HO2.out.next hb3)
      clear hb3 HO2 HB2
      cases hv : validE es with
      | false =>
        clear hv
        go_wp2
        go_ret
        exact ⟨rfl, HB3.out⟩
      | true =>
        have HV := Lib.hid hv
        clear hv
        rcases Nat.eq_zero_or_pos es.length with hl0 | hl0
        · go_wp2
          go_ret
          exact ⟨rfl, HB3.out⟩
        · have hcp : 0 < c := by omega
          obtain ⟨g, cur, rfl, hg, _⟩ := HO3.out.blk hcp
          have HR3 := Lib.hid HO3.out.rdE
          have hne : ¬ es.length = 0 := by omega
          obtain ⟨k, hk⟩ : ∃ k, len1 % es.length = k := ⟨_, rfl⟩
          have hkl : k < es.length := by rw [← hk]; exact Nat.mod_lt _ hl0
          have hke : (len1 : Int) % (es.length : Int) = k := by rw [← hk]; rfl
          obtain ⟨K, hK⟩ : ∃ K, K = k + 1 := ⟨_, rfl⟩
          have qw : IntKind.i64.wrap ((k : Int) + 1) = (K : Int) := by rw [IntWalk.i64_in _ (by omega), hK]; push_cast; rfl
          obtain ⟨D, hD⟩ : ∃ D, (if c = K then some (⟨g, 0, none⟩ : Addr) else some ⟨g, K * 2, none⟩) = D := ⟨_, rfl⟩
          obtain ⟨D', hD'⟩ : ∃ D, (if c = k then some (⟨g, 0, none⟩ : Addr) else some ⟨g, k * 2, none⟩) = D := ⟨_, rfl⟩
          have hS1 := Lib.hid (Src.ents (HR3.out.take (k := k) (by omega)))
          have hS2 := Lib.hid (src_drop HR3.out K (es.length - K) rfl D (fun h => by rw [← hD, if_neg (by omega)]))
          have hS3 := Lib.hid (Src.ents (HR3.out.take (k := K) (by omega)))
          have hS4 := Lib.hid (src_drop HR3.out k (es.length - k) rfl D' (fun h => by rw [← hD', if_neg (by omega)]))
          have q0 : k ≤ c := by omega
          have q1 : K ≤ c := by omega
          have q2 : (k : Int) ≤ es.length := by omega
          have q3 : (K : Int) ≤ es.length := by omega
          have q5 : k ≤ es.length := by omega
          have q6 : K ≤ es.length := by omega
          have hless := Lib.hid (valid_less HV.out k)
          have htwice := Lib.hid (valid_twice hkl)
          rw [← hK] at hless htwice
          have HK := Lib.hid hK
          have hK8 : K ≤ 8 := by omega
          have hk8 : k ≤ 8 := by omega
          clear hk hK
          go_wp2_with fail
          rw [hke]
          go_cut [9] (fun s9 wx => ∃ (A7 : Option Addr) (c7 : Nat), s9 = .slice A7 (k + (es.length - K)) c7 ∧ Hid (Below w3.heap.size w3 wx ∧ OwE w3.heap.size wx A7 (k + (es.length - K)) c7 (es.take k ++ es.drop K)))
          case first =>
            go_region_law (first
              | (refine step_append_ow _ rfl (.tmp 45) (.tmp 48) _ rfl w3.heap.size 38 i0 _ 2 16 Try.underlying25 HI.out HZ.out HS.out HBY.out rfl (by omega) _ 0 0 [] rfl (Ow.bare _ _ _ _ _) _ (k) _ (cellsE (es.take k)) rfl (hS1.out.below (by go_grown)) (cellsE_one _) (by unfold maxLen; omega) (by omega) (by go_size) ?_; intro A5 c5 w5 hO5 hg5 _; simp only [Nat.zero_add, List.nil_append] at hO5; have hb5 : Below w3.heap.size w3 w5 := (Ow.bare w3.heap.size _ 38 2 none).grown hg5 (by go_grown) (Nat.le_refl _) (by go_size); have hs5 := hb5.size)
              | (refine step_append_ow _ rfl (.tmp 49) (.tmp 53) _ rfl w3.heap.size 38 i0 _ 2 16 Try.underlying25 HI.out HZ.out HS.out HBY.out rfl (by omega) _ (k) c5 _ rfl hO5 D (es.length - K) _ (cellsE (es.drop K)) rfl (hS2.out.below hb5) (cellsE_one _) (by unfold maxLen; omega) (by omega) hb5.size ?_; intro A7 c7 w7 hO7 hg7 _; have hb7 : Below w3.heap.size w3 w7 := hO5.grown hg7 hb5 (Nat.le_refl _) hb5.size; clear hg5 hg7))
            all_goals (go_wp2_with fail; go_meet; exact ⟨A7, c7, rfl, hb7, by rw [← cellsE_append] at hO7; exact hO7⟩)
          case rest =>
            obtain ⟨A9, c9, rfl, HC⟩ := hcut
            have hT1 := Lib.hid (hS3.out.below HC.out.1)
            have hT2 := Lib.hid (hS4.out.below HC.out.1)
            go_wp2_with fail
            go_cut [10] (fun s10 wx => ∃ (A8 : Option Addr) (c8 : Nat), s10 = .slice A8 (K + (es.length - k)) c8 ∧ Hid (Below wc.heap.size wc wx ∧ OwE wc.heap.size wx A8 (K + (es.length - k)) c8 (es.take K ++ es.drop k)))
            case first =>
              go_region_law (first
                | (refine step_append_ow _ rfl (.tmp 55) (.tmp 59) _ rfl wc.heap.size 38 i0 _ 2 16 Try.underlying25 HI.out HZ.out HS.out HBY.out rfl (by omega) _ 0 0 [] rfl (Ow.bare _ _ _ _ _) _ (K) _ (cellsE (es.take K)) rfl (hT1.out.below (by go_grown)) (cellsE_one _) (by unfold maxLen; omega) (by omega) (by go_size) ?_; intro A5 c5 w5 hO5 hg5 _; simp only [Nat.zero_add, List.nil_append] at hO5; have hb5 : Below wc.heap.size wc w5 := (Ow.bare wc.heap.size _ 38 2 none).grown hg5 (by go_grown) (Nat.le_refl _) (by go_size); have hs5 := hb5.size)
                | (refine step_append_ow _ rfl (.tmp 60) (.tmp 63) _ rfl wc.heap.size 38 i0 _ 2 16 Try.underlying25 HI.out HZ.out HS.out HBY.out rfl (by omega) _ (K) c5 _ rfl hO5 D' (es.length - k) _ (cellsE (es.drop k)) rfl (hT2.out.below hb5) (cellsE_one _) (by unfold maxLen; omega) (by omega) hb5.size ?_; intro A7 c7 w7 hO7 hg7 _; have hb7 : Below wc.heap.size wc w7 := hO5.grown hg7 hb5 (Nat.le_refl _) hb5.size; clear hg5 hg7))
              all_goals (go_wp2_with fail; go_meet; exact ⟨A7, c7, rfl, hb7, by rw [← cellsE_append] at hO7; exact hO7⟩)
            case rest =>
              obtain ⟨A8, c8, rfl, HC8⟩ := hcut
              have HBe := Lib.hid (below_at HB3.out HB3.out.size (below_next HC.out.1 HC8.out.1))
              have hLl : (es.take k ++ es.drop K).length = k + (es.length - K) := by simp; omega
              have hTl : (es.take K ++ es.drop k).length = K + (es.length - k) := by simp; omega
              have hm1 := HC.out.2.le
              have HRL := Lib.hid ((HC.out.2.rdE).below HC8.out.1)
              go_wp2_with fail
              refine (implBoardValid_v _ _ _ _ _ HRL.out (by omega) hm1).mono ?_
              rintro e w5 ⟨rfl, hb5⟩
              have HB5 := Lib.hid (below_at HBe.out HBe.out.size hb5)
              have HRT := Lib.hid ((HC8.out.2.rdE).below hb5)
              have hm2 := HC8.out.2.le
              clear hb5
              rw [hless.out]
              go_wp2_with fail
              refine (implBoardValid_v _ _ _ _ _ HRT.out (by omega) hm2).mono ?_
              rintro e w6 ⟨rfl, hb6⟩
              rw [htwice.out]
              go_wp2
              go_ret
              exact ⟨rfl, below_at HB5.out HB5.out.size hb6⟩

set_option maxRecDepth 100000 in
theorem lifted (os : Os) (started : os.Started) (H : Type) (enc : TypeId × Value → H) :
    ReturnsInHanded {} Try.checked os 6 .any (Rows.fnBoardPartSpec.pre6 enc Try.prog Try.f6 Rows.fnBoardPartRow.domain false) (Rows.fnBoardPartSpec.post enc Try.prog Try.f6 false true false false) := by
  refine returnsInHanded_of_change (C := Try.checked) own_ started (by kernel_rfl) Try.func6
    (ChangeSpec.witness6 (enc := enc) (C := Try.checked) false ⟨#[], #[.slice none 0 0, .slice none 0 0], []⟩ 8 (by kernel_rfl) (by kernel_rfl) (by kernel_rfl) (by kernel_rfl)) ?_
  intro W base args ds gs before hval0 hW hcnd _
  have hval : ∀ (j : Nat) t v, Try.f6.params[j]? = some t → args[j]? = some v → Value.okWide Try.prog W .any base t v := hval0
  have hW' := hW
  obtain ⟨p, q, hA0, hV, rfl, hfz, hnd⟩ := hW
  have hA : DataW.TrodAll enc Try.prog W 0 (fun _ => true) true Try.f6.params.toList args.toList ds p := hA0
  rw [Try.params6] at hA hval
  obtain ⟨v0, vs0, d0, ds0, p0, q0, hargs, rfl, rfl, h0, r0⟩ := trodAll_cons hA
  obtain ⟨v1, vs1, d1, ds1, p1, q1, rfl, rfl, rfl, h1, r1⟩ := trodAll_cons r0
  obtain ⟨rfl, rfl, rfl⟩ := trodAll_nil r1
  obtain rfl : args = #[v0, v1] := by cases args; simp_all
  obtain ⟨rfl, rfl⟩ := trodVars_none hV
  obtain ⟨a0, len0, cap0, rfl⟩ := okWide_slice Try.underlying32 (hval 0 32 v0 rfl rfl)
  have k0 := h0
  have lt0 : ∀ x ∈ p0, x.block < W.heap.size := by obtain ⟨m, hm⟩ := k0; exact DataW.trod_lt m _ _ _ hm
  obtain ⟨z0, w0⟩ : ∃ zs, BytesIn W a0 len0 cap0 zs := by
    obtain ⟨fuel, hf⟩ := h0
    exact open_BytesIn Try.underlying32 Try.underlying5 (by kernel_rfl) (by simpa [Value.cells] using hf)
  obtain ⟨a1, len1, cap1, rfl⟩ := okWide_slice Try.underlying32 (hval 1 32 v1 rfl rfl)
  have k1 := h1
  have lt1 : ∀ x ∈ p1, x.block < W.heap.size := by obtain ⟨m, hm⟩ := k1; exact DataW.trod_lt m _ _ _ hm
  obtain ⟨z1, w1⟩ : ∃ zs, BytesIn W a1 len1 cap1 zs := by
    obtain ⟨fuel, hf⟩ := h1
    exact open_BytesIn Try.underlying32 Try.underlying5 (by kernel_rfl) (by simpa [Value.cells] using hf)
  clear hA0 hval0
  refine (walk a0 len0 cap0 z0 a1 len1 cap1 z1 W w0 w1).mono fun e W' ⟨he, bel⟩ => ?_
  subst he
  exact ⟨_, rfl, _, _, _, [], _, [], hW', trodAll_mk1 (shut_bool Try.underlying4 _), (trodAll_cons_mk (Below.trod laidOut_ (by kernel_rfl) (of_decide_eq_true (by kernel_rfl)) k0 bel lt0) (trodAll_cons_mk (Below.trod laidOut_ (by kernel_rfl) (of_decide_eq_true (by kernel_rfl)) k1 bel lt1) trodAll_mk0)), rfl, bel.frame _, fun h => by cases h⟩

theorem closed_ : joinedFacts Try.prog 6 Try.f6 Rows.fnBoardPartSpec Rows.fnBoardPartRow = true :=
  joined_by mayEnter_ liftsFinal_ make_ (by kernel_rfl) laidOut_ mapsRowed_ (by kernel_rfl) (by kernel_rfl) rfl stops_ rfl stopKnobs_ (by kernel_rfl) (by kernel_rfl) (by kernel_rfl) (by kernel_rfl) (by kernel_rfl) (by kernel_rfl) (by kernel_rfl) (by kernel_rfl) (by kernel_rfl) (by kernel_rfl) rfl stopsHeard_ rfl rfl rfl (by kernel_rfl)
theorem over : Rows.fnBoardPartRow.holds Try.pinned (OpenSpec.ofChange Rows.fnBoardPartSpec) :=
  OpenClaim.holds_of_wide 6 Try.f6 rfl rfl rfl rfl rfl rfl rfl ⟨rfl, rfl, rfl, rfl, rfl⟩ rfl rfl rfl rfl rfl (by kernel_rfl) Try.func6 closed_
    (of_decide_eq_true (by kernel_rfl)) (by unfold Func.isWrapper; first | (rw [if_pos (by decide +kernel)]; kernel_rfl) | (rw [if_neg (by decide +kernel)]; exact ⟨rfl, rfl⟩))
    (fun os started H enc _ => lifted os started H enc)

theorem proved : Rows.FnBoardPartSaid := over
#print axioms proved
end Go.Proofs.Ytjafdiacgaiphaa.fnBoardPart

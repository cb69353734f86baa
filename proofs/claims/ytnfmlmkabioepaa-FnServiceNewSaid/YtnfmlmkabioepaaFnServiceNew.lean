/-
  FnServiceNew returns true for every code, and nothing that was there is written. No condition.
-/
import Derived.Test.YtnfmlmkabioepaaFb
import Derived.Test.YtnfmlmkabioepaaKd
import Derived.Test.YtnfmlmkabioepaaNw
namespace Go.Proofs.Ytnfmlmkabioepaa.fnServiceNew
open Go.RowKit Go.ChangeShapes Go.WideShapes Go.ChangeAt
set_option linter.unusedVariables false

set_option maxRecDepth 100000 in
set_option maxHeartbeats 8000000 in
theorem walk (a0 : Option Addr) (len0 cap0 : Nat) (z0 : List Int) (w : World) (w0 : BytesIn w a0 len0 cap0 z0) :
    Calls Try.prog 5 #[.slice a0 len0 cap0] w fun e w' => e = .returned (.bool true) ∧ Below w.heap.size w w' := by
  have hz := w0.bd
  obtain ⟨hr, hlc, hcm, _⟩ := w0
  by_cases hsz : (1048576 : Int) < len0
  · clear hr hlc hcm hz
    go_enter Try.func5, Try.ntmps5
    go_wp2
    go_ret
    exact ⟨rfl, Below.refl _ _⟩
  have H1 := Lib.hid (drawServiceNew_any a0 len0 cap0 z0 w hr hz hlc hcm)
  clear hr hlc hcm hz
  go_enter Try.func5, Try.ntmps5
  go_wp2_with fail
  refine H1.out.mono ?_
  rintro e w1 ⟨A1, c1, ks, rfl, hk1, hl1, hb1⟩
  have HK := Lib.hid hk1
  have HB := Lib.hid hb1
  clear hk1 hb1
  cases hno : newOk ks
  · have hnew : newS ks = (⟨[], [], []⟩, false) := by simp [newS, hno]
    have HBK := Lib.hid (Below.refl w1.heap.size w1)
    go_wp2_with fail
    have C2 := implServiceNew_any A1 ks.length c1 ks w1 HK.out (by omega)
    rw [hnew] at C2
    refine C2.mono ?_
    clear C2
    rintro e w2 ⟨t2, k2, g2, rfl, ho, hb⟩
    have s2 : w1.heap.size ≤ w2.heap.size := hb.size
    replace HB := Lib.hid (below_next HB.out hb)
    replace HBK := Lib.hid (below_next HBK.out hb)
    have ho2 := ho
    clear ho hb
    have hb : Below w2.heap.size w2 (w2.alloc (.cells #[.slice t2.a t2.n t2.c, .slice k2.a k2.n k2.c, .slice g2.a g2.n g2.c] 41)) := (Below.refl _ _).alloc (Nat.le_refl _) _
    replace HB := Lib.hid (below_next HB.out hb)
    replace HBK := Lib.hid (below_next HBK.out hb)
    have HOB := Lib.hid (Blk.new w2 41 #[.slice t2.a t2.n t2.c, .slice k2.a k2.n k2.c, .slice g2.a g2.n g2.c])
    have HOS := Lib.hid (ho2.next hb)
    clear ho2
    clear hb
    have cO := fun o => HOB.out.cell o
    have zO := HOB.out.lt
    go_wp2_with fail
    clear cO zO
    have C3 := specServiceNew_any A1 ks.length c1 ks (w2.alloc (.cells #[.slice t2.a t2.n t2.c, .slice k2.a k2.n k2.c, .slice g2.a g2.n g2.c] 41)) (HK.out.below HBK.out) (by omega)
    rw [hnew] at C3
    refine C3.mono ?_
    clear C3
    rintro e w3 ⟨t3, k3, g3, rfl, ho, hb⟩
    replace HOB := Lib.hid (HOB.out.next hb)
    replace HOS := Lib.hid (HOS.out.next hb)
    replace HB := Lib.hid (below_next HB.out hb)
    replace HBK := Lib.hid (below_next HBK.out hb)
    have ho3 := ho
    clear ho hb
    have hb : Below w3.heap.size w3 (w3.alloc (.cells #[.slice t3.a t3.n t3.c, .slice k3.a k3.n k3.c, .slice g3.a g3.n g3.c] 41)) := (Below.refl _ _).alloc (Nat.le_refl _) _
    replace HOB := Lib.hid (HOB.out.next hb)
    replace HOS := Lib.hid (HOS.out.next hb)
    replace HB := Lib.hid (below_next HB.out hb)
    replace HBK := Lib.hid (below_next HBK.out hb)
    have HWB := Lib.hid (Blk.new w3 41 #[.slice t3.a t3.n t3.c, .slice k3.a k3.n k3.c, .slice g3.a g3.n g3.c])
    have HWS := Lib.hid (ho3.next hb)
    clear ho3
    clear hb
    have cO := fun o => HOB.out.cell o
    have zO := HOB.out.lt
    have cW := fun o => HWB.out.cell o
    have zW := HWB.out.lt
    go_wp2_with fail
    clear cO zO cW zW
    refine (sameNone_same _ _ _ _ _ _ ⟨[], [], []⟩ _ HOS.out.rd HWS.out.rd rfl).mono ?_
    rintro e w4 ⟨rfl, hb⟩
    have s4 : w3.heap.size + 1 ≤ w4.heap.size := by simpa using hb.size
    replace HOB := Lib.hid (HOB.out.next hb)
    replace HWB := Lib.hid (HWB.out.next hb)
    replace HOS := Lib.hid (HOS.out.next hb)
    replace HWS := Lib.hid (HWS.out.next hb)
    replace HB := Lib.hid (below_next HB.out hb)
    replace HBK := Lib.hid (below_next HBK.out hb)
    clear hb
    have cO := fun o => HOB.out.cell o
    have zO := HOB.out.lt
    have cW := fun o => HWB.out.cell o
    have zW := HWB.out.lt
    go_wp2_with fail
    clear cO zO cW zW
    refine (sameNone_same _ _ _ _ _ _ ⟨[], [], []⟩ _ HOS.out.rd HWS.out.rd rfl).mono ?_
    rintro e w5 ⟨rfl, hb⟩
    have s5 : w4.heap.size ≤ w5.heap.size := hb.size
    replace HOB := Lib.hid (HOB.out.next hb)
    replace HWB := Lib.hid (HWB.out.next hb)
    replace HOS := Lib.hid (HOS.out.next hb)
    replace HWS := Lib.hid (HWS.out.next hb)
    replace HB := Lib.hid (below_next HB.out hb)
    replace HBK := Lib.hid (below_next HBK.out hb)
    clear hb
    go_wp2_with fail
    go_ret
    exact ⟨rfl, HB.out⟩
  · have hnew : newS ks = (⟨[], padK ks, []⟩, true) := by simp [newS, hno]
    have HNO := Lib.hid hno
    have hle : ks.length ≤ 10 := by
      unfold newOk at hno
      simp only [Bool.and_eq_true, decide_eq_true_eq] at hno
      exact hno.1
    have HBK := Lib.hid (Below.refl w1.heap.size w1)
    go_wp2_with fail
    have C2 := implServiceNew_any A1 ks.length c1 ks w1 HK.out (by omega)
    rw [hnew] at C2
    refine C2.mono ?_
    clear C2
    rintro e w2 ⟨t2, k2, g2, rfl, ho, hb⟩
    have s2 : w1.heap.size ≤ w2.heap.size := hb.size
    replace HB := Lib.hid (below_next HB.out hb)
    replace HBK := Lib.hid (below_next HBK.out hb)
    have ho2 := ho
    clear ho hb
    have hb : Below w2.heap.size w2 (w2.alloc (.cells #[.slice t2.a t2.n t2.c, .slice k2.a k2.n k2.c, .slice g2.a g2.n g2.c] 41)) := (Below.refl _ _).alloc (Nat.le_refl _) _
    replace HB := Lib.hid (below_next HB.out hb)
    replace HBK := Lib.hid (below_next HBK.out hb)
    have HOB := Lib.hid (Blk.new w2 41 #[.slice t2.a t2.n t2.c, .slice k2.a k2.n k2.c, .slice g2.a g2.n g2.c])
    have HOS := Lib.hid (ho2.next hb)
    clear ho2
    clear hb
    have cO := fun o => HOB.out.cell o
    have zO := HOB.out.lt
    go_wp2_with fail
    clear cO zO
    have C3 := specServiceNew_any A1 ks.length c1 ks (w2.alloc (.cells #[.slice t2.a t2.n t2.c, .slice k2.a k2.n k2.c, .slice g2.a g2.n g2.c] 41)) (HK.out.below HBK.out) (by omega)
    rw [hnew] at C3
    refine C3.mono ?_
    clear C3
    rintro e w3 ⟨t3, k3, g3, rfl, ho, hb⟩
    replace HOB := Lib.hid (HOB.out.next hb)
    replace HOS := Lib.hid (HOS.out.next hb)
    replace HB := Lib.hid (below_next HB.out hb)
    replace HBK := Lib.hid (below_next HBK.out hb)
    have ho3 := ho
    clear ho hb
    have hb : Below w3.heap.size w3 (w3.alloc (.cells #[.slice t3.a t3.n t3.c, .slice k3.a k3.n k3.c, .slice g3.a g3.n g3.c] 41)) := (Below.refl _ _).alloc (Nat.le_refl _) _
    replace HOB := Lib.hid (HOB.out.next hb)
    replace HOS := Lib.hid (HOS.out.next hb)
    replace HB := Lib.hid (below_next HB.out hb)
    replace HBK := Lib.hid (below_next HBK.out hb)
    have HWB := Lib.hid (Blk.new w3 41 #[.slice t3.a t3.n t3.c, .slice k3.a k3.n k3.c, .slice g3.a g3.n g3.c])
    have HWS := Lib.hid (ho3.next hb)
    clear ho3
    clear hb
    have cO := fun o => HOB.out.cell o
    have zO := HOB.out.lt
    have cW := fun o => HWB.out.cell o
    have zW := HWB.out.lt
    go_wp2_with fail
    clear cO zO cW zW
    refine (sameNone_same _ _ _ _ _ _ ⟨[], padK ks, []⟩ _ HOS.out.rd HWS.out.rd rfl).mono ?_
    rintro e w4 ⟨rfl, hb⟩
    have s4 : w3.heap.size + 1 ≤ w4.heap.size := by simpa using hb.size
    replace HOB := Lib.hid (HOB.out.next hb)
    replace HWB := Lib.hid (HWB.out.next hb)
    replace HOS := Lib.hid (HOS.out.next hb)
    replace HWS := Lib.hid (HWS.out.next hb)
    replace HB := Lib.hid (below_next HB.out hb)
    replace HBK := Lib.hid (below_next HBK.out hb)
    clear hb
    have HKW := Lib.hid (HK.out.below HBK.out)
    have hrd := HOS.out.rd
    obtain ⟨⟨xs, hxs, htt⟩, hkk, hgg, _⟩ := hrd
    rw [List.map_eq_nil_iff] at hxs
    subst hxs
    have ht0 : t2.n = 0 := htt.1.len.symm
    have hg0 : g2.n = 0 := hgg.len.symm
    have hk10 : k2.n = 10 := by
      have h := hkk.len
      have h2 := padK_length hle
      simp only at h
      omega
    have HKK := Lib.hid hkk
    obtain ⟨ta, tn, tc⟩ := t2
    obtain ⟨ka, kn, kc⟩ := k2
    obtain ⟨ga, gn, gc⟩ := g2
    simp only at ht0 hg0 hk10
    subst ht0 hg0 hk10
    clear htt hkk hgg
    have cO := fun o => HOB.out.cell o
    have zO := HOB.out.lt
    go_wp2_with fail
    go_loop [8, 9] (fun i _ => ∃ p : Nat, p ≤ 10 ∧ i = .int .i64 p) (fun i _ => 10 - (intOf i).toNat)
    case atStart => exact ⟨0, Nat.zero_le _, rfl⟩
    case round =>
      obtain ⟨p, hp, rfl⟩ := hrel
      by_cases hlt : p < 10
      · obtain ⟨b2, off2, z2, hA2, hb2', hz2, hc2⟩ := HKK.out.at_ (show p < 10 from hlt)
        subst hA2
        by_cases hpl : p < ks.length
        · obtain ⟨b, off, z, hA, hb, hz, hc⟩ := HKW.out.at_ hpl
          subst hA
          obtain rfl : z = z2 := by
            simp only [padK] at hz2
            rw [List.getElem?_append_left hpl, hz] at hz2
            exact Option.some.inj hz2
          clear hz hz2
          go_wp2
          go_round
          case rel => exact ⟨p + 1, by omega, by go_num⟩
          case measure => simp [intOf]; omega
        · obtain rfl : z2 = 0 := by
            simp only [padK] at hz2
            rw [List.getElem?_append_right (by omega), List.getElem?_replicate, if_pos (by omega)] at hz2
            exact (Option.some.inj hz2).symm
          clear hz2
          go_wp2
          go_round
          case rel => exact ⟨p + 1, by omega, by go_num⟩
          case measure => simp [intOf]; omega
      · go_wp2_with fail
        refine (implServiceValid_any _ _ _ ⟨[], padK ks, []⟩ _ HOS.out.rd).mono ?_
        rintro e w5 ⟨rfl, hb5⟩
        have hv : validS ⟨[], padK ks, []⟩ = true := by rw [valid_new, HNO.out]
        rw [hv]
        have HO5 := Lib.hid (HOB.out.next hb5)
        have HB5 := Lib.hid (below_next HB.out hb5)
        clear cO zO hb5 hv
        have cO := fun o => HO5.out.cell o
        have zO := HO5.out.lt
        go_wp2_with fail
        go_ret
        exact ⟨rfl, HB5.out⟩


set_option maxRecDepth 100000 in
theorem lifted (os : Os) (started : os.Started) (H : Type) (enc : TypeId × Value → H) :
    ReturnsInHanded {} Try.checked os 5 .any (Rows.fnServiceNewSpec.pre6 enc Try.prog Try.f5 Rows.fnServiceNewRow.domain false) (Rows.fnServiceNewSpec.post enc Try.prog Try.f5 false true false false) := by
  refine returnsInHanded_of_change (C := Try.checked) own_ started (by kernel_rfl) Try.func5
    (ChangeSpec.witness6 (enc := enc) (C := Try.checked) false ⟨#[], #[.slice none 0 0], []⟩ 8 (by kernel_rfl) (by kernel_rfl) (by kernel_rfl) (by kernel_rfl)) ?_
  intro W base args ds gs before hval0 hW hcnd _
  have hval : ∀ (j : Nat) t v, Try.f5.params[j]? = some t → args[j]? = some v → Value.okWide Try.prog W .any base t v := hval0
  have hW' := hW
  obtain ⟨p, q, hA0, hV, rfl, hfz, hnd⟩ := hW
  have hA : DataW.TrodAll enc Try.prog W 0 (fun _ => true) true Try.f5.params.toList args.toList ds p := hA0
  rw [Try.params5] at hA hval
  obtain ⟨v0, vs0, d0, ds0, p0, q0, hargs, rfl, rfl, h0, r0⟩ := trodAll_cons hA
  obtain ⟨rfl, rfl, rfl⟩ := trodAll_nil r0
  obtain rfl : args = #[v0] := by cases args; simp_all
  obtain ⟨rfl, rfl⟩ := trodVars_none hV
  obtain ⟨a0, len0, cap0, rfl⟩ := okWide_slice Try.underlying22 (hval 0 22 v0 rfl rfl)
  have k0 := h0
  have lt0 : ∀ x ∈ p0, x.block < W.heap.size := by obtain ⟨m, hm⟩ := k0; exact DataW.trod_lt m _ _ _ hm
  obtain ⟨z0, w0⟩ : ∃ zs, BytesIn W a0 len0 cap0 zs := by
    obtain ⟨fuel, hf⟩ := h0
    exact open_BytesIn Try.underlying22 Try.underlying5 (by kernel_rfl) (by simpa [Value.cells] using hf)
  clear hA0 hval0
  refine (walk a0 len0 cap0 z0 W w0).mono fun e W' ⟨he, bel⟩ => ?_
  subst he
  exact ⟨_, rfl, _, _, _, [], _, [], hW', trodAll_mk1 (shut_bool Try.underlying4 _), (trodAll_cons_mk (Below.trod laidOut_ (by kernel_rfl) (of_decide_eq_true (by kernel_rfl)) k0 bel lt0) trodAll_mk0), rfl, bel.frame _, fun h => by cases h⟩

theorem closed_ : joinedFacts Try.prog 5 Try.f5 Rows.fnServiceNewSpec Rows.fnServiceNewRow = true :=
  joined_by mayEnter_ liftsFinal_ make_ (by kernel_rfl) laidOut_ mapsRowed_ (by kernel_rfl) (by kernel_rfl) rfl stops_ rfl stopKnobs_ (by kernel_rfl) (by kernel_rfl) (by kernel_rfl) (by kernel_rfl) (by kernel_rfl) (by kernel_rfl) (by kernel_rfl) (by kernel_rfl) (by kernel_rfl) (by kernel_rfl) rfl stopsHeard_ rfl rfl rfl (by kernel_rfl)
theorem over : Rows.fnServiceNewRow.holds Try.pinned (OpenSpec.ofChange Rows.fnServiceNewSpec) :=
  OpenClaim.holds_of_wide 5 Try.f5 rfl rfl rfl rfl rfl rfl rfl ⟨rfl, rfl, rfl, rfl, rfl⟩ rfl rfl rfl rfl rfl (by kernel_rfl) Try.func5 closed_
    (of_decide_eq_true (by kernel_rfl)) (by unfold Func.isWrapper; first | (rw [if_pos (by decide +kernel)]; kernel_rfl) | (rw [if_neg (by decide +kernel)]; exact ⟨rfl, rfl⟩))
    (fun os started H enc _ => lifted os started H enc)

theorem proved : Rows.FnServiceNewSaid := over
#print axioms proved
end Go.Proofs.Ytnfmlmkabioepaa.fnServiceNew

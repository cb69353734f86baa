/-
  FnServiceValid returns true for every code, and nothing that was there is written. No condition.
-/
import Derived.Test.YtepddbfafdfadaaGreatKa3
import Derived.Test.YtepddbfafdfadaaGreatKa14
import Derived.Test.YtepddbfafdfadaaGreatKa39
namespace Go.Proofs.YtepddbfafdfadaaGreat.fnServiceValid
open Go.RowKit Go.ChangeShapes Go.WideShapes Go.ChangeAt
set_option linter.unusedVariables false
set_option maxRecDepth 100000 in
set_option maxHeartbeats 8000000 in
theorem walk (a0 : Option Addr) (len0 cap0 : Nat) (z0 : List Int) (w : World) (w0 : BytesIn w a0 len0 cap0 z0) :
  Calls Tryz.prog 5 #[.slice a0 len0 cap0] w fun e w' => e = .returned (.bool true) ∧ Below w.heap.size w w' := by
 have hz := w0.bd
 obtain ⟨hr, hlc, hcm, _⟩ := w0
 by_cases hsz : (1048576 : Int) < len0
 ·clear hr hlc hcm hz
  go_enter Tryz.func5, Tryz.ntmps5
  go_wp2
  go_ret
  exact ⟨rfl, Below.refl _ _⟩
 have H1 := Lib.hid (drawServiceValid_any a0 len0 cap0 z0 w ⟨hr, hz, hlc, hcm⟩)
 clear hr hlc hcm hz
 go_enter Tryz.func5, Tryz.ntmps5
 go_wp2_with fail
 refine H1.out.mono ?_
 rintro e w1 ⟨t, k, g, S, rfl, hrd, hb1⟩
 go_upto_region 4 with (fail)
 refine into_world (fun Y => Below w.heap.size w Y ∧ Blk Y w1.heap.size 37 (svC t k g) ∧ RdS Y t k g S) ⟨hb1.alloc hb1.size _, Blk.new _ _ _, hrd.below (ba (Below.refl _ _))⟩ ?_
 clear hrd hb1
 rintro Y ⟨hB, hKS, hrd⟩
 have HB := Lib.hid hB
 have KS := Lib.hid hKS
 have HR := Lib.hid hrd
 clear hB hKS hrd
 have cs := fun o => KS.out.cell o
 have fs := fun o => KS.out.frozen o
 have zs := KS.out.lt
 go_wp2_with fail
 refine (implServiceValid_any _ _ _ S _ HR.out).mono ?_
 rintro e w2 ⟨rfl, hb⟩
 replace KS := Lib.hid (KS.out.next hb)
 replace HR := Lib.hid (HR.out.below hb)
 replace HB := Lib.hid (below_next HB.out hb)
 clear hb cs fs zs
 have cs := fun o => KS.out.cell o
 have fs := fun o => KS.out.frozen o
 have zs := KS.out.lt
 go_wp2_with fail
 refine (specServiceValid_any _ _ _ S _ HR.out).mono ?_
 rintro e w3 ⟨rfl, hb⟩
 replace KS := Lib.hid (KS.out.next hb)
 replace HR := Lib.hid (HR.out.below hb)
 replace HB := Lib.hid (below_next HB.out hb)
 clear hb cs fs zs
 cases hv : validS S
 ·clear hv
  go_wp2_with fail
  go_ret
  exact ⟨rfl, HB.out⟩
 have HV := Lib.hid hv
 clear hv
 obtain ⟨⟨xs, hxs, hts⟩, hk, _, ⟨_, hn1⟩, ⟨_, hn2⟩, _⟩ := HR.out
 have HX := Lib.hid hxs
 have HT := Lib.hid hts
 have HK := Lib.hid hk
 have hk10 : k.n = 10 := by have := hk.1; have := (validS_of HV.out).1; omega
 have HK10 := Lib.hid hk10
 have hkb : 10 ≤ k.n := by omega
 clear hxs hts hk hk10
 have HKS := Lib.hid KS.out
 have cs := fun o => KS.out.cell o
 have fs := fun o => KS.out.frozen o
 have zs := KS.out.lt
 go_wp2_with fail
 clear cs fs zs
 go_loopg [6] t.n (fun gg i wr => ∃ p : Nat, p ≤ t.n ∧ t.n - p ≤ gg ∧ i = .int .i64 p ∧ Hid (Below w3.heap.size w3 wr))
 case atStart => exact ⟨0, Nat.zero_le _, by omega, rfl, Below.refl _ _⟩
 case round =>
  obtain ⟨p, hp, hgg, rfl, HH⟩ := hrel
  have KS2 := Lib.hid (HKS.out.next HH.out)
  have cs := fun o => KS2.out.cell o
  have fs := fun o => KS2.out.frozen o
  have zs := KS2.out.lt
  by_cases hlt : p < t.n
  rotate_left
  ·have hk10 := HK10.out
   go_wp2_with fail
   go_ret
   exact ⟨by rw [hk10]; rfl, below_next HB.out HH.out⟩
  obtain ⟨b, off, x, hA, hbb, hx, hrx, _, _, _, _, _, _, _, _, _, _, _, e11⟩ := RdTs.cells (HT.out.below HH.out) hlt
  have htr : S.ts[p]? = some x.2 := by rw [← HX.out, List.getElem?_map, hx]; rfl
  have hvt := valid_trk HV.out htr
  have HVB := Lib.hid hvt.2.1
  have HAL := Lib.hid hvt.2.2.2
  have HRB := Lib.hid hrx.2.1
  have HTA := Lib.hid hA
  have E11 := Lib.hid e11
  have hbn : x.1.b.n ≤ 1048576 := hrx.2.2.2
  clear hx hrx htr hvt e11 hA
  have ta := HTA.out
  have c0 : wr.cell? ⟨w1.heap.size, 0, none⟩ = some (.slice (some ⟨b, off, none⟩) t.n t.c) := by rw [← ta]; exact KS2.out.cell 0
  clear ta cs
  generalize wr = wo at *
  go_wp2_with fail
  go_loopg [7] x.1.b.n (fun gg i w5 => ∃ q : Nat, q ≤ x.1.b.n ∧ x.1.b.n - q ≤ gg ∧ i = .int .i64 q ∧ Hid (Below wo.heap.size wo w5))
  case atStart => exact ⟨0, Nat.zero_le _, by omega, rfl, Below.refl _ _⟩
  case round =>
   obtain ⟨q, hq, hgg2, rfl, HC⟩ := hrel
   have hzr := HC.out.size
   have C0 := Lib.hid (((bcell HC.out).1 _ _ (by have := KS2.out.lt; omega)).trans c0)
   have C1 := Lib.hid ((KS2.out.next HC.out).cell 1)
   have E5 := Lib.hid (((bcell HC.out).1 _ _ hbb).trans E11.out)
   by_cases hlt2 : q < x.1.b.n
   rotate_left
   ·have c0' := C0.out
    have e5 := E5.out
    clear c0
    go_wp2_with fail
    go_roundg (t.n - (p + 1))
    case measure => omega
    case rel => exact ⟨p + 1, by omega, by omega, by go_num, below_next HH.out HC.out⟩
   obtain ⟨b2, off2, e, hA2, hb2, he, f0, f1⟩ := (HRB.out.below HC.out).at_ hlt2
   have heo := okE_bd (validE_ok HVB.out he)
   obtain ⟨pl, hpl⟩ := Int.eq_ofNat_of_zero_le heo.1
   have hp9 : pl < k.n := by omega
   obtain ⟨b3, off3, z, hA3, hb3, hz, hc3⟩ := (HK.out.below (below_next HH.out HC.out)).at_ hp9
   have hky : keyed S.keys e = decide (z ≠ 0) := by unfold keyed; rw [hpl, Int.toNat_natCast, hz]; rfl
   have hz0 : ¬ z = 0 := by
    have := List.all_eq_true.1 HAL.out e (List.mem_of_getElem? he)
    rw [hky] at this
    simpa using this
   have hz0' : (z == 0) = false := by simpa using hz0
   have c0' := C0.out
   have c1 : wr.cell? ⟨w1.heap.size, 1, none⟩ = some (.slice (some ⟨b3, off3, none⟩) k.n k.c) := by rw [← hA3]; exact C1.out
   have e5 : wr.cell? ⟨b, off + p * 12 + 11, none⟩ = some (.slice (some ⟨b2, off2, none⟩) x.1.b.n x.1.b.c) := by rw [← hA2]; exact E5.out
   rw [hpl] at f0
   have c0r := fun d os => cell_regrown c0' d os
   have c1r := fun d os => cell_regrown c1 d os
   have e5r := fun d os => cell_regrown e5 d os
   have f0r := fun d os => cell_regrown f0 d os
   have h3r := fun d os => cell_regrown hc3 d os
   have hp9' : (pl : Int) < k.n := by omega
   clear he hz hky hA2 hA3 hpl heo f1 c0
   go_upto_region 14 with (fail)
   go_cut [59] (fun s59 wx => s59 = .bool false ∧ Hid (Below wr.heap.size wr wx))
   case first =>
    clear c0' c1 e5 f0 hc3
    refine wp_region_qb (by kernel_rfl) (by kernel_rfl) ?_
    repeat (go_big_quiet_step (fail))
    refine wpQuiet_nil ?_
    intro w6 hb6
    go_wp2_with fail
    go_meet
    exact ⟨rfl, hb6⟩
   case rest =>
    obtain ⟨rfl, HBD⟩ := hcut
    clear c0' c1 e5 f0 hc3 c0r c1r e5r f0r h3r
    go_wp2
    go_roundg (x.1.b.n - (q + 1))
    case measure => omega
    case rel => exact ⟨q + 1, by omega, by omega, by go_num, below_next HC.out HBD.out⟩
set_option maxRecDepth 100000 in
theorem lifted (os : Os) (started : os.Started) (H : Type) (enc : TypeId × Value → H) :
  ReturnsInHanded {} Tryz.checked os 5 .any (Rows.fnServiceValidSpec.pre6 enc Tryz.prog Tryz.f5 Rows.fnServiceValidRow.domain false) (Rows.fnServiceValidSpec.post enc Tryz.prog Tryz.f5 false true false false) := by
 refine returnsInHanded_of_change (C := Tryz.checked) own_ started (by kernel_rfl) Tryz.func5
  (ChangeSpec.witness6 (enc := enc) (C := Tryz.checked) false ⟨#[], #[.slice none 0 0], []⟩ 8 (by kernel_rfl) (by kernel_rfl) (by kernel_rfl) (by kernel_rfl)) ?_
 intro W base args ds gs before hval0 hW hcnd _
 have hval : ∀ (j : Nat) t v, Tryz.f5.params[j]? = some t → args[j]? = some v → Value.okWide Tryz.prog W .any base t v := hval0
 have hW' := hW
 obtain ⟨p, q, hA0, hV, rfl, hfz, hnd⟩ := hW
 have hA : DataW.TrodAll enc Tryz.prog W 0 (fun _ => true) true Tryz.f5.params.toList args.toList ds p := hA0
 rw [Tryz.params5] at hA hval
 obtain ⟨v0, vs0, d0, ds0, p0, q0, hargs, rfl, rfl, h0, r0⟩ := trodAll_cons hA
 obtain ⟨rfl, rfl, rfl⟩ := trodAll_nil r0
 obtain rfl : args = #[v0] := by cases args; simp_all
 obtain ⟨rfl, rfl⟩ := trodVars_none hV
 obtain ⟨a0, len0, cap0, rfl⟩ := okWide_slice Tryz.underlying53 (hval 0 53 v0 rfl rfl)
 have k0 := h0
 have lt0 : ∀ x ∈ p0, x.block < W.heap.size := by obtain ⟨m, hm⟩ := k0; exact DataW.trod_lt m _ _ _ hm
 obtain ⟨z0, w0⟩ : ∃ zs, BytesIn W a0 len0 cap0 zs := by
  obtain ⟨fuel, hf⟩ := h0
  exact open_BytesIn Tryz.underlying53 Tryz.underlying5 (by kernel_rfl) (by simpa [Value.cells] using hf)
 clear hA0 hval0
 refine (walk a0 len0 cap0 z0 W w0).mono fun e W' ⟨he, bel⟩ => ?_
 subst he
 exact ⟨_, rfl, _, _, _, [], _, [], hW', trodAll_mk1 (shut_bool Tryz.underlying4 _), (trodAll_cons_mk (Below.trod laidOut_ (by kernel_rfl) (of_decide_eq_true (by kernel_rfl)) k0 bel lt0) trodAll_mk0), rfl, bel.frame _, fun h => by cases h⟩
theorem closed_ : joinedFacts Tryz.prog 5 Tryz.f5 Rows.fnServiceValidSpec Rows.fnServiceValidRow = true :=
 joined_by mayEnter_ liftsFinal_ make_ (by kernel_rfl) laidOut_ mapsRowed_ (by kernel_rfl) (by kernel_rfl) rfl stops_ rfl stopKnobs_ (by kernel_rfl) (by kernel_rfl) (by kernel_rfl) (by kernel_rfl) (by kernel_rfl) (by kernel_rfl) (by kernel_rfl) (by kernel_rfl) (by kernel_rfl) (by kernel_rfl) rfl stopsHeard_ rfl rfl rfl (by kernel_rfl)
theorem over : Rows.fnServiceValidRow.holds Tryz.pinned (OpenSpec.ofChange Rows.fnServiceValidSpec) :=
 OpenClaim.holds_of_wide 5 Tryz.f5 rfl rfl rfl rfl rfl rfl rfl ⟨rfl, rfl, rfl, rfl, rfl⟩ rfl rfl rfl rfl rfl (by kernel_rfl) Tryz.func5 closed_
  (of_decide_eq_true (by kernel_rfl)) (by unfold Func.isWrapper; first | (rw [if_pos (by decide +kernel)]; kernel_rfl) | (rw [if_neg (by decide +kernel)]; exact ⟨rfl, rfl⟩))
  (fun os started H enc _ => lifted os started H enc)
theorem proved : Rows.FnServiceValidSaid := over
end Go.Proofs.YtepddbfafdfadaaGreat.fnServiceValid


/-
  FnTop returns true for every code, and nothing that was there is written. No condition.
-/
import Derived.Test.YtemnlheidghbmaaGreatKc2
import Derived.Test.YtemnlheidghbmaaGreatKc3
import Derived.Test.YtemnlheidghbmaaGreatKc8
import Derived.Test.YtemnlheidghbmaaGreatKc22
import Derived.Test.YtemnlheidghbmaaGreatKc37
import Derived.Test.YtemnlheidghbmaaGreatKc40
namespace Go.Proofs.YtemnlheidghbmaaGreat.fnTop
open Go.RowKit Go.ChangeShapes Go.WideShapes Go.ChangeAt
set_option linter.unusedVariables false
theorem trackOf_any (t k g : Sl) (S : Svc) (id : Int) (w : World) (hr : RdS w t k g S) :
  Calls Tryz.prog 16 #[svV t k g, .int .i64 id] w fun e w' => e = .returned (.int .i64 (findI S.ts id)) ∧ Below w.heap.size w w' := by
 obtain ⟨⟨xs, hxs, hr1⟩, _, _, ⟨_, hn1⟩, _, _⟩ := hr
 obtain ⟨A, n, c⟩ := t
 simp only at hr1 hn1
 have HR := Lib.hid hr1
 have HXS := Lib.hid hxs
 have HL := Lib.hid hr1.1.len
 clear hr1 hxs
 have HB0 := Lib.hid ((Below.refl w.heap.size w).alloc (Nat.le_refl _) (.cells #[.slice A n c, .slice k.a k.n k.c, .slice g.a g.n g.c] 26))
 go_enter Tryz.func16, Tryz.ntmps16
 go_wp2
 go_loop [5] (fun i => ∃ p : Nat, p ≤ n ∧ i = .int .i64 p ∧ Hid (∀ j x, j < p → xs[j]? = some x → x.2.l.id ≠ id)) (fun i => n - (intOf i).toNat)
 case atStart => exact ⟨0, Nat.zero_le _, rfl, fun j x hj => absurd hj (Nat.not_lt_zero _)⟩
 case round =>
  obtain ⟨p, hp, rfl, HF⟩ := hrel
  by_cases hlt : p < n
  ·obtain ⟨b, off, x, hA, hb, hx, hrx, e0, _⟩ := RdTs.cells HR.out hlt
   subst hA
   have HX := Lib.hid hx
   clear hx hrx
   have hbn : ¬ b = w.heap.size := by omega
   by_cases hid : x.2.l.id = id
   ·have HI := Lib.hid hid
    have hie : (x.2.l.id == id) = true := by simpa using hid
    clear hid
    go_wp2
    go_ret
    have hf : findI S.ts id = p := by
     refine findI_some (t := x.2) (by rw [← HXS.out, List.getElem?_map, HX.out]; rfl) HI.out (fun j u hj hu => ?_)
     rw [← HXS.out, List.getElem?_map] at hu
     obtain ⟨y, hy, rfl⟩ := Option.map_eq_some_iff.1 hu
     exact HF.out j y hj hy
    exact ⟨by rw [hf]; rfl, HB0.out⟩
   ·have HI := Lib.hid hid
    have hie : (x.2.l.id == id) = false := by simpa using hid
    clear hid
    go_wp2
    go_round
    case rel => exact ⟨p + 1, by omega, by go_num, fun j y hj hy => by
     rcases Nat.lt_succ_iff_lt_or_eq.1 hj with hj | rfl
     ·exact HF.out j y hj hy
     ·rw [HX.out] at hy; injection hy with hy; subst hy; exact HI.out⟩
    case measure => simp [intOf]; omega
  ·go_wp2
   go_ret
   have hf : findI S.ts id = -1 := findI_none (fun t ht => by
    rw [← HXS.out] at ht
    obtain ⟨y, hy, rfl⟩ := List.mem_map.1 ht
    obtain ⟨j, hj, rfl⟩ := List.mem_iff_getElem.1 hy
    exact HF.out j _ (by have := HL.out; omega) (List.getElem?_eq_getElem hj))
   exact ⟨by rw [hf]; rfl, HB0.out⟩
theorem sameBoard_same (A A' : Option Addr) (n c c' : Nat) (es : List Ent) (w : World) (hr : RdE w A n es) (hr' : RdE w A' n es) (hn : n ≤ 1048576) :
  Calls Tryz.prog 11 #[.slice A n c, .slice A' n c'] w fun e w' => e = .returned (.bool true) ∧ Below w.heap.size w w' :=
 (sameBoard_any A A' n n c c' es es w hr hr' (by omega) (by omega)).mono fun e w' h => by simpa using h
theorem topS_len' {w : World} {t k g : Sl} {S : Svc} (h : RdS w t k g S) (id : Int) : (topS S id).1.length ≤ 1048576 := by
 unfold topS
 split
 ·split
  ·simp
  ·rename_i i _
   cases ht : S.ts[i]? with
   | none => simp
   | some t =>
    obtain ⟨⟨xs, hxs, hr⟩, _⟩ := h
    obtain ⟨x, hx, rfl⟩ := row_of hxs ht
    have := hr.2 x (List.mem_of_getElem? hx)
    simp only [Option.map_some, Option.getD_some]
    rw [this.2.1.len]
    exact this.2.2.2
 ·simp
theorem top_true {S : Svc} {p : Int} {es : List Ent} (h : topS S p = (es, true)) : validS S = true ∧ ∃ i t, S.ts.findIdx? (hasId p) = some i ∧ S.ts[i]? = some t ∧ t.b = es := by
 cases hv : validS S
 ·rw [topS_bad hv] at h; cases h
 ·refine ⟨rfl, ?_⟩
  cases hf : S.ts.findIdx? (hasId p) with
  | none => rw [topS_no hv hf] at h; cases h
  | some i =>
   obtain ⟨t, ht, _⟩ := findIdx_some hf
   rw [topS_at hv hf ht] at h
   injection h with h _
   exact ⟨i, t, rfl, ht, h⟩
theorem top_false {S : Svc} {p : Int} {es : List Ent} (h : topS S p = (es, false)) (hv : validS S = true) : S.ts.findIdx? (hasId p) = none := by
 cases hf : S.ts.findIdx? (hasId p) with
 | none => rfl
 | some i =>
  obtain ⟨t, ht, _⟩ := findIdx_some hf
  rw [topS_at hv hf ht] at h
  cases h
set_option maxRecDepth 100000 in
set_option maxHeartbeats 8000000 in
theorem walk (a0 : Option Addr) (len0 cap0 : Nat) (z0 : List Int) (w : World) (w0 : BytesIn w a0 len0 cap0 z0) :
  Calls Tryz.prog 5 #[.slice a0 len0 cap0] w fun e w' => e = .returned (.bool true) ∧ Below w.heap.size w w' := by
 have hz := w0.bd
 obtain ⟨hr, hlc, hcm, _⟩ := w0
 by_cases hsz : (1048576 : Int) < len0
 ·clear hr hlc hcm hz
  go_enter Tryz.func5, Tryz.ntmps5
  go_wp2
  go_ret
  exact ⟨rfl, Below.refl _ _⟩
 have H1 := Lib.hid (drawServiceTop_any a0 len0 cap0 z0 w ⟨hr, hz, hlc, hcm⟩)
 clear hr hlc hcm hz
 go_enter Tryz.func5, Tryz.ntmps5
 go_wp2_with fail
 refine H1.out.mono ?_
 rintro e w1 ⟨t, k, g, S, p, rfl, hrd, hp0, hp1, hb1⟩
 go_upto_region 4 with (fail)
 refine into_world (fun Y => Below w.heap.size w Y ∧ Blk Y w1.heap.size 26 (svC t k g) ∧ RdS Y t k g S) ⟨hb1.alloc hb1.size _, Blk.new _ _ _, hrd.below (ba (Below.refl _ _))⟩ ?_
 clear hrd hb1
 rintro Y ⟨hB, hKS, hrd⟩
 have HB := Lib.hid hB
 have KS := Lib.hid hKS
 have HR := Lib.hid hrd
 clear hB hKS hrd
 have cs := fun o => KS.out.cell o
 have fs := fun o => KS.out.frozen o
 have zs := KS.out.lt
 obtain ⟨es, ok, htp⟩ : ∃ a b, topS S p = (a, b) := ⟨_, _, rfl⟩
 have hel : es.length ≤ 1048576 := by have := topS_len' HR.out p; rw [htp] at this; exact this
 have HTP := Lib.hid htp
 clear htp
 go_wp2_with fail
 refine (implServiceTop_any t k g S p _ HR.out (by omega) (by omega)).mono ?_
 rw [HTP.out]
 rintro e w2 ⟨A2, c2, rfl, ho2, hb⟩
 replace KS := Lib.hid (KS.out.next hb)
 replace HR := Lib.hid (HR.out.below hb)
 replace HB := Lib.hid (below_next HB.out hb)
 have HA := Lib.hid ho2.rdE
 have hc2 : es.length ≤ c2 := ho2.le
 clear hb cs fs zs ho2
 have cs := fun o => KS.out.cell o
 have fs := fun o => KS.out.frozen o
 have zs := KS.out.lt
 go_wp2_with fail
 refine (specServiceTop_any t k g S p _ HR.out).mono ?_
 rw [HTP.out]
 rintro e w3 ⟨A3, c3, rfl, ho3, hb⟩
 replace KS := Lib.hid (KS.out.next hb)
 replace HR := Lib.hid (HR.out.below hb)
 replace HB := Lib.hid (below_next HB.out hb)
 replace HA := Lib.hid (HA.out.below hb)
 have HC := Lib.hid ho3.rdE
 clear hb cs fs zs ho3
 cases ok
 ·go_wp2_with fail
  refine (sameBoard_same _ _ es.length _ _ es _ HA.out HC.out hel).mono ?_
  rintro e w4 ⟨rfl, hb⟩
  replace KS := Lib.hid (KS.out.next hb)
  replace HR := Lib.hid (HR.out.below hb)
  replace HB := Lib.hid (below_next HB.out hb)
  replace HA := Lib.hid (HA.out.below hb)
  replace HC := Lib.hid (HC.out.below hb)
  clear hb
  have cs := fun o => KS.out.cell o
  have fs := fun o => KS.out.frozen o
  have zs := KS.out.lt
  go_wp2_with fail
  refine (specServiceValid_any t k g S _ HR.out).mono ?_
  rintro e w5 ⟨rfl, hb⟩
  replace KS := Lib.hid (KS.out.next hb)
  replace HR := Lib.hid (HR.out.below hb)
  replace HB := Lib.hid (below_next HB.out hb)
  replace HA := Lib.hid (HA.out.below hb)
  replace HC := Lib.hid (HC.out.below hb)
  clear hb cs fs zs
  cases hv : validS S
  ·clear hv
   go_wp2_with fail
   refine (sameBoard_same _ _ es.length _ _ es _ HA.out HC.out hel).mono ?_
   rintro e w7 ⟨rfl, hb⟩
   have hbb := below_next HB.out hb
   clear hb
   go_wp2_with fail
   go_ret
   exact ⟨rfl, hbb⟩
  have HV := Lib.hid hv
  clear hv
  have cs := fun o => KS.out.cell o
  have fs := fun o => KS.out.frozen o
  have zs := KS.out.lt
  go_wp2_with fail
  refine (trackOf_any t k g S p _ HR.out).mono ?_
  rw [findI_not (top_false HTP.out HV.out)]
  rintro e w6 ⟨rfl, hb⟩
  have hbb := below_next HB.out hb
  clear hb cs fs zs
  go_wp2_with fail
  go_ret
  exact ⟨rfl, hbb⟩
 obtain ⟨hv, i, tr, hfi, hti, hbe⟩ := top_true HTP.out
 have HV := Lib.hid hv
 have HVE := Lib.hid (show validE es = true by rw [← hbe]; exact (valid_trk hv hti).2.1)
 have HFI := Lib.hid hfi
 clear hv hfi
 go_wp2_with fail
 refine (sameBoard_same _ _ es.length _ _ es _ HA.out HC.out hel).mono ?_
 rintro e w4 ⟨rfl, hb⟩
 replace KS := Lib.hid (KS.out.next hb)
 replace HR := Lib.hid (HR.out.below hb)
 replace HB := Lib.hid (below_next HB.out hb)
 replace HA := Lib.hid (HA.out.below hb)
 replace HC := Lib.hid (HC.out.below hb)
 clear hb
 have cs := fun o => KS.out.cell o
 have fs := fun o => KS.out.frozen o
 have zs := KS.out.lt
 go_wp2_with fail
 refine (specServiceValid_any t k g S _ HR.out).mono ?_
 rw [HV.out]
 rintro e w5 ⟨rfl, hb⟩
 replace KS := Lib.hid (KS.out.next hb)
 replace HR := Lib.hid (HR.out.below hb)
 replace HB := Lib.hid (below_next HB.out hb)
 replace HA := Lib.hid (HA.out.below hb)
 replace HC := Lib.hid (HC.out.below hb)
 clear hb cs fs zs
 have cs := fun o => KS.out.cell o
 have fs := fun o => KS.out.frozen o
 have zs := KS.out.lt
 go_wp2_with fail
 refine (trackOf_any t k g S p _ HR.out).mono ?_
 rw [findI_at HFI.out]
 rintro e w6 ⟨rfl, hb⟩
 replace KS := Lib.hid (KS.out.next hb)
 replace HR := Lib.hid (HR.out.below hb)
 replace HB := Lib.hid (below_next HB.out hb)
 replace HA := Lib.hid (HA.out.below hb)
 replace HC := Lib.hid (HC.out.below hb)
 clear hb cs fs zs
 have hr := HR.out
 obtain ⟨⟨xs, hxs, hts⟩, _, _, ⟨_, hn1⟩, _⟩ := hr
 obtain ⟨x, hx, hx2⟩ := row_of hxs hti
 have hin : i < t.n := by have h1 := hts.1.len; have h2 := (List.getElem?_eq_some_iff.1 hx).1; omega
 obtain ⟨b, off, y, hA, hbb, hy, hry, _, _, _, _, _, _, _, _, _, _, _, e11⟩ := RdTs.cells hts hin
 rw [hx] at hy
 injection hy with hy
 subst hy
 have HRX := Lib.hid (show RdE w6 x.1.b.a es.length es by
  have h := hry.2.1
  rw [hx2, hbe] at h
  have hl := h.len
  rw [← hl] at h
  exact h)
 have hxn : x.1.b.n = es.length := by
  have h := hry.2.1
  rw [hx2, hbe] at h
  exact h.len.symm
 rw [hxn] at e11
 have c0 : w6.cell? ⟨w1.heap.size, 0, none⟩ = some (.slice (some ⟨b, off, none⟩) t.n t.c) := by rw [← hA]; exact KS.out.cell 0
 have z0 := KS.out.lt
 clear hx2 hbe hti hxs hts hx hry hxn hA
 go_wp2_with fail
 refine (sameBoard_same _ _ es.length _ _ es _ HA.out HRX.out hel).mono ?_
 rintro e w7 ⟨rfl, hb⟩
 replace KS := Lib.hid (KS.out.next hb)
 replace HR := Lib.hid (HR.out.below hb)
 replace HB := Lib.hid (below_next HB.out hb)
 replace HA := Lib.hid (HA.out.below hb)
 replace HC := Lib.hid (HC.out.below hb)
 clear hb
 go_wp2_with fail
 refine (implBoardValid_v _ es.length _ es _ HA.out (by omega) hc2).mono ?_
 rw [HVE.out]
 rintro e w8 ⟨rfl, hb⟩
 have hbb' := below_next HB.out hb
 clear hb
 go_wp2_with fail
 go_ret
 exact ⟨rfl, hbb'⟩
set_option maxRecDepth 100000 in
theorem lifted (os : Os) (started : os.Started) (H : Type) (enc : TypeId × Value → H) :
  ReturnsInHanded {} Tryz.checked os 5 .any (Rows.fnTopSpec.pre6 enc Tryz.prog Tryz.f5 Rows.fnTopRow.domain false) (Rows.fnTopSpec.post enc Tryz.prog Tryz.f5 false true false false) := by
 refine returnsInHanded_of_change (C := Tryz.checked) own_ started (by kernel_rfl) Tryz.func5
  (ChangeSpec.witness6 (enc := enc) (C := Tryz.checked) false ⟨#[], #[.slice none 0 0], []⟩ 8 (by kernel_rfl) (by kernel_rfl) (by kernel_rfl) (by kernel_rfl)) ?_
 intro W base args ds gs before hval0 hW hcnd _
 have hval : ∀ (j : Nat) t v, Tryz.f5.params[j]? = some t → args[j]? = some v → Value.okWide Tryz.prog W .any base t v := hval0
 have hW' := hW
 obtain ⟨p, q, hA0, hV, rfl, hfz, hnd⟩ := hW
 have hA : DataW.TrodAll enc Tryz.prog W 0 (fun _ => true) true Tryz.f5.params.toList args.toList ds p := hA0
 rw [Tryz.params5] at hA hval
 obtain ⟨v0, vs0, d0, ds0, p0, q0, hargs, rfl, rfl, h0, r0⟩ := trodAll_cons hA
 obtain ⟨rfl, rfl, rfl⟩ := trodAll_nil r0
 obtain rfl : args = #[v0] := by cases args; simp_all
 obtain ⟨rfl, rfl⟩ := trodVars_none hV
 obtain ⟨a0, len0, cap0, rfl⟩ := okWide_slice Tryz.underlying22 (hval 0 22 v0 rfl rfl)
 have k0 := h0
 have lt0 : ∀ x ∈ p0, x.block < W.heap.size := by obtain ⟨m, hm⟩ := k0; exact DataW.trod_lt m _ _ _ hm
 obtain ⟨z0, w0⟩ : ∃ zs, BytesIn W a0 len0 cap0 zs := by
  obtain ⟨fuel, hf⟩ := h0
  exact open_BytesIn Tryz.underlying22 Tryz.underlying5 (by kernel_rfl) (by simpa [Value.cells] using hf)
 clear hA0 hval0
 refine (walk a0 len0 cap0 z0 W w0).mono fun e W' ⟨he, bel⟩ => ?_
 subst he
 exact ⟨_, rfl, _, _, _, [], _, [], hW', trodAll_mk1 (shut_bool Tryz.underlying4 _), (trodAll_cons_mk (Below.trod laidOut_ (by kernel_rfl) (of_decide_eq_true (by kernel_rfl)) k0 bel lt0) trodAll_mk0), rfl, bel.frame _, fun h => by cases h⟩
theorem closed_ : joinedFacts Tryz.prog 5 Tryz.f5 Rows.fnTopSpec Rows.fnTopRow = true :=
 joined_by mayEnter_ liftsFinal_ make_ (by kernel_rfl) laidOut_ mapsRowed_ (by kernel_rfl) (by kernel_rfl) rfl stops_ rfl stopKnobs_ (by kernel_rfl) (by kernel_rfl) (by kernel_rfl) (by kernel_rfl) (by kernel_rfl) (by kernel_rfl) (by kernel_rfl) (by kernel_rfl) (by kernel_rfl) (by kernel_rfl) rfl stopsHeard_ rfl rfl rfl (by kernel_rfl)
theorem over : Rows.fnTopRow.holds Tryz.pinned (OpenSpec.ofChange Rows.fnTopSpec) :=
 OpenClaim.holds_of_wide 5 Tryz.f5 rfl rfl rfl rfl rfl rfl rfl ⟨rfl, rfl, rfl, rfl, rfl⟩ rfl rfl rfl rfl rfl (by kernel_rfl) Tryz.func5 closed_
  (of_decide_eq_true (by kernel_rfl)) (by unfold Func.isWrapper; first | (rw [if_pos (by decide +kernel)]; kernel_rfl) | (rw [if_neg (by decide +kernel)]; exact ⟨rfl, rfl⟩))
  (fun os started H enc _ => lifted os started H enc)
theorem proved : Rows.FnTopSaid := over
end Go.Proofs.YtemnlheidghbmaaGreat.fnTop


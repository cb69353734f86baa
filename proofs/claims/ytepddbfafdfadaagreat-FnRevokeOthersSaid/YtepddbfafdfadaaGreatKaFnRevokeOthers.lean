/-
  FnRevokeOthers returns true for every code, and nothing that was there is written. No condition.
-/
import Derived.Test.YtepddbfafdfadaaGreatKa3
import Derived.Test.YtepddbfafdfadaaGreatKa39
namespace Go.Proofs.YtepddbfafdfadaaGreat.fnRevokeOthers
open Go.RowKit Go.ChangeShapes Go.WideShapes Go.ChangeAt
set_option linter.unusedVariables false
set_option maxRecDepth 100000 in
set_option maxHeartbeats 8000000 in
theorem walk (a0 : Option Addr) (len0 cap0 : Nat) (z0 : List Int) (w : World) (w0 : BytesIn w a0 len0 cap0 z0) :
  Calls Tryz.prog 9 #[.slice a0 len0 cap0] w fun e w' => e = .returned (.bool true) ∧ Below w.heap.size w w' := by
 have hz := w0.bd
 obtain ⟨hr, hlc, hcm, _⟩ := w0
 by_cases hsz : (1048576 : Int) < len0
 ·clear hr hlc hcm hz
  go_enter Tryz.func9, Tryz.ntmps9
  go_wp2
  go_ret
  exact ⟨rfl, Below.refl _ _⟩
 have H1 := Lib.hid (drawServiceRevoke_any a0 len0 cap0 z0 w ⟨hr, hz, hlc, hcm⟩)
 clear hr hlc hcm hz
 go_enter Tryz.func9, Tryz.ntmps9
 go_wp2_with fail
 refine H1.out.mono ?_
 rintro e w1 ⟨t, k, g, S, p, rfl, hrd, hb1⟩
 go_upto_region 4 with (fail)
 refine into_world (fun Y => Below w.heap.size w Y ∧ Blk Y w1.heap.size 37 (svC t k g) ∧ RdS Y t k g S) ⟨hb1.alloc hb1.size _, Blk.new _ _ _, hrd.below (ba (Below.refl _ _))⟩ ?_
 clear hrd hb1
 rintro Y ⟨hB, hKS, hrd⟩
 have HB := Lib.hid hB
 have KS := Lib.hid hKS
 have HR := Lib.hid hrd
 clear hB hKS hrd
 have cs := fun o => KS.out.cell o
 have fs := fun o => KS.out.frozen o
 have zs := KS.out.lt
 go_wp2_with fail
 refine (implServiceRevoke_any t k g S p _ HR.out).mono ?_
 obtain ⟨S2, n2, hrv⟩ : ∃ a b, revS S p = (a, b) := ⟨_, _, rfl⟩
 have HRV := Lib.hid hrv
 rw [hrv]
 clear hrv
 rintro e w2 ⟨t2, k2, g2, rfl, ho2, hb⟩
 replace KS := Lib.hid (KS.out.next hb)
 replace HR := Lib.hid (HR.out.below hb)
 replace HB := Lib.hid (below_next HB.out hb)
 clear hb cs fs zs
 go_upto_region 5 with (fail)
 have hW : Below w2.heap.size w2 (w2.alloc (.cells (svC t2 k2 g2) 37)) := ba (Below.refl _ _)
 have KS2 := Lib.hid (Blk.new w2 37 (svC t2 k2 g2))
 have HR2 := Lib.hid (ho2.rd.below hW)
 replace KS := Lib.hid (KS.out.next hW)
 replace HR := Lib.hid (HR.out.below hW)
 replace HB := Lib.hid (below_next HB.out hW)
 clear hW ho2
 have cs := fun o => KS.out.cell o
 have fs := fun o => KS.out.frozen o
 have zs := KS.out.lt
 go_wp2_with fail
 refine (specServiceRevoke_any t k g S p _ HR.out).mono ?_
 rw [HRV.out]
 rintro e w3 ⟨t3, k3, g3, rfl, ho3, hb⟩
 replace KS := Lib.hid (KS.out.next hb)
 replace HR := Lib.hid (HR.out.below hb)
 replace HB := Lib.hid (below_next HB.out hb)
 replace KS2 := Lib.hid (KS2.out.next hb)
 replace HR2 := Lib.hid (HR2.out.below hb)
 clear hb cs fs zs
 go_upto_region 6 with (fail)
 have hW : Below w3.heap.size w3 (w3.alloc (.cells (svC t3 k3 g3) 37)) := ba (Below.refl _ _)
 have KS3 := Lib.hid (Blk.new w3 37 (svC t3 k3 g3))
 have HR3 := Lib.hid (ho3.rd.below hW)
 replace KS := Lib.hid (KS.out.next hW)
 replace HR := Lib.hid (HR.out.below hW)
 replace HB := Lib.hid (below_next HB.out hW)
 replace KS2 := Lib.hid (KS2.out.next hW)
 replace HR2 := Lib.hid (HR2.out.below hW)
 clear hW ho3
 have ca := fun o => KS2.out.cell o
 have fa := fun o => KS2.out.frozen o
 have za := KS2.out.lt
 have cb := fun o => KS3.out.cell o
 have fb := fun o => KS3.out.frozen o
 have zb := KS3.out.lt
 go_wp2_with fail
 refine (sameService_same _ _ _ _ _ _ S2 _ HR2.out HR3.out).mono ?_
 rintro e w4 ⟨rfl, hb⟩
 replace KS := Lib.hid (KS.out.next hb)
 replace HR := Lib.hid (HR.out.below hb)
 replace HB := Lib.hid (below_next HB.out hb)
 replace KS2 := Lib.hid (KS2.out.next hb)
 replace HR2 := Lib.hid (HR2.out.below hb)
 replace KS3 := Lib.hid (KS3.out.next hb)
 replace HR3 := Lib.hid (HR3.out.below hb)
 clear hb ca fa za cb fb zb
 by_cases hn : n2 < 0
 ·have hn' : decide (n2 < 0) = true := by simpa using hn
  clear hn
  have ca := fun o => KS2.out.cell o
  have fa := fun o => KS2.out.frozen o
  have za := KS2.out.lt
  have cb := fun o => KS3.out.cell o
  have fb := fun o => KS3.out.frozen o
  have zb := KS3.out.lt
  go_wp2_with fail
  refine (sameService_same _ _ _ _ _ _ S2 _ HR2.out HR3.out).mono ?_
  rintro e w5 ⟨rfl, hb⟩
  have hbb := below_next HB.out hb
  clear hb ca fa za cb fb zb
  go_wp2_with fail
  go_ret
  exact ⟨rfl, hbb⟩
 have hn' : decide (n2 < 0) = false := by simpa using hn
 have hvp : (validS S && inR p 0 9) = true := by
  have hr := HRV.out
  cases hv : (validS S && inR p 0 9)
  ·rw [revS_bad hv] at hr
   injection hr with _ hr
   omega
  ·rfl
 simp only [Bool.and_eq_true] at hvp
 have HVS := Lib.hid hvp.1
 have HPP := Lib.hid hvp.2
 have HS2 := Lib.hid (show S2 = ⟨S.ts.map (revT p), S.keys.set p.toNat 0, S.tags⟩ by have := HRV.out; rw [revS_done hvp.1 hvp.2] at this; injection this with this; exact this.symm)
 clear hvp
 obtain ⟨⟨xs, hxs, hts⟩, _, _, ⟨_, hn1⟩, _⟩ := HR.out
 have hr2 := HR2.out
 obtain ⟨⟨ys, hys, hus⟩, hk2, _, ⟨_, hn2⟩, ⟨_, hnk⟩, _⟩ := hr2
 have HX := Lib.hid hxs
 have HT := Lib.hid hts
 have HY := Lib.hid hys
 have HU := Lib.hid hus
 have HK2 := Lib.hid hk2
 have hlen : t2.n = t.n := by
  have h1 := hts.1.len
  have h2 := hus.1.len
  have h3 : ys.length = xs.length := by
   have : (ys.map (·.2)).length = (xs.map (·.2)).length := by rw [hys, hxs, HS2.out]; simp
   simpa using this
  omega
 have HLN := Lib.hid hlen
 have htn : t.n ≤ 4 := by
  have h1 := hts.1.len
  have h2 : (xs.map (·.2)).length ≤ 4 := by rw [hxs]; exact (validS_of HVS.out).2.1
  simp at h2
  omega
 have HG1 := Lib.hid (show RdI .i64 w4 g.a g.n S.tags from HR.out.2.2.1)
 have HG2 := Lib.hid (show RdI .i64 w4 g2.a g2.n S.tags by have h := HR2.out.2.2.1; rw [HS2.out] at h; exact h)
 have hgn : g2.n ≤ 1048576 := HR2.out.2.2.2.2.2.2
 have hgg0 : g2.n = g.n := by have h1 := HG1.out.1; have h2 := HG2.out.1; omega
 have HGG := Lib.hid hgg0
 clear hxs hts hys hus hk2 hlen hgg0
 have HKS := Lib.hid KS.out
 have HKS2 := Lib.hid KS2.out
 have HB4 := Lib.hid HB.out
 clear HB HR HR2 HR3 KS3 KS KS2
 go_wp2_with fail
 go_loopg [9] t.n (fun gg i wr => ∃ (j : Nat), j ≤ t.n ∧ t.n - j ≤ gg ∧ i = .int .i64 j ∧ Hid (Below w4.heap.size w4 wr))
 case atStart => exact ⟨0, Nat.zero_le _, by omega, rfl, Below.refl _ _⟩
 case round =>
  obtain ⟨j, hj, hgg, rfl, HH⟩ := hrel
  have KS := Lib.hid (HKS.out.next HH.out)
  have KS2 := Lib.hid (HKS2.out.next HH.out)
  have cs := fun o => KS.out.cell o
  have fs := fun o => KS.out.frozen o
  have zs := KS.out.lt
  have ca := fun o => KS2.out.cell o
  have fa := fun o => KS2.out.frozen o
  have za := KS2.out.lt
  by_cases hlt : j < t.n
  rotate_left
  ·obtain ⟨gn2, hgn2⟩ : ∃ n, g2.n = n := ⟨_, rfl⟩
   obtain ⟨tn2, htn2⟩ : ∃ n, t2.n = n := ⟨_, rfl⟩
   have hl := HLN.out
   have hl2 := HGG.out
   have d0 : wr.cell? ⟨w2.heap.size, 0, none⟩ = some (.slice t2.a t.n t2.c) := by rw [← hl]; exact KS2.out.cell 0
   have d2 : wr.cell? ⟨w2.heap.size, 2, none⟩ = some (.slice g2.a g.n g2.c) := by rw [← hl2]; exact KS2.out.cell 2
   have HG2' := Lib.hid (show RdI .i64 wr g2.a g.n S.tags by rw [← hl2]; exact HG2.out.below HH.out)
   have hgn' : g.n ≤ 1048576 := by omega
   have HB5 := Lib.hid (below_next HB4.out HH.out)
   clear ca hl hl2 hgn2 htn2
   go_upto_region 16 with (fail)
   clear hn' hgg hj hlt
   go_wp2_with fail
   refine (sameInts_same _ _ g.n _ _ S.tags _ HG2'.out (HG1.out.below HH.out) hgn').mono ?_
   rintro e w5 ⟨rfl, hb⟩
   have hbb := below_next HB5.out hb
   clear hb
   go_wp2_with fail
   go_ret
   exact ⟨rfl, hbb⟩
  obtain ⟨b, off, x, hA, hbb, hx, hrx, _, _, _, _, _, _, _, _, _, _, _, e11⟩ := RdTs.cells (HT.out.below HH.out) hlt
  obtain ⟨b', off', y, hA', hbb', hy, hry, _, _, _, _, _, _, _, _, _, _, _, y11⟩ := RdTs.cells (HU.out.below HH.out) (show j < t2.n by have := HLN.out; omega)
  have hsx : S.ts[j]? = some x.2 := by rw [← HX.out, List.getElem?_map, hx]; rfl
  have hsy : S2.ts[j]? = some y.2 := by rw [← HY.out, List.getElem?_map, hy]; rfl
  have hyx : y.2 = revT p x.2 := by
   rw [HS2.out] at hsy
   simp only [List.getElem?_map, hsx] at hsy
   exact (Option.some.inj hsy).symm
  have HRX := Lib.hid hrx.2.1
  have HRY := Lib.hid hry.2.1
  have hnx : x.1.b.n ≤ 1048576 := hrx.2.2.2
  have hny : y.1.b.n ≤ 1048576 := hry.2.2.2
  have HSY := Lib.hid (show ∀ q : Int, q ≠ p → scoreE q y.2.b = scoreE q x.2.b from fun q hq => by rw [hyx]; exact score_without hq x.2.b)
  have C0 := Lib.hid (show wr.cell? ⟨w1.heap.size, 0, none⟩ = some (.slice (some ⟨b, off, none⟩) t.n t.c) by rw [← hA]; exact KS.out.cell 0)
  have D0 := Lib.hid (show wr.cell? ⟨w2.heap.size, 0, none⟩ = some (.slice (some ⟨b', off', none⟩) t2.n t2.c) by rw [← hA']; exact KS2.out.cell 0)
  have E11 := Lib.hid e11
  have Y11 := Lib.hid y11
  have hlt2 : j < t2.n := by have := HLN.out; omega
  clear hA hA' hx hy hrx hry hsx hsy hyx cs ca e11 y11 fs fa
  generalize wr = wo at *
  have c0 := C0.out
  go_wp2_with fail
  clear c0
  go_loopg [10] 10 (fun gg i w5 => ∃ q : Nat, q ≤ 10 ∧ 10 - q ≤ gg ∧ i = .int .i64 q ∧ Hid (Below wo.heap.size wo w5))
  case atStart => exact ⟨0, Nat.zero_le _, by omega, rfl, Below.refl _ _⟩
  case round =>
   obtain ⟨q, hq, hgg2, rfl, HC⟩ := hrel
   by_cases hq10 : q < 10
   rotate_left
   ·have hq10' : ¬ (q : Int) < 10 := by omega
    go_wp2_with fail
    go_roundg (t.n - (j + 1))
    case measure => omega
    case rel => exact ⟨j + 1, by omega, by omega, by go_num, below_next HH.out HC.out⟩
   have hq10' : (q : Int) < 10 := by omega
   go_upto_region 14 with (fail)
   go_cut [84] (fun s84 wx => s84 = .bool false ∧ Hid (Below wr.heap.size wr wx))
   case first =>
    by_cases hqp : (q : Int) = p
    ·have hqp' : ((q : Int) != p) = false := by simpa using hqp
     clear hqp
     refine wp_region_qb (by kernel_rfl) (by kernel_rfl) ?_
     repeat (go_big_quiet_step (fail))
     refine wpQuiet_nil ?_
     intro w6 hb6
     go_wp2_with fail
     go_meet
     exact ⟨rfl, hb6⟩
    ·have hqp' : ((q : Int) != p) = true := by simpa using hqp
     have hsc := HSY.out q hqp
     obtain ⟨sv, hsv⟩ : ∃ s, scoreE q x.2.b = s := ⟨_, rfl⟩
     rw [hsv] at hsc
     have c0r := fun d os => cell_regrown (((bcell HC.out).1 _ _ (by have := KS.out.lt; omega)).trans C0.out) d os
     have d0r := fun d os => cell_regrown (((bcell HC.out).1 _ _ (by have := KS2.out.lt; omega)).trans D0.out) d os
     have e11r := fun d os => cell_regrown (((bcell HC.out).1 _ _ hbb).trans E11.out) d os
     have y11r := fun d os => cell_regrown (((bcell HC.out).1 _ _ hbb').trans Y11.out) d os
     have H1 := Lib.hid (fun (W : World) (hb : Below wr.heap.size wr W) => (scoreOf_any _ _ x.1.b.c _ q W ((HRX.out.below HC.out).below hb) (by omega)).mono (R' := fun e w' => e = .returned (.int .i64 sv) ∧ Below W.heap.size W w') fun e w' h => by rw [hsv] at h; exact ⟨h.1, by rw [h.2]; exact Below.refl _ _⟩)
     have H2 := Lib.hid (fun (W : World) (hb : Below wr.heap.size wr W) => (scoreOf_any _ _ y.1.b.c _ q W ((HRY.out.below HC.out).below hb) (by omega)).mono (R' := fun e w' => e = .returned (.int .i64 sv) ∧ Below W.heap.size W w') fun e w' h => by rw [hsc] at h; exact ⟨h.1, by rw [h.2]; exact Below.refl _ _⟩)
     clear hqp hsv hsc
     refine wp_region_qb (by kernel_rfl) (by kernel_rfl) ?_
     repeat (go_big_quiet_step (first | (go_at_call_of 39 (Value.slice x.1.b.a x.1.b.n x.1.b.c); exact Calls.regrown_of (H1.out _ (below_regrown _ _ _))) | (go_at_call_of 39 (Value.slice y.1.b.a y.1.b.n y.1.b.c); exact Calls.regrown_of (H2.out _ (below_regrown _ _ _)))))
     refine wpQuiet_nil ?_
     intro w6 hb6
     go_wp2_with fail
     go_meet
     exact ⟨rfl, hb6⟩
   case rest =>
    obtain ⟨rfl, HBD⟩ := hcut
    go_wp2
    go_roundg (10 - (q + 1))
    case measure => omega
    case rel => exact ⟨q + 1, by omega, by omega, by go_num, below_next HC.out HBD.out⟩
set_option maxRecDepth 100000 in
theorem lifted (os : Os) (started : os.Started) (H : Type) (enc : TypeId × Value → H) :
  ReturnsInHanded {} Tryz.checked os 9 .any (Rows.fnRevokeOthersSpec.pre6 enc Tryz.prog Tryz.f9 Rows.fnRevokeOthersRow.domain false) (Rows.fnRevokeOthersSpec.post enc Tryz.prog Tryz.f9 false true false false) := by
 refine returnsInHanded_of_change (C := Tryz.checked) own_ started (by kernel_rfl) Tryz.func9
  (ChangeSpec.witness6 (enc := enc) (C := Tryz.checked) false ⟨#[], #[.slice none 0 0], []⟩ 8 (by kernel_rfl) (by kernel_rfl) (by kernel_rfl) (by kernel_rfl)) ?_
 intro W base args ds gs before hval0 hW hcnd _
 have hval : ∀ (j : Nat) t v, Tryz.f9.params[j]? = some t → args[j]? = some v → Value.okWide Tryz.prog W .any base t v := hval0
 have hW' := hW
 obtain ⟨p, q, hA0, hV, rfl, hfz, hnd⟩ := hW
 have hA : DataW.TrodAll enc Tryz.prog W 0 (fun _ => true) true Tryz.f9.params.toList args.toList ds p := hA0
 rw [Tryz.params9] at hA hval
 obtain ⟨v0, vs0, d0, ds0, p0, q0, hargs, rfl, rfl, h0, r0⟩ := trodAll_cons hA
 obtain ⟨rfl, rfl, rfl⟩ := trodAll_nil r0
 obtain rfl : args = #[v0] := by cases args; simp_all
 obtain ⟨rfl, rfl⟩ := trodVars_none hV
 obtain ⟨a0, len0, cap0, rfl⟩ := okWide_slice Tryz.underlying53 (hval 0 53 v0 rfl rfl)
 have k0 := h0
 have lt0 : ∀ x ∈ p0, x.block < W.heap.size := by obtain ⟨m, hm⟩ := k0; exact DataW.trod_lt m _ _ _ hm
 obtain ⟨z0, w0⟩ : ∃ zs, BytesIn W a0 len0 cap0 zs := by
  obtain ⟨fuel, hf⟩ := h0
  exact open_BytesIn Tryz.underlying53 Tryz.underlying5 (by kernel_rfl) (by simpa [Value.cells] using hf)
 clear hA0 hval0
 refine (walk a0 len0 cap0 z0 W w0).mono fun e W' ⟨he, bel⟩ => ?_
 subst he
 exact ⟨_, rfl, _, _, _, [], _, [], hW', trodAll_mk1 (shut_bool Tryz.underlying4 _), (trodAll_cons_mk (Below.trod laidOut_ (by kernel_rfl) (of_decide_eq_true (by kernel_rfl)) k0 bel lt0) trodAll_mk0), rfl, bel.frame _, fun h => by cases h⟩
theorem closed_ : joinedFacts Tryz.prog 9 Tryz.f9 Rows.fnRevokeOthersSpec Rows.fnRevokeOthersRow = true :=
 joined_by mayEnter_ liftsFinal_ make_ (by kernel_rfl) laidOut_ mapsRowed_ (by kernel_rfl) (by kernel_rfl) rfl stops_ rfl stopKnobs_ (by kernel_rfl) (by kernel_rfl) (by kernel_rfl) (by kernel_rfl) (by kernel_rfl) (by kernel_rfl) (by kernel_rfl) (by kernel_rfl) (by kernel_rfl) (by kernel_rfl) rfl stopsHeard_ rfl rfl rfl (by kernel_rfl)
theorem over : Rows.fnRevokeOthersRow.holds Tryz.pinned (OpenSpec.ofChange Rows.fnRevokeOthersSpec) :=
 OpenClaim.holds_of_wide 9 Tryz.f9 rfl rfl rfl rfl rfl rfl rfl ⟨rfl, rfl, rfl, rfl, rfl⟩ rfl rfl rfl rfl rfl (by kernel_rfl) Tryz.func9 closed_
  (of_decide_eq_true (by kernel_rfl)) (by unfold Func.isWrapper; first | (rw [if_pos (by decide +kernel)]; kernel_rfl) | (rw [if_neg (by decide +kernel)]; exact ⟨rfl, rfl⟩))
  (fun os started H enc _ => lifted os started H enc)
theorem proved : Rows.FnRevokeOthersSaid := over
end Go.Proofs.YtepddbfafdfadaaGreat.fnRevokeOthers


/-
  FnRevoke returns true for every code, and nothing that was there is written. No condition.
-/
import Derived.Test.YtepddbfafdfadaaGreatKa3
import Derived.Test.YtepddbfafdfadaaGreatKa14
import Derived.Test.YtepddbfafdfadaaGreatKa39
namespace Go.Proofs.YtepddbfafdfadaaGreat.fnRevoke
open Go.RowKit Go.ChangeShapes Go.WideShapes Go.ChangeAt
set_option linter.unusedVariables false
set_option maxRecDepth 100000 in
set_option maxHeartbeats 8000000 in
theorem walk (a0 : Option Addr) (len0 cap0 : Nat) (z0 : List Int) (w : World) (w0 : BytesIn w a0 len0 cap0 z0) :
  Calls Tryz.prog 8 #[.slice a0 len0 cap0] w fun e w' => e = .returned (.bool true) ∧ Below w.heap.size w w' := by
 have hz := w0.bd
 obtain ⟨hr, hlc, hcm, _⟩ := w0
 by_cases hsz : (1048576 : Int) < len0
 ·clear hr hlc hcm hz
  go_enter Tryz.func8, Tryz.ntmps8
  go_wp2
  go_ret
  exact ⟨rfl, Below.refl _ _⟩
 have H1 := Lib.hid (drawServiceRevoke_any a0 len0 cap0 z0 w ⟨hr, hz, hlc, hcm⟩)
 clear hr hlc hcm hz
 go_enter Tryz.func8, Tryz.ntmps8
 go_wp2_with fail
 refine H1.out.mono ?_
 rintro e w1 ⟨t, k, g, S, p, rfl, hrd, hb1⟩
 go_upto_region 4 with (fail)
 refine into_world (fun Y => Below w.heap.size w Y ∧ Blk Y w1.heap.size 37 (svC t k g) ∧ RdS Y t k g S) ⟨hb1.alloc hb1.size _, Blk.new _ _ _, hrd.below (ba (Below.refl _ _))⟩ ?_
 clear hrd hb1
 rintro Y ⟨hB, hKS, hrd⟩
 have HB := Lib.hid hB
 have KS := Lib.hid hKS
 have HR := Lib.hid hrd
 clear hB hKS hrd
 have cs := fun o => KS.out.cell o
 have fs := fun o => KS.out.frozen o
 have zs := KS.out.lt
 go_wp2_with fail
 refine (implServiceRevoke_any t k g S p _ HR.out).mono ?_
 obtain ⟨S2, n2, hrv⟩ : ∃ a b, revS S p = (a, b) := ⟨_, _, rfl⟩
 have HRV := Lib.hid hrv
 rw [hrv]
 clear hrv
 rintro e w2 ⟨t2, k2, g2, rfl, ho2, hb⟩
 replace KS := Lib.hid (KS.out.next hb)
 replace HR := Lib.hid (HR.out.below hb)
 replace HB := Lib.hid (below_next HB.out hb)
 clear hb cs fs zs
 go_upto_region 5 with (fail)
 have hW : Below w2.heap.size w2 (w2.alloc (.cells (svC t2 k2 g2) 37)) := ba (Below.refl _ _)
 have KS2 := Lib.hid (Blk.new w2 37 (svC t2 k2 g2))
 have HR2 := Lib.hid (ho2.rd.below hW)
 replace KS := Lib.hid (KS.out.next hW)
 replace HR := Lib.hid (HR.out.below hW)
 replace HB := Lib.hid (below_next HB.out hW)
 clear hW ho2
 have cs := fun o => KS.out.cell o
 have fs := fun o => KS.out.frozen o
 have zs := KS.out.lt
 go_wp2_with fail
 refine (specServiceRevoke_any t k g S p _ HR.out).mono ?_
 rw [HRV.out]
 rintro e w3 ⟨t3, k3, g3, rfl, ho3, hb⟩
 replace KS := Lib.hid (KS.out.next hb)
 replace HR := Lib.hid (HR.out.below hb)
 replace HB := Lib.hid (below_next HB.out hb)
 replace KS2 := Lib.hid (KS2.out.next hb)
 replace HR2 := Lib.hid (HR2.out.below hb)
 clear hb cs fs zs
 go_upto_region 6 with (fail)
 have hW : Below w3.heap.size w3 (w3.alloc (.cells (svC t3 k3 g3) 37)) := ba (Below.refl _ _)
 have KS3 := Lib.hid (Blk.new w3 37 (svC t3 k3 g3))
 have HR3 := Lib.hid (ho3.rd.below hW)
 replace KS := Lib.hid (KS.out.next hW)
 replace HR := Lib.hid (HR.out.below hW)
 replace HB := Lib.hid (below_next HB.out hW)
 replace KS2 := Lib.hid (KS2.out.next hW)
 replace HR2 := Lib.hid (HR2.out.below hW)
 clear hW ho3
 have ca := fun o => KS2.out.cell o
 have fa := fun o => KS2.out.frozen o
 have za := KS2.out.lt
 have cb := fun o => KS3.out.cell o
 have fb := fun o => KS3.out.frozen o
 have zb := KS3.out.lt
 go_wp2_with fail
 refine (sameService_same _ _ _ _ _ _ S2 _ HR2.out HR3.out).mono ?_
 rintro e w4 ⟨rfl, hb⟩
 replace KS := Lib.hid (KS.out.next hb)
 replace HR := Lib.hid (HR.out.below hb)
 replace HB := Lib.hid (below_next HB.out hb)
 replace KS2 := Lib.hid (KS2.out.next hb)
 replace HR2 := Lib.hid (HR2.out.below hb)
 replace KS3 := Lib.hid (KS3.out.next hb)
 replace HR3 := Lib.hid (HR3.out.below hb)
 clear hb ca fa za cb fb zb
 by_cases hn : n2 < 0
 ·have hn' : decide (n2 < 0) = true := by simpa using hn
  clear hn
  have ca := fun o => KS2.out.cell o
  have fa := fun o => KS2.out.frozen o
  have za := KS2.out.lt
  have cb := fun o => KS3.out.cell o
  have fb := fun o => KS3.out.frozen o
  have zb := KS3.out.lt
  go_wp2_with fail
  refine (sameService_same _ _ _ _ _ _ S2 _ HR2.out HR3.out).mono ?_
  rintro e w5 ⟨rfl, hb⟩
  have hbb := below_next HB.out hb
  clear hb ca fa za cb fb zb
  go_wp2_with fail
  go_ret
  exact ⟨rfl, hbb⟩
 have hn' : decide (n2 < 0) = false := by simpa using hn
 have hvp : (validS S && inR p 0 9) = true := by
  have hr := HRV.out
  cases hv : (validS S && inR p 0 9)
  ·rw [revS_bad hv] at hr
   injection hr with _ hr
   omega
  ·rfl
 simp only [Bool.and_eq_true] at hvp
 have HVS := Lib.hid hvp.1
 have HPP := Lib.hid hvp.2
 have HS2 := Lib.hid (show S2 = ⟨S.ts.map (revT p), S.keys.set p.toNat 0, S.tags⟩ by have := HRV.out; rw [revS_done hvp.1 hvp.2] at this; injection this with this; exact this.symm)
 clear hvp
 obtain ⟨⟨xs, hxs, hts⟩, _, _, ⟨_, hn1⟩, _⟩ := HR.out
 have hr2 := HR2.out
 obtain ⟨⟨ys, hys, hus⟩, hk2, _, ⟨_, hn2⟩, ⟨_, hnk⟩, _⟩ := hr2
 have HX := Lib.hid hxs
 have HT := Lib.hid hts
 have HY := Lib.hid hys
 have HU := Lib.hid hus
 have HK2 := Lib.hid hk2
 have hlen : t2.n = t.n := by
  have h1 := hts.1.len
  have h2 := hus.1.len
  have h3 : ys.length = xs.length := by
   have : (ys.map (·.2)).length = (xs.map (·.2)).length := by rw [hys, hxs, HS2.out]; simp
   simpa using this
  omega
 have HLN := Lib.hid hlen
 have HN2 := Lib.hid (show n2 = revN p S.ts by have := HRV.out; rw [revS_done HVS.out HPP.out] at this; injection this with _ this; exact this.symm)
 have htn : t.n ≤ 4 := by
  have h1 := hts.1.len
  have h2 : (xs.map (·.2)).length ≤ 4 := by rw [hxs]; exact (validS_of HVS.out).2.1
  simp at h2
  omega
 clear hxs hts hys hus hk2 hlen
 have HKS := Lib.hid KS.out
 have HKS2 := Lib.hid KS2.out
 have HB4 := Lib.hid HB.out
 have HW2 := Lib.hid HR2.out
 clear HB HR HR2 HR3 KS3 KS KS2
 go_wp2_with fail
 go_loopg [9, 10] t.n (fun gg kk i wr => ∃ (j : Nat) (c : Int), j ≤ t.n ∧ t.n - j ≤ gg ∧ kk = .int .i64 c ∧ 0 ≤ c ∧ c ≤ j ∧ i = .int .i64 j ∧ Hid (Below w4.heap.size w4 wr ∧ c = revN p (S.ts.take j)))
 case atStart => exact ⟨0, 0, Nat.zero_le _, by omega, rfl, by omega, by omega, rfl, Below.refl _ _, by simp [revN]⟩
 case round =>
  obtain ⟨j, c, hj, hgg, rfl, hc0, hcj, rfl, HH⟩ := hrel
  have KS := Lib.hid (HKS.out.next HH.out.1)
  have KS2 := Lib.hid (HKS2.out.next HH.out.1)
  have cs := fun o => KS.out.cell o
  have fs := fun o => KS.out.frozen o
  have zs := KS.out.lt
  have ca := fun o => KS2.out.cell o
  have fa := fun o => KS2.out.frozen o
  have za := KS2.out.lt
  by_cases hlt : j < t.n
  rotate_left
  ·have hcn : c = n2 := by
    rw [HH.out.2, HN2.out, List.take_of_length_le]
    have h1 := HT.out.1.len
    have h2 := congrArg List.length HX.out
    simp at h2
    omega
   subst hcn
   obtain ⟨pq, hpq, hp9⟩ := mem_inR HPP.out
   have hk10 : k2.n = 10 := by
    have h1 := HK2.out.1
    have h2 := (validS_of HVS.out).1
    rw [HS2.out] at h1
    simp at h1
    omega
   have hkp : pq < k2.n := by omega
   obtain ⟨b3, off3, z, hA3, hb3, hz, hc3⟩ := (HK2.out.below HH.out.1).at_ hkp
   have hz0 : z = 0 := by
    rw [HS2.out] at hz
    simp only [hpq, Int.toNat_natCast] at hz
    rw [List.getElem?_set_self (by have := (validS_of HVS.out).1; omega)] at hz
    exact (Option.some.inj hz).symm
   subst hz0
   subst hpq
   have d1 : wr.cell? ⟨w2.heap.size, 1, none⟩ = some (.slice (some ⟨b3, off3, none⟩) k2.n k2.c) := by rw [← hA3]; exact KS2.out.cell 1
   have d0 : wr.cell? ⟨w2.heap.size, 0, none⟩ = some (.slice t2.a t2.n t2.c) := KS2.out.cell 0
   have d2 : wr.cell? ⟨w2.heap.size, 2, none⟩ = some (.slice g2.a g2.n g2.c) := KS2.out.cell 2
   have hkp' : (pq : Int) < k2.n := by omega
   have HW := Lib.hid (show RdS wr t2 ⟨some ⟨b3, off3, none⟩, k2.n, k2.c⟩ g2 S2 by rw [← hA3]; exact HW2.out.below HH.out.1)
   have HB5 := Lib.hid (below_next HB4.out HH.out.1)
   clear ca hz hA3 hk10
   go_upto_region 16 with (fail)
   clear hn' hc0 hcj hgg hj hlt
   go_wp2_with fail
   refine (implServiceValid_any _ _ _ S2 _ HW.out).mono ?_
   rintro e w5 ⟨rfl, hb⟩
   have hbb := below_next HB5.out hb
   have hv2 : validS S2 = true := by rw [HS2.out]; exact rev_valid HVS.out HPP.out
   rw [hv2]
   clear hb hv2
   go_wp2_with fail
   go_ret
   exact ⟨rfl, hbb⟩
  obtain ⟨b, off, x, hA, hbb, hx, hrx, _, _, _, _, _, _, _, _, _, _, _, e11⟩ := RdTs.cells (HT.out.below HH.out.1) hlt
  obtain ⟨b', off', y, hA', hbb', hy, hry, _, _, _, _, _, _, _, _, _, _, _, y11⟩ := RdTs.cells (HU.out.below HH.out.1) (show j < t2.n by have := HLN.out; omega)
  have hsx : S.ts[j]? = some x.2 := by rw [← HX.out, List.getElem?_map, hx]; rfl
  have hsy : S2.ts[j]? = some y.2 := by rw [← HY.out, List.getElem?_map, hy]; rfl
  have hyx : y.2 = revT p x.2 := by
   rw [HS2.out] at hsy
   simp only [List.getElem?_map, hsx] at hsy
   exact (Option.some.inj hsy).symm
  have hvt := valid_trk HVS.out hsx
  have hrs := rev_score (p := p) hvt.2.1
  have HSTEP := Lib.hid (revN_take (p := p) hsx)
  have HRX := Lib.hid hrx.2.1
  have HRY := Lib.hid hry.2.1
  have hnx : x.1.b.n ≤ 1048576 := hrx.2.2.2
  have hny : y.1.b.n ≤ 1048576 := hry.2.2.2
  have HSY := Lib.hid (show scoreE p y.2.b = -1 by rw [hyx]; exact score_gone p _)
  have c0 : wr.cell? ⟨w1.heap.size, 0, none⟩ = some (.slice (some ⟨b, off, none⟩) t.n t.c) := by rw [← hA]; exact KS.out.cell 0
  have d0 : wr.cell? ⟨w2.heap.size, 0, none⟩ = some (.slice (some ⟨b', off', none⟩) t2.n t2.c) := by rw [← hA']; exact KS2.out.cell 0
  have hlt2 : j < t2.n := by have := HLN.out; omega
  clear hA hA' hx hy hrx hry hsx hsy hyx hvt cs ca
  go_wp2_with fail
  refine (scoreOf_any _ _ _ x.2.b p _ HRX.out (by omega)).mono ?_
  rintro e w5 ⟨rfl, rfl⟩
  obtain ⟨sx, hsx⟩ : ∃ s, scoreE p x.2.b = s := ⟨_, rfl⟩
  rw [hsx]
  rw [hsx] at hrs
  have HRS := Lib.hid hrs
  clear hsx hrs
  by_cases h0 : 0 ≤ sx
  ·have h0' : decide (0 ≤ sx) = true := by simpa using h0
   have hst := HRS.out.1 h0
   have HST := Lib.hid hst
   clear hst h0
   go_wp2_with fail
   refine (scoreOf_any _ _ _ y.2.b p _ HRY.out (by omega)).mono ?_
   rintro e w6 ⟨rfl, rfl⟩
   rw [HSY.out]
   go_wp2_with fail
   go_roundg (t.n - (j + 1))
   case measure => omega
   case rel => exact ⟨j + 1, c + 1, by omega, by omega, rfl, by omega, by omega, by go_num, HH.out.1, by rw [HSTEP.out, ← HH.out.2, HST.out]⟩
  ·have h0' : decide (0 ≤ sx) = false := by simpa using h0
   have hst := HRS.out.2 (by omega)
   have HST := Lib.hid hst
   clear hst h0
   go_wp2_with fail
   refine (scoreOf_any _ _ _ y.2.b p _ HRY.out (by omega)).mono ?_
   rintro e w6 ⟨rfl, rfl⟩
   rw [HSY.out]
   go_wp2_with fail
   go_roundg (t.n - (j + 1))
   case measure => omega
   case rel => exact ⟨j + 1, c, by omega, by omega, rfl, by omega, by omega, by go_num, HH.out.1, by rw [HSTEP.out, ← HH.out.2, HST.out]; omega⟩
set_option maxRecDepth 100000 in
theorem lifted (os : Os) (started : os.Started) (H : Type) (enc : TypeId × Value → H) :
  ReturnsInHanded {} Tryz.checked os 8 .any (Rows.fnRevokeSpec.pre6 enc Tryz.prog Tryz.f8 Rows.fnRevokeRow.domain false) (Rows.fnRevokeSpec.post enc Tryz.prog Tryz.f8 false true false false) := by
 refine returnsInHanded_of_change (C := Tryz.checked) own_ started (by kernel_rfl) Tryz.func8
  (ChangeSpec.witness6 (enc := enc) (C := Tryz.checked) false ⟨#[], #[.slice none 0 0], []⟩ 8 (by kernel_rfl) (by kernel_rfl) (by kernel_rfl) (by kernel_rfl)) ?_
 intro W base args ds gs before hval0 hW hcnd _
 have hval : ∀ (j : Nat) t v, Tryz.f8.params[j]? = some t → args[j]? = some v → Value.okWide Tryz.prog W .any base t v := hval0
 have hW' := hW
 obtain ⟨p, q, hA0, hV, rfl, hfz, hnd⟩ := hW
 have hA : DataW.TrodAll enc Tryz.prog W 0 (fun _ => true) true Tryz.f8.params.toList args.toList ds p := hA0
 rw [Tryz.params8] at hA hval
 obtain ⟨v0, vs0, d0, ds0, p0, q0, hargs, rfl, rfl, h0, r0⟩ := trodAll_cons hA
 obtain ⟨rfl, rfl, rfl⟩ := trodAll_nil r0
 obtain rfl : args = #[v0] := by cases args; simp_all
 obtain ⟨rfl, rfl⟩ := trodVars_none hV
 obtain ⟨a0, len0, cap0, rfl⟩ := okWide_slice Tryz.underlying53 (hval 0 53 v0 rfl rfl)
 have k0 := h0
 have lt0 : ∀ x ∈ p0, x.block < W.heap.size := by obtain ⟨m, hm⟩ := k0; exact DataW.trod_lt m _ _ _ hm
 obtain ⟨z0, w0⟩ : ∃ zs, BytesIn W a0 len0 cap0 zs := by
  obtain ⟨fuel, hf⟩ := h0
  exact open_BytesIn Tryz.underlying53 Tryz.underlying5 (by kernel_rfl) (by simpa [Value.cells] using hf)
 clear hA0 hval0
 refine (walk a0 len0 cap0 z0 W w0).mono fun e W' ⟨he, bel⟩ => ?_
 subst he
 exact ⟨_, rfl, _, _, _, [], _, [], hW', trodAll_mk1 (shut_bool Tryz.underlying4 _), (trodAll_cons_mk (Below.trod laidOut_ (by kernel_rfl) (of_decide_eq_true (by kernel_rfl)) k0 bel lt0) trodAll_mk0), rfl, bel.frame _, fun h => by cases h⟩
theorem closed_ : joinedFacts Tryz.prog 8 Tryz.f8 Rows.fnRevokeSpec Rows.fnRevokeRow = true :=
 joined_by mayEnter_ liftsFinal_ make_ (by kernel_rfl) laidOut_ mapsRowed_ (by kernel_rfl) (by kernel_rfl) rfl stops_ rfl stopKnobs_ (by kernel_rfl) (by kernel_rfl) (by kernel_rfl) (by kernel_rfl) (by kernel_rfl) (by kernel_rfl) (by kernel_rfl) (by kernel_rfl) (by kernel_rfl) (by kernel_rfl) rfl stopsHeard_ rfl rfl rfl (by kernel_rfl)
theorem over : Rows.fnRevokeRow.holds Tryz.pinned (OpenSpec.ofChange Rows.fnRevokeSpec) :=
 OpenClaim.holds_of_wide 8 Tryz.f8 rfl rfl rfl rfl rfl rfl rfl ⟨rfl, rfl, rfl, rfl, rfl⟩ rfl rfl rfl rfl rfl (by kernel_rfl) Tryz.func8 closed_
  (of_decide_eq_true (by kernel_rfl)) (by unfold Func.isWrapper; first | (rw [if_pos (by decide +kernel)]; kernel_rfl) | (rw [if_neg (by decide +kernel)]; exact ⟨rfl, rfl⟩))
  (fun os started H enc _ => lifted os started H enc)
theorem proved : Rows.FnRevokeSaid := over
end Go.Proofs.YtepddbfafdfadaaGreat.fnRevoke


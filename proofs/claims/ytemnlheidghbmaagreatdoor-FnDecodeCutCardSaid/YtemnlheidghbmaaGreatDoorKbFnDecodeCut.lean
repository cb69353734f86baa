/-
  FnDecodeCut returns true for every two codes, and nothing that was there is written. No condition.
-/
import Derived.Test.YtemnlheidghbmaaGreatDoorRows
import Derived.MakeChecks
import Derived.LaidSub
import Derived.Lay
import Derived.LaidMore
import Derived.Test.YtemnlheidghbmaaGreatDoorTie
import Derived.Test.YtemnlheidghbmaaGreatDoorCards
import Derived.Test.YtemnlheidghbmaaGreatDoorKb3
import Derived.Test.YtemnlheidghbmaaGreatDoorKb29
import Derived.Test.YtemnlheidghbmaaGreatDoorKb30
namespace Go.Proofs.YtemnlheidghbmaaGreatDoor.fnDecodeCut
open Go.RowKit Go.ChangeShapes Go.WideShapes Go.ChangeAt
set_option linter.unusedVariables false
set_option maxRecDepth 100000 in
set_option maxHeartbeats 8000000 in
theorem walk (a0 : Option Addr) (len0 cap0 : Nat) (z0 : List Int) (a1 : Option Addr) (len1 cap1 : Nat) (z1 : List Int) (w : World) (w0 : BytesIn w a0 len0 cap0 z0) (w1 : BytesIn w a1 len1 cap1 z1) (hg : Gds w) :
  Calls Tryz.prog 12 #[.slice a0 len0 cap0, .slice a1 len1 cap1] w fun e w' => e = .returned (.bool true) ∧ Below w.heap.size w w' := by
 have hz := w0.bd
 obtain ⟨hr, hlc, hcm, _⟩ := w0
 obtain ⟨_, hlc1, hcm1, _⟩ := w1
 by_cases hsz : (1048576 : Int) < len0
 ·clear hr hlc hcm hz
  go_enter Tryz.func12, Tryz.ntmps12
  go_wp2
  go_ret
  exact ⟨rfl, Below.refl _ _⟩
 by_cases hsz1 : (1048576 : Int) < len1
 ·clear hr hlc hcm hz
  go_enter Tryz.func12, Tryz.ntmps12
  go_wp2
  go_ret
  exact ⟨rfl, Below.refl _ _⟩
 have H1 := Lib.hid (drawReplayDecode_any a0 len0 cap0 z0 w hr hz hlc hcm)
 clear hr hlc hcm hz hlc1 hcm1
 have HG := Lib.hid hg
 go_enter Tryz.func12, Tryz.ntmps12
 go_wp2_with fail
 refine H1.out.mono ?_
 rintro e w1 ⟨T, rfl, hT, hb⟩
 have HB := Lib.hid hb
 have HT := Lib.hid hT
 clear hb hT H1
 go_wp2_with fail
 refine (implReplayDecode_any T _ (HG.out.next HB.out) (by have := HT.out; omega)).mono ?_
 rw [decI_eq]
 generalize hD : decW T = D
 obtain ⟨r, k⟩ := D
 have HD := Lib.hid hD
 rintro e w2 ⟨ti, th, rfl, hor, hb⟩
 replace HB := Lib.hid (below_next HB.out hb)
 have HTR := Lib.hid hor
 clear hb hor hD
 go_upto_region 5 with (fail)
 refine into_world (fun Y => Below w.heap.size w Y ∧ Blk Y w2.heap.size 33 (repC r ti th) ∧ OwRep Y r ti th) ⟨HB.out.alloc HB.out.size _, Blk.new _ _ _, HTR.out.next (ba (Below.refl _ _))⟩ ?_
 rintro U ⟨hB, hK, hO⟩
 replace HB := Lib.hid hB
 have KY := Lib.hid hK
 replace HTR := Lib.hid hO
 have hgU := hK.lt
 clear hB hK hO
 have cy := fun o => KY.out.cell o
 have fy := fun o => KY.out.frozen o
 have zy := KY.out.lt
 go_wp2_with fail
 refine (specReplayDecode_any T _ (by have := HT.out; omega)).mono ?_
 rw [HD.out]
 rintro e w3 ⟨si, sh, rfl, hor, hb⟩
 replace KY := Lib.hid (KY.out.next hb)
 replace HTR := Lib.hid (HTR.out.next hb)
 replace HB := Lib.hid (below_next HB.out hb)
 have HOR := Lib.hid hor
 clear hb hor cy fy zy
 go_upto_region 6 with (fail)
 refine into_world (fun Y => Below w.heap.size w Y ∧ Blk Y w2.heap.size 33 (repC r ti th) ∧ OwRep Y r ti th ∧ Blk Y w3.heap.size 33 (repC r si sh) ∧ OwRep Y r si sh) ⟨HB.out.alloc HB.out.size _, KY.out.alloc _, HTR.out.next (ba (Below.refl _ _)), Blk.new _ _ _, HOR.out.next (ba (Below.refl _ _))⟩ ?_
 rintro V ⟨hB, hK, hO, hK2, hO2⟩
 replace HB := Lib.hid hB
 replace KY := Lib.hid hK
 replace HTR := Lib.hid hO
 have KX := Lib.hid hK2
 replace HOR := Lib.hid hO2
 clear hB hK hO hK2 hO2
 have cx := fun o => KX.out.cell o
 have fx := fun o => KX.out.frozen o
 have zx := KX.out.lt
 have cy := fun o => KY.out.cell o
 have fy := fun o => KY.out.frozen o
 have zy := KY.out.lt
 cases k
 ·go_wp2_with fail
  refine (sameReplay_same r ti th si sh _ HTR.out.rd HOR.out.rd).mono ?_
  rintro e w5 ⟨rfl, hb⟩
  replace KX := Lib.hid (KX.out.next hb)
  replace KY := Lib.hid (KY.out.next hb)
  replace HOR := Lib.hid (HOR.out.next hb)
  replace HTR := Lib.hid (HTR.out.next hb)
  replace HB := Lib.hid (below_next HB.out hb)
  clear hb cx fx zx cy fy zy
  have cx := fun o => KX.out.cell o
  have fx := fun o => KX.out.frozen o
  have zx := KX.out.lt
  have cy := fun o => KY.out.cell o
  have fy := fun o => KY.out.frozen o
  have zy := KY.out.lt
  go_wp2_with fail
  refine (sameReplay_same r ti th si sh _ HTR.out.rd HOR.out.rd).mono ?_
  rintro e w6 ⟨rfl, hb⟩
  replace HB := Lib.hid (below_next HB.out hb)
  clear hb cx fx zx cy fy zy
  go_wp2_with fail
  go_ret
  exact ⟨rfl, HB.out⟩
 ·have HE := Lib.hid (enc_dec HD.out)
  go_wp2_with fail
  refine (sameReplay_same r ti th si sh _ HTR.out.rd HOR.out.rd).mono ?_
  rintro e w5 ⟨rfl, hb⟩
  replace KX := Lib.hid (KX.out.next hb)
  replace KY := Lib.hid (KY.out.next hb)
  replace HOR := Lib.hid (HOR.out.next hb)
  replace HTR := Lib.hid (HTR.out.next hb)
  replace HB := Lib.hid (below_next HB.out hb)
  clear hb cx fx zx cy fy zy
  have cx := fun o => KX.out.cell o
  have fx := fun o => KX.out.frozen o
  have zx := KX.out.lt
  have cy := fun o => KY.out.cell o
  have fy := fun o => KY.out.frozen o
  have zy := KY.out.lt
  have HTS := Lib.hid (show 0 < T.size ∧ T.size ≤ 10001 from ⟨by rw [HE.out.2]; obtain ⟨X, h1, _⟩ := enc_X r; have := congrArg List.length h1; rw [toL_len] at this; simp at this; omega, HT.out⟩)
  have hT1 := HTS.out.1
  have hT2 := HTS.out.2
  obtain ⟨K, hK, hKl⟩ : ∃ K : Nat, (len1 : Int).tmod (T.size : Int) = K ∧ K < T.size := ⟨len1 % T.size, by rw [Int.tmod_eq_emod_of_nonneg (by omega)]; exact (Int.natCast_emod _ _).symm, Nat.mod_lt _ hT1⟩
  have hne : ¬ (T.size : Int) = 0 := by omega
  have hc : decW (T.extract 0 K) = (rep0, false) := decW_no (by rw [HE.out.2]; exact cut_no r (by rw [← HE.out.2]; exact hKl))
  have hm : decW (T ++ ⟨#[10]⟩) = (rep0, false) := decW_no (by rw [HE.out.2]; exact more_no r)
  have HC := Lib.hid hc
  have HM := Lib.hid hm
  have hx1 : (T.extract 0 K).size = K := by rw [ByteArray.size_extract]; omega
  clear hc hm HD HE HTR HOR KX KY cx fx zx cy fy zy
  have y1 : ¬ 9223372036854775807 < T.size + 1 := by omega
  have y2 : (T ++ (⟨#[10]⟩ : ByteArray)).size = T.size + 1 := by rw [ByteArray.size_append]; rfl
  go_wp2_with fail
  refine (implReplayDecode_any (T.extract 0 K) _ (HG.out.next HB.out) (by omega)).mono ?_
  rw [decI_eq, HC.out]
  rintro e w6 ⟨_, _, rfl, _, hb⟩
  replace HB := Lib.hid (below_next HB.out hb)
  clear hb
  go_upto_region 9 with (fail)
  refine into_world (fun Y => Below w.heap.size w Y) (HB.out.alloc HB.out.size _) ?_
  rintro Y hB
  replace HB := Lib.hid hB
  clear hB
  go_wp2_with fail
  have HS := Lib.hid (show (T ++ (⟨#[10]⟩ : ByteArray)).size ≤ 1048576 by omega)
  generalize T ++ (⟨#[10]⟩ : ByteArray) = TN at *
  refine (implReplayDecode_any TN _ (HG.out.next HB.out) HS.out).mono ?_
  rw [decI_eq, HM.out]
  rintro e w7 ⟨_, _, rfl, _, hb⟩
  replace HB := Lib.hid (below_next HB.out hb)
  clear hb
  go_upto_region 10 with (fail)
  refine into_world (fun Y => Below w.heap.size w Y) (HB.out.alloc HB.out.size _) ?_
  rintro Z hB
  go_wp2_with fail
  go_ret
  exact ⟨rfl, hB⟩
theorem own_ : ownKnob Tryz.prog.godebug = none := by kernel_rfl
theorem star_ : "*" ++ "errors.errorString" = "*errors.errorString" := by decide
theorem row_star (u : TypeId) (h : Tryz.prog.typeName? 3 u = some "*errors.errorString") : u = 291 :=
 typeName_ptr_named (nm := "errors.errorString") (by rw [star_]; kernel_rfl) (by kernel_rfl) (by decide) u (by rw [star_]; exact h)
theorem gds_of {w : World} (h : laidMetH Tryz.prog Rows.fnDecodeCutRow.laid w) (hs : w.ShapedOpen Tryz.prog) : Gds w := by
 rw [MakeChecks.laidMetH_plain _ _ _ (by kernel_rfl)] at h
 refine ⟨?_, ?_, ?_, ?_⟩
 ·have h1 := h.filter (fun x => x.1 == "internal/strconv.uint64pow10")
  exact Lib.tabIs_of_head (g := 12) (rest := []) (by kernel_rfl) (by kernel_rfl) Tryz.underlying280 Tryz.underlying154 (by kernel_rfl) (by kernel_rfl) h1
 ·exact cell_of_shapedOpen_int (zero := #[.int .i64 0]) (t := 3) hs (of_decide_eq_true (by kernel_rfl)) (by kernel_rfl) rfl (by kernel_rfl) (by kernel_rfl) Tryz.underlying3
 ·have h1 := h.filter (fun x => x.1 == "strconv.ErrSyntax")
  obtain ⟨a, s, hv, _⟩ := laid_sentinel (r := []) h1 (g := 10) (by kernel_rfl) (by kernel_rfl) Tryz.underlying67 row_star Tryz.underlying291 Tryz.underlying293 rfl rfl Tryz.underlying9 (by kernel_rfl) (by kernel_rfl)
  exact ⟨_, _, by have h0 := World.var?_cell (g := 10) (by kernel_rfl) hv 0; simpa using h0⟩
 ·have h1 := h.filter (fun x => x.1 == "strconv.ErrRange")
  obtain ⟨a, s, hv, _⟩ := laid_sentinel (r := []) h1 (g := 11) (by kernel_rfl) (by kernel_rfl) Tryz.underlying67 row_star Tryz.underlying291 Tryz.underlying293 rfl rfl Tryz.underlying9 (by kernel_rfl) (by kernel_rfl)
  exact ⟨_, _, by have h0 := World.var?_cell (g := 11) (by kernel_rfl) hv 0; simpa using h0⟩
set_option maxRecDepth 100000 in
theorem lifted (os : Os) (started : os.Started) (H : Type) (enc : TypeId × Value → H) :
  ReturnsInLeavingWide {} Tryz.checked os 12 .any (fun w args => (Rows.fnDecodeCutSpec.pre enc Tryz.prog Tryz.f12 Rows.fnDecodeCutRow.domain false w args ∧ laidMetH Tryz.prog Rows.fnDecodeCutRow.laid w) ∧ sizedMet enc Tryz.prog Tryz.f12 (OpenSpec.ofChange Rows.fnDecodeCutSpec) false w args) (Rows.fnDecodeCutSpec.post enc Tryz.prog Tryz.f12 false true false false) := by
 refine leaving_of_change (C := Tryz.checked) (X := fun w _ => laidMetH Tryz.prog Rows.fnDecodeCutRow.laid w) (fun _ _ _ hh h => h.of_heap hh) own_ started (by kernel_rfl) Tryz.func12
  (ChangeSpec.witness_shaped (enc := enc) (C := Tryz.checked) (os := os) (X := fun w _ => laidMetH Tryz.prog Rows.fnDecodeCutRow.laid w) false (World.laidAll Tryz.prog os Rows.fnDecodeCutRow.laid) #[.slice none 0 0, .slice none 0 0] 8 (World.laidAll_os _ _ _)
   (World.shaped_of_ZipB (by kernel_rfl) (by kernel_rfl)) (by kernel_rfl) (by kernel_rfl) (by kernel_rfl)
   (by rw [MakeChecks.laidMetH_plain _ _ _ (by kernel_rfl)]; exact laidMet_laidAll _ (by kernel_rfl) (by kernel_rfl))) ?_
 intro W base args ds gs before hval0 hW hLaid hShape
 have hval : ∀ (j : Nat) t v, Tryz.f12.params[j]? = some t → args[j]? = some v → Value.okWide Tryz.prog W .any base t v := hval0
 have hW' := hW
 obtain ⟨p, q, hA0, hV, rfl, hfz, hnd⟩ := hW
 have hA : DataW.TrodAll enc Tryz.prog W 0 (fun _ => true) true Tryz.f12.params.toList args.toList ds p := hA0
 rw [Tryz.params12] at hA hval
 obtain ⟨v0, vs0, d0, ds0, p0, q0, hargs, rfl, rfl, h0, r0⟩ := trodAll_cons hA
 obtain ⟨v1, vs1, d1, ds1, p1, q1, rfl, rfl, rfl, h1, r1⟩ := trodAll_cons r0
 obtain ⟨rfl, rfl, rfl⟩ := trodAll_nil r1
 obtain rfl : args = #[v0, v1] := by cases args; simp_all
 obtain ⟨rfl, rfl⟩ := trodVars_none hV
 obtain ⟨a0, len0, cap0, rfl⟩ := okWide_slice Tryz.underlying22 (hval 0 22 v0 rfl rfl)
 have k0 := h0
 have lt0 : ∀ x ∈ p0, x.block < W.heap.size := by obtain ⟨m, hm⟩ := k0; exact DataW.trod_lt m _ _ _ hm
 obtain ⟨z0, w0⟩ : ∃ zs, BytesIn W a0 len0 cap0 zs := by
  obtain ⟨fuel, hf⟩ := h0
  exact open_BytesIn Tryz.underlying22 Tryz.underlying5 (by kernel_rfl) (by simpa [Value.cells] using hf)
 obtain ⟨a1, len1, cap1, rfl⟩ := okWide_slice Tryz.underlying22 (hval 1 22 v1 rfl rfl)
 have k1 := h1
 have lt1 : ∀ x ∈ p1, x.block < W.heap.size := by obtain ⟨m, hm⟩ := k1; exact DataW.trod_lt m _ _ _ hm
 obtain ⟨z1, w1⟩ : ∃ zs, BytesIn W a1 len1 cap1 zs := by
  obtain ⟨fuel, hf⟩ := h1
  exact open_BytesIn Tryz.underlying22 Tryz.underlying5 (by kernel_rfl) (by simpa [Value.cells] using hf)
 clear hA0 hval0
 refine (walk a0 len0 cap0 z0 a1 len1 cap1 z1 W w0 w1 (gds_of hLaid hShape)).mono fun e W' ⟨he, bel⟩ => ?_
 subst he
 exact ⟨_, rfl, _, _, _, [], _, [], hW', trodAll_mk1 (shut_bool Tryz.underlying4 _), (trodAll_cons_mk (Below.trod laidOut_ (by kernel_rfl) (of_decide_eq_true (by kernel_rfl)) k0 bel lt0) (trodAll_cons_mk (Below.trod laidOut_ (by kernel_rfl) (of_decide_eq_true (by kernel_rfl)) k1 bel lt1) trodAll_mk0)), rfl, bel.frame _, fun h => by cases h⟩
theorem closed_ : joinedFacts Tryz.prog 12 Tryz.f12 Rows.fnDecodeCutSpec Rows.fnDecodeCutRow = true :=
 joined_by mayEnter_ liftsFinal_ make_ (by kernel_rfl) laidOut_ mapsRowed_ (by kernel_rfl) (by kernel_rfl) rfl stops_ rfl stopKnobs_ (by kernel_rfl) (by kernel_rfl) (by kernel_rfl) (by kernel_rfl) (by kernel_rfl) (by kernel_rfl) (by kernel_rfl) (by kernel_rfl) (by kernel_rfl) (by kernel_rfl) rfl stopsHeard_ rfl rfl rfl (by kernel_rfl)
theorem over : Rows.fnDecodeCutRow.holds Tryz.pinned (OpenSpec.ofChange Rows.fnDecodeCutSpec) :=
 OpenClaim.holds_of_wide_leaving 12 Tryz.f12 rfl rfl rfl rfl rfl rfl rfl ⟨rfl, rfl, rfl, rfl, rfl⟩ rfl rfl rfl rfl rfl (by kernel_rfl) Tryz.func12 closed_
  (of_decide_eq_true (by kernel_rfl)) (by unfold Func.isWrapper; first | (rw [if_pos (by decide +kernel)]; kernel_rfl) | (rw [if_neg (by decide +kernel)]; exact ⟨rfl, rfl⟩))
  (fun os started H enc _ => lifted os started H enc)
theorem proved : Rows.FnDecodeCutCardSaid :=
 holds_tied_goes_at .later [.data, .data, .data, .data, .sentinel, .sentinel, .pinned] true (true, "e066af2f78b941883bf3ccab5d05f3efad1a1c508f5e97e0f8a74c0f7d2f2a77") true over (by kernel_rfl) fnDecodeCut_row_tie rfl ⟨rfl, rfl⟩ (by kernel_rfl) rfl
  (fun f fn hf hfn => by
   obtain rfl : f = 12 := Option.some.inj ((show Tryz.prog.funcNamed "loop.example/replayverifier/laws.FnDecodeCut" = some 12 by kernel_rfl).symm.trans hf) |>.symm
   obtain rfl : fn = Tryz.f12 := (Option.some.inj (Tryz.func12.symm.trans hfn)).symm
   exact ⟨by kernel_rfl, fun j t ht => by
    rw [Tryz.params12] at ht
    have hm : t ∈ [22] := by simpa using Array.mem_of_getElem? ht
    have hall : ([22].all fun u => !Tryz.prog.wantsStandIn u) = true := by kernel_rfl
    exact (show Tryz.prog.wantsStandIn t = false by simpa using List.all_eq_true.1 hall t hm)⟩)
  (by kernel_rfl)
end Go.Proofs.YtemnlheidghbmaaGreatDoor.fnDecodeCut


/-
  FnEncode returns true for every code, and nothing that was there is written. No condition.
-/
import Derived.Test.YtemnlheidghbmaaGreatDoorRows
import Derived.MakeChecks
import Derived.LaidSub
import Derived.Lay
import Derived.LaidMore
import Derived.Test.YtemnlheidghbmaaGreatDoorTie
import Derived.Test.YtemnlheidghbmaaGreatDoorCards
import Derived.Test.YtemnlheidghbmaaGreatDoorKa3
import Derived.Test.YtemnlheidghbmaaGreatDoorKa21
import Derived.Test.YtemnlheidghbmaaGreatDoorKa29
namespace Go.Proofs.YtemnlheidghbmaaGreatDoor.fnEncode
open Go.RowKit Go.ChangeShapes Go.WideShapes Go.ChangeAt
set_option linter.unusedVariables false
theorem textW_le (r : Rep) : (textW r).size ≤ 10000 := by
 unfold textW
 split
 ·rename_i h
  obtain ⟨s1, s2, s3, s4⟩ := rep_small h
  obtain ⟨f1, f2, f3, f4, f5, f6, f7, f8⟩ := repOk_facts h
  have z1 := lnW_size (word := ⟨#[114, 101, 112, 108, 97, 121]⟩) s1
  have z2 := lnW_size (word := ⟨#[105, 110, 112, 117, 116, 115]⟩) s2
  have z3 := lnW_size (word := ⟨#[104, 97, 115, 104, 101, 115]⟩) s3
  have z4 := lnW_size (word := ⟨#[116, 97, 103]⟩) s4
  have hp : (partsW r.ins).length ≤ r.ins.length := by
   have hs := parts_spell (insOk_of h) r.ins.length (Nat.le_refl _)
   rw [List.take_length] at hs
   have : ∀ {ps : List Ent} {xs : List Inp}, Spells ps xs → ps.length ≤ xs.length := by
    intro ps xs hh
    induction hh with
    | nil => exact Nat.le_refl _
    | snoc _ _ hm _ ih => simp; omega
   exact this hs
  rw [flatP_len] at z2
  rw [encW_lines]
  simp only [ByteArray.size_append]
  have a1 : (⟨#[114, 101, 112, 108, 97, 121]⟩ : ByteArray).size = 6 := rfl
  have a2 : (⟨#[105, 110, 112, 117, 116, 115]⟩ : ByteArray).size = 6 := rfl
  have a3 : (⟨#[104, 97, 115, 104, 101, 115]⟩ : ByteArray).size = 6 := rfl
  have a4 : (⟨#[116, 97, 103]⟩ : ByteArray).size = 3 := rfl
  simp only [List.length_cons, List.length_nil] at z1 z4
  omega
 ·exact Nat.zero_le _
set_option maxRecDepth 100000 in
set_option maxHeartbeats 8000000 in
theorem walk (a0 : Option Addr) (len0 cap0 : Nat) (z0 : List Int) (w : World) (w0 : BytesIn w a0 len0 cap0 z0) (hg : Gds w) :
  Calls Tryz.prog 9 #[.slice a0 len0 cap0] w fun e w' => e = .returned (.bool true) ∧ Below w.heap.size w w' := by
 have hz := w0.bd
 obtain ⟨hr, hlc, hcm, _⟩ := w0
 by_cases hsz : (1048576 : Int) < len0
 ·clear hr hlc hcm hz
  go_enter Tryz.func9, Tryz.ntmps9
  go_wp2
  go_ret
  exact ⟨rfl, Below.refl _ _⟩
 have H1 := Lib.hid (drawReplayEncode_any a0 len0 cap0 z0 w hr hz hlc hcm)
 have HG := Lib.hid hg
 clear hr hlc hcm hz hg
 go_enter Tryz.func9, Tryz.ntmps9
 go_wp2_with fail
 refine H1.out.mono ?_
 rintro e w1 ⟨r, si, sh, rfl, hor, hb⟩
 have HOR := Lib.hid hor
 have HB := Lib.hid hb
 clear hor hb H1
 go_upto_region 4 with (fail)
 refine into_world (fun Y => Below w.heap.size w Y ∧ Blk Y w1.heap.size 33 (repC r si sh) ∧ OwRep Y r si sh) ⟨HB.out.alloc HB.out.size _, Blk.new _ _ _, HOR.out.next (ba (Below.refl _ _))⟩ ?_
 rintro W ⟨hB, hK, hO⟩
 replace HB := Lib.hid hB
 have KX := Lib.hid hK
 replace HOR := Lib.hid hO
 clear hB hK hO
 have cx := fun o => KX.out.cell o
 have fx := fun o => KX.out.frozen o
 have zx := KX.out.lt
 go_wp2_with fail
 refine (implReplayEncode_any r si sh _ (HG.out.next HB.out) HOR.out.rd).mono ?_
 rintro e w2 ⟨rfl, hb⟩
 replace KX := Lib.hid (KX.out.next hb)
 replace HOR := Lib.hid (HOR.out.next hb)
 replace HB := Lib.hid (below_next HB.out hb)
 clear hb cx fx zx
 have cx := fun o => KX.out.cell o
 have fx := fun o => KX.out.frozen o
 have zx := KX.out.lt
 go_wp2_with fail
 refine (specReplayEncode_any r si sh _ HOR.out.rd).mono ?_
 rintro e w3 ⟨rfl, hb⟩
 replace KX := Lib.hid (KX.out.next hb)
 replace HOR := Lib.hid (HOR.out.next hb)
 replace HB := Lib.hid (below_next HB.out hb)
 clear hb cx fx zx
 have cx := fun o => KX.out.cell o
 have fx := fun o => KX.out.frozen o
 have zx := KX.out.lt
 have HT := Lib.hid (show textW r = textW r from rfl)
 have HLE := Lib.hid (textW_le r)
 have HDEF := Lib.hid (show repOk r = true → textW r = encW r by intro h; simp [textW, h])
 have HNO := Lib.hid (show repOk r = false → textW r = ByteArray.empty by intro h; simp [textW, h])
 generalize textW r = T at *
 cases hem : T.toList.isEmpty
 ·have hro : repOk r = true := by
   cases h : repOk r
   ·rw [HNO.out h, Lib.toList_data] at hem
    cases hem
   ·rfl
  have HDEC := Lib.hid (show decI T = (r, true) by rw [HDEF.out hro]; exact decI_enc hro)
  have HRO := Lib.hid hro
  clear hro
  go_wp2_with fail
  refine (implReplayDecode_any T _ (HG.out.next HB.out) (by have := HLE.out; omega)).mono ?_
  rw [HDEC.out]
  rintro e w4 ⟨ti, th, rfl, hor, hb⟩
  replace KX := Lib.hid (KX.out.next hb)
  replace HOR := Lib.hid (HOR.out.next hb)
  replace HB := Lib.hid (below_next HB.out hb)
  have HTR := Lib.hid hor
  clear hb cx fx zx hor
  go_upto_region 9 with (fail)
  refine into_world (fun Y => Below w.heap.size w Y ∧ Blk Y w1.heap.size 33 (repC r si sh) ∧ OwRep Y r si sh ∧ Blk Y w4.heap.size 33 (repC r ti th) ∧ OwRep Y r ti th) ⟨HB.out.alloc HB.out.size _, KX.out.alloc _, HOR.out.next (ba (Below.refl _ _)), Blk.new _ _ _, HTR.out.next (ba (Below.refl _ _))⟩ ?_
  rintro V ⟨hB, hK, hO, hK2, hO2⟩
  replace HB := Lib.hid hB
  replace KX := Lib.hid hK
  replace HOR := Lib.hid hO
  have KY := Lib.hid hK2
  replace HTR := Lib.hid hO2
  clear hB hK hO hK2 hO2
  have cx := fun o => KX.out.cell o
  have fx := fun o => KX.out.frozen o
  have zx := KX.out.lt
  have cy := fun o => KY.out.cell o
  have fy := fun o => KY.out.frozen o
  have zy := KY.out.lt
  go_wp2_with fail
  refine (sameReplay_same r ti th si sh _ HTR.out.rd HOR.out.rd).mono ?_
  rintro e w5 ⟨rfl, hb⟩
  replace KX := Lib.hid (KX.out.next hb)
  replace HOR := Lib.hid (HOR.out.next hb)
  replace HB := Lib.hid (below_next HB.out hb)
  clear hb cx fx zx cy fy zy
  have cx := fun o => KX.out.cell o
  have fx := fun o => KX.out.frozen o
  have zx := KX.out.lt
  go_wp2_with fail
  refine (implReplayValid_any r si sh _ HOR.out.rd).mono ?_
  rw [HRO.out]
  rintro e w6 ⟨rfl, hb⟩
  replace HB := Lib.hid (below_next HB.out hb)
  clear hb
  go_wp2_with fail
  go_ret
  exact ⟨rfl, HB.out⟩
 ·go_wp2_with fail
  go_ret
  exact ⟨ret_bool (by simp), HB.out⟩
theorem own_ : ownKnob Tryz.prog.godebug = none := by kernel_rfl
theorem star_ : "*" ++ "errors.errorString" = "*errors.errorString" := by decide
theorem row_star (u : TypeId) (h : Tryz.prog.typeName? 3 u = some "*errors.errorString") : u = 291 :=
 typeName_ptr_named (nm := "errors.errorString") (by rw [star_]; kernel_rfl) (by kernel_rfl) (by decide) u (by rw [star_]; exact h)
theorem gds_of {w : World} (h : laidMetH Tryz.prog Rows.fnEncodeRow.laid w) (hs : w.ShapedOpen Tryz.prog) : Gds w := by
 rw [MakeChecks.laidMetH_plain _ _ _ (by kernel_rfl)] at h
 refine ⟨?_, ?_, ?_, ?_⟩
 ·have h1 := h.filter (fun x => x.1 == "internal/strconv.uint64pow10")
  exact Lib.tabIs_of_head (g := 12) (rest := []) (by kernel_rfl) (by kernel_rfl) Tryz.underlying280 Tryz.underlying154 (by kernel_rfl) (by kernel_rfl) h1
 ·exact cell_of_shapedOpen_int (zero := #[.int .i64 0]) (t := 3) hs (of_decide_eq_true (by kernel_rfl)) (by kernel_rfl) rfl (by kernel_rfl) (by kernel_rfl) Tryz.underlying3
 ·have h1 := h.filter (fun x => x.1 == "strconv.ErrSyntax")
  obtain ⟨a, s, hv, _⟩ := laid_sentinel (r := []) h1 (g := 10) (by kernel_rfl) (by kernel_rfl) Tryz.underlying67 row_star Tryz.underlying291 Tryz.underlying293 rfl rfl Tryz.underlying9 (by kernel_rfl) (by kernel_rfl)
  exact ⟨_, _, by have h0 := World.var?_cell (g := 10) (by kernel_rfl) hv 0; simpa using h0⟩
 ·have h1 := h.filter (fun x => x.1 == "strconv.ErrRange")
  obtain ⟨a, s, hv, _⟩ := laid_sentinel (r := []) h1 (g := 11) (by kernel_rfl) (by kernel_rfl) Tryz.underlying67 row_star Tryz.underlying291 Tryz.underlying293 rfl rfl Tryz.underlying9 (by kernel_rfl) (by kernel_rfl)
  exact ⟨_, _, by have h0 := World.var?_cell (g := 11) (by kernel_rfl) hv 0; simpa using h0⟩
set_option maxRecDepth 100000 in
theorem lifted (os : Os) (started : os.Started) (H : Type) (enc : TypeId × Value → H) :
  ReturnsInLeavingWide {} Tryz.checked os 9 .any (fun w args => (Rows.fnEncodeSpec.pre enc Tryz.prog Tryz.f9 Rows.fnEncodeRow.domain false w args ∧ laidMetH Tryz.prog Rows.fnEncodeRow.laid w) ∧ sizedMet enc Tryz.prog Tryz.f9 (OpenSpec.ofChange Rows.fnEncodeSpec) false w args) (Rows.fnEncodeSpec.post enc Tryz.prog Tryz.f9 false true false false) := by
 refine leaving_of_change (C := Tryz.checked) (X := fun w _ => laidMetH Tryz.prog Rows.fnEncodeRow.laid w) (fun _ _ _ hh h => h.of_heap hh) own_ started (by kernel_rfl) Tryz.func9
  (ChangeSpec.witness_shaped (enc := enc) (C := Tryz.checked) (os := os) (X := fun w _ => laidMetH Tryz.prog Rows.fnEncodeRow.laid w) false (World.laidAll Tryz.prog os Rows.fnEncodeRow.laid) #[.slice none 0 0] 8 (World.laidAll_os _ _ _)
   (World.shaped_of_ZipB (by kernel_rfl) (by kernel_rfl)) (by kernel_rfl) (by kernel_rfl) (by kernel_rfl)
   (by rw [MakeChecks.laidMetH_plain _ _ _ (by kernel_rfl)]; exact laidMet_laidAll _ (by kernel_rfl) (by kernel_rfl))) ?_
 intro W base args ds gs before hval0 hW hLaid hShape
 have hval : ∀ (j : Nat) t v, Tryz.f9.params[j]? = some t → args[j]? = some v → Value.okWide Tryz.prog W .any base t v := hval0
 have hW' := hW
 obtain ⟨p, q, hA0, hV, rfl, hfz, hnd⟩ := hW
 have hA : DataW.TrodAll enc Tryz.prog W 0 (fun _ => true) true Tryz.f9.params.toList args.toList ds p := hA0
 rw [Tryz.params9] at hA hval
 obtain ⟨v0, vs0, d0, ds0, p0, q0, hargs, rfl, rfl, h0, r0⟩ := trodAll_cons hA
 obtain ⟨rfl, rfl, rfl⟩ := trodAll_nil r0
 obtain rfl : args = #[v0] := by cases args; simp_all
 obtain ⟨rfl, rfl⟩ := trodVars_none hV
 obtain ⟨a0, len0, cap0, rfl⟩ := okWide_slice Tryz.underlying22 (hval 0 22 v0 rfl rfl)
 have k0 := h0
 have lt0 : ∀ x ∈ p0, x.block < W.heap.size := by obtain ⟨m, hm⟩ := k0; exact DataW.trod_lt m _ _ _ hm
 obtain ⟨z0, w0⟩ : ∃ zs, BytesIn W a0 len0 cap0 zs := by
  obtain ⟨fuel, hf⟩ := h0
  exact open_BytesIn Tryz.underlying22 Tryz.underlying5 (by kernel_rfl) (by simpa [Value.cells] using hf)
 clear hA0 hval0
 refine (walk a0 len0 cap0 z0 W w0 (gds_of hLaid hShape)).mono fun e W' ⟨he, bel⟩ => ?_
 subst he
 exact ⟨_, rfl, _, _, _, [], _, [], hW', trodAll_mk1 (shut_bool Tryz.underlying4 _), (trodAll_cons_mk (Below.trod laidOut_ (by kernel_rfl) (of_decide_eq_true (by kernel_rfl)) k0 bel lt0) trodAll_mk0), rfl, bel.frame _, fun h => by cases h⟩
theorem closed_ : joinedFacts Tryz.prog 9 Tryz.f9 Rows.fnEncodeSpec Rows.fnEncodeRow = true :=
 joined_by mayEnter_ liftsFinal_ make_ (by kernel_rfl) laidOut_ mapsRowed_ (by kernel_rfl) (by kernel_rfl) rfl stops_ rfl stopKnobs_ (by kernel_rfl) (by kernel_rfl) (by kernel_rfl) (by kernel_rfl) (by kernel_rfl) (by kernel_rfl) (by kernel_rfl) (by kernel_rfl) (by kernel_rfl) (by kernel_rfl) rfl stopsHeard_ rfl rfl rfl (by kernel_rfl)
theorem over : Rows.fnEncodeRow.holds Tryz.pinned (OpenSpec.ofChange Rows.fnEncodeSpec) :=
 OpenClaim.holds_of_wide_leaving 9 Tryz.f9 rfl rfl rfl rfl rfl rfl rfl ⟨rfl, rfl, rfl, rfl, rfl⟩ rfl rfl rfl rfl rfl (by kernel_rfl) Tryz.func9 closed_
  (of_decide_eq_true (by kernel_rfl)) (by unfold Func.isWrapper; first | (rw [if_pos (by decide +kernel)]; kernel_rfl) | (rw [if_neg (by decide +kernel)]; exact ⟨rfl, rfl⟩))
  (fun os started H enc _ => lifted os started H enc)
theorem proved : Rows.FnEncodeCardSaid :=
 holds_tied_goes_at .later [.data, .data, .data, .data, .sentinel, .sentinel, .pinned] true (true, "e066af2f78b941883bf3ccab5d05f3efad1a1c508f5e97e0f8a74c0f7d2f2a77") true over (by kernel_rfl) fnEncode_row_tie rfl ⟨rfl, rfl⟩ (by kernel_rfl) rfl
  (fun f fn hf hfn => by
   obtain rfl : f = 9 := Option.some.inj ((show Tryz.prog.funcNamed "loop.example/replayverifier/laws.FnEncode" = some 9 by kernel_rfl).symm.trans hf) |>.symm
   obtain rfl : fn = Tryz.f9 := (Option.some.inj (Tryz.func9.symm.trans hfn)).symm
   exact ⟨by kernel_rfl, fun j t ht => by
    rw [Tryz.params9] at ht
    have hm : t ∈ [22] := by simpa using Array.mem_of_getElem? ht
    have hall : ([22].all fun u => !Tryz.prog.wantsStandIn u) = true := by kernel_rfl
    exact (show Tryz.prog.wantsStandIn t = false by simpa using List.all_eq_true.1 hall t hm)⟩)
  (by kernel_rfl)
end Go.Proofs.YtemnlheidghbmaaGreatDoor.fnEncode


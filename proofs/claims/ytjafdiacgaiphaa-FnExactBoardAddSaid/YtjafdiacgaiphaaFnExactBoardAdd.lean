/-
  FnExactBoardAdd returns true for every slice of entries and every entry, and nothing that was there is written. No condition.
-/
import Derived.Test.YtjafdiacgaiphaaFr
import Derived.Test.YtjafdiacgaiphaaAi
import Derived.Test.YtjafdiacgaiphaaMk
import Derived.Deep.RegionWith
namespace Go.Proofs.Ytjafdiacgaiphaa.fnExactBoardAdd
open Go.RowKit Go.ChangeShapes Go.WideShapes Go.ChangeAt
set_option linter.unusedVariables false

theorem below_undrew {W w' : World} (h : Below W.drew.heap.size W.drew w') : Below W.heap.size W w' := ⟨h.os, h.tape, h.output, h.size, h.block⟩
theorem addE_len (es : List Ent) (x : Ent) : (addE es x).1.length ≤ es.length + 4 := by
  unfold addE
  split
  · split
    · exact Nat.le_add_right _ _
    · split
      · exact Nat.le_add_right _ _
      · unfold outE; simp only [List.length_take]; omega
  · exact Nat.zero_le _

set_option maxRecDepth 100000 in
set_option maxHeartbeats 4000000 in
theorem walk (a0 : Option Addr) (len0 cap0 : Nat) (es0 : List Ent) (x1 : Ent) (w : World) (w0 : EntsIn w a0 len0 cap0 es0) (w1 : (Lit.int .i64 x1.1).wf = true ∧ (Lit.int .i64 x1.2).wf = true) :
    Calls Try.prog 11 #[.slice a0 len0 cap0, .agg #[.int .i64 x1.1, .int .i64 x1.2]] w fun e w' => e = .returned (.bool true) ∧ Below w.heap.size w w' := by
  obtain ⟨hr, hlc, hcm, _⟩ := w0
  by_cases hsz : (1048576 : Int) < len0
  · have hsz1 := fun W => szEntryS_no a0 len0 cap0 1048576 W (Nat.le_trans hlc hcm) (by omega) (by omega) hsz
    have H := Lib.hid hsz1; clear hsz1 hr hlc hcm hsz
    go_enter Try.func11, Try.ntmps11
    go_wp2_with (go_at_call 19; refine (H.out _).mono ?_; rintro e w' ⟨rfl, rfl⟩)
    go_ret
    exact ⟨rfl, (Below.refl _ _).alloc (Nat.le_refl _) _⟩
  · have hsz1 := fun W => szEntryS_yes a0 len0 cap0 1048576 W (by omega) (by omega) (by omega)
    have H := Lib.hid hsz1; clear hsz1 
    have HB0 : Hid (Below w.heap.size w (w.alloc (.cells #[.int .i64 x1.1, .int .i64 x1.2] 42))) := (Below.refl _ _).alloc (Nat.le_refl _) _
    have HX0 := Lib.hid (Blk.new w 42 #[.int .i64 x1.1, .int .i64 x1.2])
    have HR := Lib.hid hr; clear hr
    have hn : len0 ≤ 1048576 := by omega
    have hpos : ¬ (1048576 : Int) - len0 < 0 := by omega
    clear hcm
    have hl := HR.out.len
    subst hl
    have hol := addE_len es0 x1
    go_enter Try.func11, Try.ntmps11
    go_wp2_with (go_at_call 19; refine (H.out _).mono ?_; rintro e w' ⟨rfl, rfl⟩)
    generalize hW0 : w.alloc (.cells #[.int .i64 x1.1, .int .i64 x1.2] 42) = W0 at *
    have hs0 : W0.heap.size = w.heap.size + 1 := by rw [← hW0]; simp
    have HS0 := Lib.hid hs0
    clear hW0 hs0
    have HR0 := Lib.hid (HR.out.below HB0.out)
    clear HR
    obtain ⟨HR, hHR⟩ : ∃ h : Hid (RdE W0 a0 es0.length es0), h = HR0 := ⟨_, rfl⟩
    clear hHR
    go_cut [6, 7] (fun s6 s7 wx => ∃ A2 c2, s6 = .slice A2 (addE es0 x1).1.length c2 ∧ s7 = .int .i64 (addE es0 x1).2 ∧ Hid (Below W0.heap.size W0 wx ∧ OwE W0.heap.size wx A2 (addE es0 x1).1.length c2 (addE es0 x1).1))
    case first =>
      have hx0 : W0.cell? ⟨w.heap.size, 0, none⟩ = some (.int .i64 x1.1) := HX0.out.cell 0
      have hx1 : W0.cell? ⟨w.heap.size, 1, none⟩ = some (.int .i64 x1.2) := HX0.out.cell 1
      have hlt0 := HX0.out.lt
      go_region_with (first
        | (go_at_call 21; refine (toEntryS_any _ _ _ _ _ (HR0.out.below (by go_grown)) (by omega)).mono ?_; rintro e w1 ⟨g1, rfl, hg1, hK1, hb1⟩; (try (have hk1 := (HX0.out.drew).next hb1; have hy0 : w1.cell? ⟨w.heap.size, 0, none⟩ = some (.int .i64 x1.1) := hk1.cell 0; have hy1 : w1.cell? ⟨w.heap.size, 1, none⟩ = some (.int .i64 x1.2) := hk1.cell 1; clear hk1)))
        | (go_at_call 38; refine (toEntry_any x1 _).mono ?_; rintro e w2 ⟨rfl, hb2⟩)
        | (go_at_call 37; refine (specBoardAdd_any _ _ _ es0 _ _ (by first | exact RdE.blk hK1 | exact RdE.blk (hK1.next hb2)) (by omega)).mono ?_; rintro e w3 ⟨A3, c3, rfl, hO3, hb3⟩))
      all_goals
        have HB3 : Hid (Below W0.heap.size W0 w3) := by first | exact (below_next (below_next (below_undrew hb1) hb2) hb3) | exact (below_next (below_next (below_undrew hb2) hb1) hb3)
        have HO3 := Lib.hid (hO3.mono (B' := W0.heap.size) (by first | exact Nat.le_trans (below_undrew hb1).size hb2.size | exact Nat.le_trans (below_undrew hb2).size hb1.size))
        clear hO3 hb3 hb1 hb2
        go_wp2_with fail
        go_meet
        exact ⟨A3, c3, rfl, rfl, HB3.out, HO3.out⟩
    case rest =>
    obtain ⟨A2, c2, rfl, rfl, HC2⟩ := hcut
    obtain ⟨w2, rfl⟩ : ∃ w2, w2 = wc := ⟨_, rfl⟩
    have HB2 := Lib.hid HC2.out.1
    have HO2 := Lib.hid HC2.out.2
    clear HC2
    go_wp2_with fail
    refine (toEntryS_any _ _ _ _ _ (HR.out.below HB2.out) (by omega)).mono ?_
    rintro e w3 ⟨g3, rfl, hg3, hK3, hb3⟩
    have HB3 := Lib.hid (below_next HB2.out hb3)
    have HO3 := Lib.hid (HO2.out.next hb3)
    have HK3 := Lib.hid hK3
    have HX3 := Lib.hid (HX0.out.next HB3.out)
    have hlt3 := hK3.lt
    have HNE3 := Lib.hid (fun (g : Nat) (h : A2.map (·.block) = some g) (hc : 0 < c2) => show g ≠ g3 by have := (HO2.out.lt h hc).2; omega)
    have hx0 : w3.cell? ⟨w.heap.size, 0, none⟩ = some (.int .i64 x1.1) := HX3.out.cell 0
    have hx1 : w3.cell? ⟨w.heap.size, 1, none⟩ = some (.int .i64 x1.2) := HX3.out.cell 1
    clear hb3 hK3
    go_wp2_with fail
    refine (toEntry_any x1 _).mono ?_
    rintro e w35 ⟨rfl, hb35⟩
    have HB35 := Lib.hid (below_next HB3.out hb35)
    have HO35 := Lib.hid (HO3.out.next hb35)
    have HK35 := Lib.hid (HK3.out.next hb35)
    have hs35 := hb35.size
    clear hb35 hx0 hx1
    go_wp2_with fail
    refine (implBoardAdd_any _ _ _ es0 x1 _ (RdE.blk HK35.out) (by omega) (Nat.le_refl _)).mono ?_
    rintro e w4 ⟨A4, c4, rfl, hO4, hb4⟩
    have HB4 := Lib.hid (below_next HB35.out hb4)
    have HO4 := Lib.hid (hO4.mono (B' := w3.heap.size) hs35)
    have HO24 := Lib.hid (HO35.out.next hb4)
    have HK4 := Lib.hid (HK35.out.next hb4)
    have HNE4 := Lib.hid (fun (g : Nat) (h : A4.map (·.block) = some g) (hc : 0 < c4) => show g ≠ g3 by have := (HO4.out.lt h hc).1; omega)
    have HNE24 := Lib.hid (fun (g g' : Nat) (h : A2.map (·.block) = some g) (hc : 0 < c2) (h' : A4.map (·.block) = some g') (hc' : 0 < c4) => show g ≠ g' by have h1 := (HO3.out.lt h hc).2; have h2 := (HO4.out.lt h' hc').1; omega)
    clear hb4 hO4
    go_wp2_with fail
    refine (eqEntryS_any _ _ _ _ _ _ _ _ _ HO4.out.rdE HO24.out.rdE (by omega) (by omega)).mono ?_
    rintro e w5 ⟨rfl, hb5⟩
    rw [show decide ((addE es0 x1).1 = (addE es0 x1).1) = true by simp]
    have HB5 := Lib.hid (below_next HB4.out hb5)
    have HO45 := Lib.hid (HO4.out.next hb5)
    have HO25 := Lib.hid (HO24.out.next hb5)
    have HK5 := Lib.hid (HK4.out.next hb5)
    clear hb5
    go_wp2_with fail
    refine (toEntryS_any _ _ _ _ _ (HR.out.below HB5.out) (by omega)).mono ?_
    rintro e w6 ⟨g6, rfl, hg6, hK6, hb6⟩
    have HB6 := Lib.hid (below_next HB5.out hb6)
    have HO46 := Lib.hid (HO45.out.next hb6)
    have HO26 := Lib.hid (HO25.out.next hb6)
    have HK6 := Lib.hid (HK5.out.next hb6)
    have HK66 := Lib.hid hK6
    clear hb6 hK6
    go_wp2_with fail
    refine (eqEntryS_any _ _ _ _ _ _ _ _ _ (RdE.blk HK6.out) (RdE.blk HK66.out) (by omega) (by omega)).mono ?_
    rintro e w7 ⟨rfl, hb7⟩
    rw [show decide (es0 = es0) = true by simp]
    have HB7 := Lib.hid (below_next HB6.out hb7)
    have HO47 := Lib.hid (HO46.out.next hb7)
    have HO27 := Lib.hid (HO26.out.next hb7)
    have HX7 := Lib.hid (OwE.of_blk (HK6.out.next hb7) (show es0.length ≤ 1048576 by omega) (Nat.le_refl g3))
    clear hb7
    go_wp2_with fail
    refine (markE_any g3 _ _ _ es0 _ _ HX7.out (by omega) (by omega) (by omega)).mono ?_
    rintro e w8 ⟨rfl, hx8, hg8⟩
    have hon := Only.of_own hg8
    have HB8 := Lib.hid (HB7.out.trans (hon.below (by have := HB2.out.size; omega) HB7.out.size))
    have HO48 := Lib.hid (HO47.out.only hon fun h => Nat.eq_zero_of_not_pos fun hc => HNE4.out _ h hc rfl)
    have HO28 := Lib.hid (HO27.out.only hon fun h => Nat.eq_zero_of_not_pos fun hc => HNE3.out _ h hc rfl)
    have q1 : ¬ (1 : Int) + 2 * (es0.length : Int) < 0 := by omega
    clear hx8 hg8 hon
    go_wp2_with fail
    refine (eqEntryS_any _ _ _ _ _ _ _ _ _ HO48.out.rdE HO28.out.rdE (by omega) (by omega)).mono ?_
    rintro e w9 ⟨rfl, hb9⟩
    rw [show decide ((addE es0 x1).1 = (addE es0 x1).1) = true by simp]
    have HB9 := Lib.hid (below_next HB8.out hb9)
    have HO49 := Lib.hid (HO48.out.next hb9)
    have HO29 := Lib.hid (HO28.out.next hb9)
    clear hb9
    go_wp2_with fail
    refine (markE_any w3.heap.size _ _ _ _ _ _ HO49.out (by omega) (by omega) (by omega)).mono ?_
    rintro e w10 ⟨rfl, hx10, hg10⟩
    have HO410 := Lib.hid hx10
    have HO210 := Lib.hid (HO29.out.keep fun g hg hc => hg10.block g (HO29.out.lt hg hc).2 (by
      intro h
      unfold ownB at h
      split at h
      · cases h
      · exact HNE24.out g g hg hc h.symm (by omega) rfl))
    have HB10 := Lib.hid (HO49.out.grown hg10 HB9.out (Nat.le_trans HB3.out.size (Nat.le_refl _)) HB9.out.size)
    have q2 : ¬ (1 : Int) + 2 * ((addE es0 x1).1.length : Int) < 0 := by omega
    clear hx10 hg10
    go_wp2_with fail
    refine (heldE_any _ _ _ _ _ HO410.out.rdE (by omega) (by omega) (by omega)).mono ?_
    rintro e _ ⟨rfl, rfl⟩
    have HX10 := Lib.hid (HX0.out.next HB10.out)
    have HR10 := Lib.hid (HR.out.below HB10.out)
    go_wp2_with fail
    go_cut [14, 15] (fun s6 s7 wx => ∃ A2 c2, s6 = .slice A2 (addE es0 x1).1.length c2 ∧ s7 = .int .i64 (addE es0 x1).2 ∧ Hid (Below w10.heap.size w10 wx ∧ OwE w10.heap.size wx A2 (addE es0 x1).1.length c2 (addE es0 x1).1))
    case first =>
      have hx0 : w10.cell? ⟨w.heap.size, 0, none⟩ = some (.int .i64 x1.1) := HX10.out.cell 0
      have hx1 : w10.cell? ⟨w.heap.size, 1, none⟩ = some (.int .i64 x1.2) := HX10.out.cell 1
      have hlt0 := HX10.out.lt
      go_region_with (first
        | (go_at_call 21; refine (toEntryS_any _ _ _ _ _ (HR10.out.below (by go_grown)) (by omega)).mono ?_; rintro e w1 ⟨g1, rfl, hg1, hK1, hb1⟩; (try (have hk1 := (HX10.out.drew).next hb1; have hy0 : w1.cell? ⟨w.heap.size, 0, none⟩ = some (.int .i64 x1.1) := hk1.cell 0; have hy1 : w1.cell? ⟨w.heap.size, 1, none⟩ = some (.int .i64 x1.2) := hk1.cell 1; clear hk1)))
        | (go_at_call 38; refine (toEntry_any x1 _).mono ?_; rintro e w2 ⟨rfl, hb2⟩)
        | (go_at_call 39; refine (implBoardAdd_any _ _ _ es0 _ _ (by first | exact RdE.blk hK1 | exact RdE.blk (hK1.next hb2)) (by omega) (Nat.le_refl _)).mono ?_; rintro e w3 ⟨A3, c3, rfl, hO3, hb3⟩))
      all_goals
        have HB3 : Hid (Below w10.heap.size w10 w3) := by first | exact (below_next (below_next (below_undrew hb1) hb2) hb3) | exact (below_next (below_next (below_undrew hb2) hb1) hb3)
        have HO3 := Lib.hid (hO3.mono (B' := w10.heap.size) (by first | exact Nat.le_trans (below_undrew hb1).size hb2.size | exact Nat.le_trans (below_undrew hb2).size hb1.size))
        clear hO3 hb3 hb1 hb2
        go_wp2_with fail
        go_meet
        exact ⟨A3, c3, rfl, rfl, HB3.out, HO3.out⟩
    case rest =>
    obtain ⟨A12, c12, rfl, rfl, HC12⟩ := hcut
    obtain ⟨w12, rfl⟩ : ∃ w12, w12 = wc := ⟨_, rfl⟩
    have HB12 := Lib.hid (below_next HB10.out HC12.out.1)
    have HO412 := Lib.hid (HO410.out.next HC12.out.1)
    have HO212 := Lib.hid (HO210.out.next HC12.out.1)
    have HO12 := Lib.hid HC12.out.2
    go_wp2_with fail
    refine (eqEntryS_any _ _ _ _ _ _ _ _ _ HO12.out.rdE HO212.out.rdE (by omega) (by omega)).mono ?_
    rintro e w13 ⟨rfl, hb13⟩
    rw [show decide ((addE es0 x1).1 = (addE es0 x1).1) = true by simp]
    have HB13 := Lib.hid (below_next HB12.out hb13)
    have HO413 := Lib.hid (HO412.out.next hb13)
    clear hb13
    go_wp2_with fail
    refine (heldE_any _ _ _ _ _ HO413.out.rdE (by omega) (by omega) (by omega)).mono ?_
    rintro e _ ⟨rfl, rfl⟩
    go_wp2_with fail
    go_ret
    exact ⟨rfl, HB0.out.trans (HB13.out.mono HB0.out.size)⟩

set_option maxRecDepth 100000 in
theorem lifted (os : Os) (started : os.Started) (H : Type) (enc : TypeId × Value → H) :
    ReturnsInHanded {} Try.checked os 11 .any (Rows.fnExactBoardAddSpec.pre6 enc Try.prog Try.f11 Rows.fnExactBoardAddRow.domain false) (Rows.fnExactBoardAddSpec.post enc Try.prog Try.f11 false true false false) := by
  refine returnsInHanded_of_change (C := Try.checked) own_ started (by kernel_rfl) Try.func11
    (ChangeSpec.witness6 (enc := enc) (C := Try.checked) false ⟨#[], #[.slice none 0 0, .agg #[.int .i64 0, .int .i64 0]], []⟩ 8 (by kernel_rfl) (by kernel_rfl) (by kernel_rfl) (by kernel_rfl)) ?_
  intro W base args ds gs before hval0 hW hcnd _
  have hval : ∀ (j : Nat) t v, Try.f11.params[j]? = some t → args[j]? = some v → Value.okWide Try.prog W .any base t v := hval0
  have hW' := hW
  obtain ⟨p, q, hA0, hV, rfl, hfz, hnd⟩ := hW
  have hA : DataW.TrodAll enc Try.prog W 0 (fun _ => true) true Try.f11.params.toList args.toList ds p := hA0
  rw [Try.params11] at hA hval
  obtain ⟨v0, vs0, d0, ds0, p0, q0, hargs, rfl, rfl, h0, r0⟩ := trodAll_cons hA
  obtain ⟨v1, vs1, d1, ds1, p1, q1, rfl, rfl, rfl, h1, r1⟩ := trodAll_cons r0
  obtain ⟨rfl, rfl, rfl⟩ := trodAll_nil r1
  obtain rfl : args = #[v0, v1] := by cases args; simp_all
  obtain ⟨rfl, rfl⟩ := trodVars_none hV
  obtain ⟨a0, len0, cap0, rfl⟩ := okWide_slice Try.underlying22 (hval 0 22 v0 rfl rfl)
  have k0 := h0
  have lt0 : ∀ x ∈ p0, x.block < W.heap.size := by obtain ⟨m, hm⟩ := k0; exact DataW.trod_lt m _ _ _ hm
  obtain ⟨es0, w0⟩ : ∃ es, EntsIn W a0 len0 cap0 es := by
    obtain ⟨fuel, hf⟩ := h0
    exact open_ents Try.underlying22 Try.underlying42 (by kernel_rfl) rfl rfl (by kernel_rfl) (by kernel_rfl) Try.underlying3 Try.underlying3 (by simpa [Value.cells] using hf)
  have k1 := h1
  have lt1 : ∀ x ∈ p1, x.block < W.heap.size := by obtain ⟨m, hm⟩ := k1; exact DataW.trod_lt m _ _ _ hm
  obtain ⟨x1, rfl, w1⟩ := open_ent Try.underlying42 (by kernel_rfl) (by kernel_rfl) Try.underlying3 Try.underlying3 (hval 1 42 v1 rfl rfl) h1
  clear hA0 hval0
  refine (walk a0 len0 cap0 es0 x1 W w0 w1).mono fun e W' ⟨he, bel⟩ => ?_
  subst he
  exact ⟨_, rfl, _, _, _, [], _, [], hW', trodAll_mk1 (shut_bool Try.underlying4 _), (trodAll_cons_mk (Below.trod laidOut_ (by kernel_rfl) (of_decide_eq_true (by kernel_rfl)) k0 bel lt0) (trodAll_cons_mk (Below.trod laidOut_ (by kernel_rfl) (of_decide_eq_true (by kernel_rfl)) k1 bel lt1) trodAll_mk0)), rfl, bel.frame _, fun h => by cases h⟩

theorem closed_ : joinedFacts Try.prog 11 Try.f11 Rows.fnExactBoardAddSpec Rows.fnExactBoardAddRow = true :=
  joined_by mayEnter_ liftsFinal_ make_ (by kernel_rfl) laidOut_ mapsRowed_ (by kernel_rfl) (by kernel_rfl) rfl stops_ rfl stopKnobs_ (by kernel_rfl) (by kernel_rfl) (by kernel_rfl) (by kernel_rfl) (by kernel_rfl) (by kernel_rfl) (by kernel_rfl) (by kernel_rfl) (by kernel_rfl) (by kernel_rfl) rfl stopsHeard_ rfl rfl rfl (by kernel_rfl)
theorem over : Rows.fnExactBoardAddRow.holds Try.pinned (OpenSpec.ofChange Rows.fnExactBoardAddSpec) :=
  OpenClaim.holds_of_wide 11 Try.f11 rfl rfl rfl rfl rfl rfl rfl ⟨rfl, rfl, rfl, rfl, rfl⟩ rfl rfl rfl rfl rfl (by kernel_rfl) Try.func11 closed_
    (of_decide_eq_true (by kernel_rfl)) (by unfold Func.isWrapper; first | (rw [if_pos (by decide +kernel)]; kernel_rfl) | (rw [if_neg (by decide +kernel)]; exact ⟨rfl, rfl⟩))
    (fun os started H enc _ => lifted os started H enc)

theorem proved : Rows.FnExactBoardAddSaid := over
#print axioms proved
end Go.Proofs.Ytjafdiacgaiphaa.fnExactBoardAdd

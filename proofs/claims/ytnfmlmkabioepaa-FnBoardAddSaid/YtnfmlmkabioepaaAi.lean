/-
  impl.BoardAdd, for every slice of at most 2^40 entries and every entry: the board, a new row, and the code; nothing that was there is written.
-/
import Derived.Test.YtnfmlmkabioepaaRi
import Derived.Test.YtnfmlmkabioepaaInE
namespace Go.Proofs.Ytnfmlmkabioepaa
open Go.RowKit Go.Sort

theorem below_drewN (w : World) (n : Nat) : Below w.heap.size w (w.drewN n) := ⟨rfl, rfl, rfl, Nat.le_refl _, fun _ _ => rfl⟩

section
variable (A : Option Addr) (n c : Nat) (es : List Ent) (x : Ent) (w : World)

set_option maxHeartbeats 1000000 in
theorem implAdd_bad (hr : RdE w A n es) (hn : n ≤ 1099511627776) (hc : n ≤ c) (hbad : (validE es && okE x) = false) :
    Calls Try.prog 12 #[.slice A n c, .agg #[.int .i64 x.1, .int .i64 x.2]] w (AddPost w.heap.size es x w) := by
  have hfin : addE es x = ([], 3) := by simp [addE, hbad]
  have HF := Lib.hid hfin
  clear hfin
  have hw0 : Below w.heap.size w (w.alloc (.cells #[.int .i64 x.1, .int .i64 x.2] 25)) := (Below.refl _ _).alloc (Nat.le_refl _) _
  have HR := Lib.hid (hr.below hw0)
  have HW0 := Lib.hid hw0
  have HLEN := Lib.hid hr.len
  clear hr hw0
  go_enter Try.func12, Try.ntmps12
  go_wp2_with fail
  refine (implBoardValid_v _ _ _ _ _ HR.out hn hc).mono ?_
  rintro e w1 ⟨rfl, hB1⟩
  have hw1 : Below w.heap.size w w1 := below_next HW0.out hB1
  have hbx1 : Blk w1 w.heap.size 25 #[.int .i64 x.1, .int .i64 x.2] := (Blk.new _ _ _).next hB1
  have hc0 : w1.cell? ⟨w.heap.size, 0, none⟩ = some (.int .i64 x.1) := hbx1.cell 0
  have hc1 : w1.cell? ⟨w.heap.size, 1, none⟩ = some (.int .i64 x.2) := hbx1.cell 1
  have HR1 := Lib.hid (HR.out.below hB1)
  have HW1 := Lib.hid hw1
  have HX1 := Lib.hid hbx1
  clear hw1 hbx1 hB1
  cases hv : validE es with
  | false =>
    go_wp2_with fail
    go_ret2
    unfold AddPost
    rw [HF.out]
    exact ⟨_, _, rfl, Ow.bare _ _ _ _ _, HW1.out⟩
  | true =>
    have hok : okE x = false := by simpa [hv] using hbad
    go_wp2_with fail
    refine (entryOk_any x w1).mono ?_
    rintro e w2 ⟨rfl, hB2⟩
    rw [hok]
    clear hok hbad
    have HW2 := Lib.hid (below_next HW1.out hB2)
    clear hB2 hc0 hc1
    go_wp2_with fail
    go_ret2
    unfold AddPost
    rw [HF.out]
    exact ⟨_, _, rfl, Ow.bare _ _ _ _ _, HW2.out⟩

set_option maxHeartbeats 1000000 in
theorem implAdd_worse (hr : RdE w A n es) (hn : n ≤ 1099511627776) (hc : n ≤ c) (hv : validE es = true) (hok : okE x = true) (k : Nat) (d : Ent) (hk : findE x.1 es 0 = k) (hd : es[k]? = some d) (hs : d.2 ≤ x.2) :
    Calls Try.prog 12 #[.slice A n c, .agg #[.int .i64 x.1, .int .i64 x.2]] w (AddPost w.heap.size es x w) := by
  have hfin : addE es x = (es, 1) := by simp [addE, worseE, hv, hok, hk, hd, hs]
  have HF := Lib.hid hfin
  have HV := Lib.hid hv
  have HOK := Lib.hid hok
  have HK := Lib.hid hk
  have HD := Lib.hid hd
  clear hfin hv hok hk hd
  have hw0 : Below w.heap.size w (w.alloc (.cells #[.int .i64 x.1, .int .i64 x.2] 25)) := (Below.refl _ _).alloc (Nat.le_refl _) _
  have HR := Lib.hid (hr.below hw0)
  have HW0 := Lib.hid hw0
  have HLEN := Lib.hid hr.len
  clear hr hw0
  go_enter Try.func12, Try.ntmps12
  go_wp2_with fail
  refine (implBoardValid_v _ _ _ _ _ HR.out hn hc).mono ?_
  rintro e w1 ⟨rfl, hB1⟩
  have hw1 : Below w.heap.size w w1 := below_next HW0.out hB1
  have hbx1 : Blk w1 w.heap.size 25 #[.int .i64 x.1, .int .i64 x.2] := (Blk.new _ _ _).next hB1
  have hc0 : w1.cell? ⟨w.heap.size, 0, none⟩ = some (.int .i64 x.1) := hbx1.cell 0
  have hc1 : w1.cell? ⟨w.heap.size, 1, none⟩ = some (.int .i64 x.2) := hbx1.cell 1
  have HR1 := Lib.hid (HR.out.below hB1)
  have HW1 := Lib.hid hw1
  have HX1 := Lib.hid hbx1
  clear hw1 hbx1 hB1
  rw [HV.out]
  go_wp2_with fail
  refine (entryOk_any x w1).mono ?_
  rintro e w2 ⟨rfl, hB2⟩
  rw [HOK.out]
  have HW2 := Lib.hid (below_next HW1.out hB2)
  have HX2 := Lib.hid (HX1.out.next hB2)
  have HR2 := Lib.hid (HR1.out.below hB2)
  clear hB2 hc0 hc1
  go_wp2_with fail
  refine (clone_any _ _ _ _ _ HR2.out hn).mono ?_
  rintro e w3 ⟨A3, c3, rfl, hO3, hB3⟩
  have HO3 := Lib.hid (hO3.mono (B' := w.heap.size + 1) HX2.out.lt)
  have HW3 := Lib.hid (below_next HW2.out hB3)
  have HX3 := Lib.hid (HX2.out.next hB3)
  have HR3 := Lib.hid (HR2.out.below hB3)
  have hc0 : w3.cell? ⟨w.heap.size, 0, none⟩ = some (.int .i64 x.1) := HX3.out.cell 0
  clear hO3 hB3
  go_wp2_with fail
  refine (placeOf_any _ _ _ _ _ _ HO3.out.rdE hn).mono ?_
  rintro e w4 ⟨rfl, hB4⟩
  have HO4 := Lib.hid (HO3.out.next hB4)
  have HW4 := Lib.hid (below_next HW3.out hB4)
  have HX4 := Lib.hid (HX3.out.next hB4)
  have HR4 := Lib.hid (HR3.out.below hB4)
  clear hB4 hc0
  rw [HK.out]
  have hkn : k < n := by have := (List.getElem?_eq_some_iff.1 HD.out).1; rw [HLEN.out] at this; exact this
  obtain ⟨b, off, d', rfl, hb, he', h0, h1⟩ := HO4.out.rdE.at_ hkn
  obtain rfl : d' = d := by have := HD.out; rw [this] at he'; injection he' with h; exact h.symm
  have hd1 : w4.cell? ⟨w.heap.size, 1, none⟩ = some (.int .i64 x.2) := HX4.out.cell 1
  have q1 : (0 : Int) ≤ k := by omega
  clear he'
  go_wp2_with fail
  go_quiet (fail)
  go_wp2_with fail
  go_ret2
  unfold AddPost
  rw [HF.out]
  exact ⟨_, c3, by rw [HLEN.out]; rfl, by rw [HLEN.out]; exact Ow.mono (HO4.out) (by omega), ⟨HW4.out.os, HW4.out.tape, HW4.out.output, HW4.out.size, HW4.out.block⟩⟩

set_option maxRecDepth 100000 in
set_option maxHeartbeats 4000000 in
theorem implAdd_new (hr : RdE w A n es) (hn : n ≤ 1099511627776) (hc : n ≤ c) (hv : validE es = true) (hok : okE x = true) (hk : findE x.1 es 0 = -1) :
    Calls Try.prog 12 #[.slice A n c, .agg #[.int .i64 x.1, .int .i64 x.2]] w (AddPost w.heap.size es x w) := by
  have hrest : withoutE x.1 es = es := without_none (by omega)
  have hfin : addE es x = if 4 ≤ cntE x.2 (withoutE x.1 es) then (es, 2) else (outE es x, 0) := by simp [addE, worseE, hv, hok, hk]
  have hl4 := validE_len hv
  obtain rfl := hr.len
  have HADD := Lib.hid hfin
  have HV := Lib.hid hv
  have HOK := Lib.hid hok
  have HK := Lib.hid hk
  have HREST := Lib.hid hrest
  clear hfin hv hok hk hrest
  have hw0 : Below w.heap.size w (w.alloc (.cells #[.int .i64 x.1, .int .i64 x.2] 25)) := (Below.refl _ _).alloc (Nat.le_refl _) _
  have HR := Lib.hid (hr.below hw0)
  have HW0 := Lib.hid hw0
  have HLEN := Lib.hid hr.len
  clear hr hw0
  go_enter Try.func12, Try.ntmps12
  go_wp2_with fail
  refine (implBoardValid_v _ _ _ _ _ HR.out hn hc).mono ?_
  rintro e w1 ⟨rfl, hB1⟩
  have hw1 : Below w.heap.size w w1 := below_next HW0.out hB1
  have hbx1 : Blk w1 w.heap.size 25 #[.int .i64 x.1, .int .i64 x.2] := (Blk.new _ _ _).next hB1
  have hc0 : w1.cell? ⟨w.heap.size, 0, none⟩ = some (.int .i64 x.1) := hbx1.cell 0
  have hc1 : w1.cell? ⟨w.heap.size, 1, none⟩ = some (.int .i64 x.2) := hbx1.cell 1
  have HR1 := Lib.hid (HR.out.below hB1)
  have HW1 := Lib.hid hw1
  have HX1 := Lib.hid hbx1
  clear hw1 hbx1 hB1
  rw [HV.out]
  go_wp2_with fail
  refine (entryOk_any x w1).mono ?_
  rintro e w2 ⟨rfl, hB2⟩
  rw [HOK.out]
  have HW2 := Lib.hid (below_next HW1.out hB2)
  have HX2 := Lib.hid (HX1.out.next hB2)
  have HR2 := Lib.hid (HR1.out.below hB2)
  clear hB2 hc0 hc1
  go_wp2_with fail
  refine (clone_any _ _ _ _ _ HR2.out hn).mono ?_
  rintro e w3 ⟨A3, c3, rfl, hO3, hB3⟩
  have HO3 := Lib.hid (hO3.mono (B' := w.heap.size + 1) HX2.out.lt)
  have HW3 := Lib.hid (below_next HW2.out hB3)
  have HX3 := Lib.hid (HX2.out.next hB3)
  have HR3 := Lib.hid (HR2.out.below hB3)
  have hc0 : w3.cell? ⟨w.heap.size, 0, none⟩ = some (.int .i64 x.1) := HX3.out.cell 0
  clear hO3 hB3
  go_wp2_with fail
  refine (placeOf_any _ _ _ _ _ _ HO3.out.rdE hn).mono ?_
  rintro e w4 ⟨rfl, hB4⟩
  have HO4 := Lib.hid (HO3.out.next hB4)
  have HW4 := Lib.hid (below_next HW3.out hB4)
  have HX4 := Lib.hid (HX3.out.next hB4)
  have HR4 := Lib.hid (HR3.out.below hB4)
  clear hB4 hc0
  rw [HK.out]
  go_wp2_with fail
  have HRO := Lib.hid (HO4.out.rdE)
  go_loopg [8] es.length (fun gg i wr => ∃ k : Nat, k ≤ es.length ∧ es.length - k ≤ gg ∧ i = .int .i64 k ∧ Hid (Below w4.heap.size w4 wr ∧ k + cntE x.2 (es.drop k) = cntE x.2 es))
  case atStart => exact ⟨0, Nat.zero_le _, by omega, rfl, Below.refl _ _, by simp⟩
  case round =>
    obtain ⟨k, hk, hg, rfl, HB⟩ := hrel
    have HXr := Lib.hid (HX4.out.next HB.out.1)
    have HRr := Lib.hid (HRO.out.below HB.out.1)
    have hd1 : wr.cell? ⟨w.heap.size, 1, none⟩ = some (.int .i64 x.2) := HXr.out.cell 1
    have hstop : contE x.2 es k = false → k = cntE x.2 es := fun h => contE_stop h HB.out.2
    have HSTOP := Lib.hid hstop
    clear hstop
    go_upto_region 10 with (fail)
    go_cut [52] (fun s52 wx => s52 = .bool (contE x.2 es k) ∧ Hid (Below w4.heap.size w4 wx))
    case first =>
      have g1 := fun d os => cell_regrown hd1 d os
      clear hd1
      by_cases hlt : k < es.length
      · obtain ⟨b, off, e, hA, hb, he, h0, h1⟩ := HRr.out.at_ hlt
        first | subst hA | (injection hA with hA; injection hA with hA1 hA2; subst hA1; subst hA2)
        have h1' := fun d os => cell_regrown h1 d os
        have hct : contE x.2 es k = decide (e.2 ≤ x.2) := by simp [contE, he]
        have HCT := Lib.hid hct
        clear he hct h0 h1
        refine wp_region_qb (by kernel_rfl) (by kernel_rfl) ?_
        repeat (go_big_quiet_step (fail))
        refine wpQuiet_nil ?_
        intro w5 hb5
        go_wp2_with fail
        go_meet
        exact ⟨by rw [HCT.out], below_next HB.out.1 hb5⟩
      · have hct : contE x.2 es k = false := by simp [contE, List.getElem?_eq_none (Nat.le_of_not_lt hlt)]
        have HCT := Lib.hid hct
        clear hct
        refine wp_region_qb (by kernel_rfl) (by kernel_rfl) ?_
        repeat (go_big_quiet_step (fail))
        refine wpQuiet_nil ?_
        intro w5 hb5
        go_wp2_with fail
        go_meet
        exact ⟨by rw [HCT.out], below_next HB.out.1 hb5⟩
    case rest =>
      obtain ⟨rfl, HBC⟩ := hcut
      clear hd1
      cases hct : contE x.2 es k with
      | true =>
        obtain ⟨e, he, hes⟩ := contE_get hct
        have hlt : k < es.length := (List.getElem?_eq_some_iff.1 he).1
        have HN := Lib.hid (cntE_step x.2 es k HB.out.2 e he hes)
        clear he hct
        go_wp2
        go_roundg (es.length - (k + 1))
        case measure => omega
        case rel => exact ⟨k + 1, by omega, by omega, by go_num, HBC.out, HN.out⟩
      | false =>
        have hkc := HSTOP.out hct
        clear hct
        have HWc := Lib.hid (below_at HW4.out HW4.out.size HBC.out)
        have HOc := Lib.hid (HO4.out.next HBC.out)
        have HXc := Lib.hid (HX4.out.next HBC.out)
        have HRc := Lib.hid (HR4.out.below HBC.out)
        have hle := cntE_le x.2 es
        by_cases h4 : k = 4
        · have hfin : addE es x = (es, 2) := by rw [HADD.out, HREST.out, if_pos (by omega)]
          have HF := Lib.hid hfin
          have h4' : (k : Int) = 4 := by omega
          clear hfin hkc hle hg hl4 hk h4
          go_wp2_with fail
          refine (clone_any _ _ _ _ _ HRc.out hn).mono ?_
          rintro e w6 ⟨A6, c6, rfl, hO6, hB6⟩
          have HO6 := Lib.hid (hO6.mono HWc.out.size)
          have HB6 := Lib.hid (below_next HWc.out hB6)
          clear hO6 hB6
          go_wp2
          go_ret2
          unfold AddPost
          rw [HF.out]
          exact ⟨A6, c6, by first | rfl | (rw [HLEN.out]; rfl), by first | exact HO6.out | (rw [HLEN.out]; exact HO6.out), HB6.out⟩
        · have hout : outE es x = (es.take k ++ [x] ++ es.drop k).take 4 := by unfold outE; rw [HREST.out, ← hkc]
          have hfin : addE es x = (outE es x, 0) := by rw [HADD.out, HREST.out, if_neg (by omega)]
          rw [hout] at hfin
          have HF := Lib.hid hfin
          clear hfin hout hkc
          have hc0 : wc.cell? ⟨w.heap.size, 0, none⟩ = some (.int .i64 x.1) := HXc.out.cell 0
          have hc1 : wc.cell? ⟨w.heap.size, 1, none⟩ = some (.int .i64 x.2) := HXc.out.cell 1
          have h4' : ¬ (k : Int) = 4 := by omega
          have HKL := Lib.hid hk
          clear hle hg hk h4
          go_wp2_with fail
          refine (insE_any (w.heap.size + 1) _ es.length _ k (cellsE es) (cellsE [x]) wc.heap.size 1 _ _ _ (HOc.out.alloc _) (Blk.new _ _ _) (Src.blk (Blk.new _ _ _) rfl) (fun g hg hc6 => Nat.ne_of_lt (HOc.out.lt hg hc6).2) (cellsE_one _) (cellsE_one _) HKL.out (by omega) (by have := HXc.out.lt; simp; omega)).mono ?_
          rintro e w6 ⟨A6, c6, rfl, hO6, hB6⟩
          have hle6 := hO6.le
          rw [cellsE_take, cellsE_drop, ← cellsE_append, ← cellsE_append] at hO6
          have HO6 := Lib.hid hO6
          have HB6 := Lib.hid ((HWc.out.alloc HWc.out.size _).trans (hB6.mono (by omega)))
          clear hO6 hB6 hc0 hc1
          have hll : (es.take k ++ [x] ++ es.drop k).length = es.length + 1 := by have := HKL.out; simp; omega
          have HLL := Lib.hid hll
          clear hll
          obtain ⟨g6, cur6, rfl, hB6', hb6, _, hcm6, hsz6, htk6⟩ := HO6.out.blk (by omega)
          have HTK6 := Lib.hid htk6
          have HSZ6 := Lib.hid hsz6
          have HBK6 := Lib.hid hb6
          clear htk6 hsz6 hb6
          by_cases h5 : es.length + 1 ≤ 4
          · have q1 : ¬ (4 : Int) < (es.length : Int) + 1 := by omega
            have q4 : ((es.length : Int) + 1).toNat = es.length + 1 := by omega
            have q2 : (0 : Int) ≤ (es.length : Int) + 1 := by omega
            have q3 : ((es.length : Int) + 1) ≤ c6 := by omega
            go_wp2_with fail
            all_goals try (exfalso; omega)
            go_ret2
            unfold AddPost
            rw [HF.out, List.take_of_length_le (by rw [HLL.out]; exact h5)]
            exact ⟨_, c6, by rw [HLL.out]; rfl, by rw [HLL.out]; exact Ow.mono HO6.out (by omega), HB6.out⟩
          · have q1 : (4 : Int) < (es.length : Int) + 1 := by omega
            have q3 : 4 ≤ c6 := by omega
            have q4 : (4 : Int) ≤ c6 := by omega
            go_wp2_with fail
            all_goals try (exfalso; omega)
            go_ret2
            unfold AddPost
            have h4l : ((es.take k ++ [x] ++ es.drop k).take 4).length = 4 := by rw [List.length_take, HLL.out]; omega
            rw [HF.out]
            refine ⟨some ⟨g6, 0, none⟩, c6, by rw [h4l]; rfl, ?_, HB6.out⟩
            rw [h4l]
            refine Ow.mk_ (by rw [cellsE_length, h4l]) (by omega) HBK6.out q3 hcm6 HSZ6.out ?_
            rw [← cellsE_take, ← HTK6.out, List.take_take]
            congr 1
            omega

set_option maxRecDepth 100000 in
set_option maxHeartbeats 4000000 in
theorem implAdd_better (hr : RdE w A n es) (hn : n ≤ 1099511627776) (hc : n ≤ c) (hv : validE es = true) (hok : okE x = true) (k : Nat) (d : Ent) (hk : findE x.1 es 0 = k) (hd : es[k]? = some d) (hp : d.1 = x.1) (hs : ¬ d.2 ≤ x.2) :
    Calls Try.prog 12 #[.slice A n c, .agg #[.int .i64 x.1, .int .i64 x.2]] w (AddPost w.heap.size es x w) := by
  have hwi := without_at hv hd hp
  have hfin : addE es x = if 4 ≤ cntE x.2 (withoutE x.1 es) then (es, 2) else (outE es x, 0) := by simp [addE, worseE, hv, hok, hk, hd, hs]
  have hl4' := validE_len hv
  have hkn : k < n := by have := (List.getElem?_eq_some_iff.1 hd).1; rw [hr.len] at this; exact this
  obtain ⟨rest, hrest⟩ : ∃ rest, rest = es.take k ++ es.drop (k + 1) := ⟨_, rfl⟩
  have hlr : rest.length = n - 1 := by rw [hrest, List.length_append, List.length_take, List.length_drop, hr.len]; omega
  have hl4 : rest.length ≤ 4 := by rw [hlr, ← hr.len]; omega
  have hnr : n = rest.length + 1 := by omega
  obtain ⟨K, hK⟩ : ∃ K, K = k + 1 := ⟨_, rfl⟩
  have qw : IntKind.i64.wrap ((k : Int) + 1) = (K : Int) := by rw [IntWalk.i64_in _ (by omega), hK]; push_cast; rfl
  have HKK := Lib.hid hK
  have HADD := Lib.hid hfin
  have HV := Lib.hid hv
  have HOK := Lib.hid hok
  have HK := Lib.hid hk
  have HD := Lib.hid hd
  have HR0 := Lib.hid hrest
  have HREST := Lib.hid (hwi.trans hrest.symm)
  have HLR := Lib.hid hlr
  clear hfin hv hok hk hrest hwi hd hl4' hp hlr hnr hK
  have hw0 : Below w.heap.size w (w.alloc (.cells #[.int .i64 x.1, .int .i64 x.2] 25)) := (Below.refl _ _).alloc (Nat.le_refl _) _
  have HR := Lib.hid (hr.below hw0)
  have HW0 := Lib.hid hw0
  have HLEN := Lib.hid hr.len
  clear hr hw0
  go_enter Try.func12, Try.ntmps12
  go_wp2_with fail
  refine (implBoardValid_v _ _ _ _ _ HR.out hn hc).mono ?_
  rintro e w1 ⟨rfl, hB1⟩
  have hw1 : Below w.heap.size w w1 := below_next HW0.out hB1
  have hbx1 : Blk w1 w.heap.size 25 #[.int .i64 x.1, .int .i64 x.2] := (Blk.new _ _ _).next hB1
  have hc0 : w1.cell? ⟨w.heap.size, 0, none⟩ = some (.int .i64 x.1) := hbx1.cell 0
  have hc1 : w1.cell? ⟨w.heap.size, 1, none⟩ = some (.int .i64 x.2) := hbx1.cell 1
  have HR1 := Lib.hid (HR.out.below hB1)
  have HW1 := Lib.hid hw1
  have HX1 := Lib.hid hbx1
  clear hw1 hbx1 hB1
  rw [HV.out]
  go_wp2_with fail
  refine (entryOk_any x w1).mono ?_
  rintro e w2 ⟨rfl, hB2⟩
  rw [HOK.out]
  have HW2 := Lib.hid (below_next HW1.out hB2)
  have HX2 := Lib.hid (HX1.out.next hB2)
  have HR2 := Lib.hid (HR1.out.below hB2)
  clear hB2 hc0 hc1
  go_wp2_with fail
  refine (clone_any _ _ _ _ _ HR2.out hn).mono ?_
  rintro e w3 ⟨A3, c3, rfl, hO3, hB3⟩
  have HO3 := Lib.hid (hO3.mono (B' := w.heap.size + 1) HX2.out.lt)
  have HW3 := Lib.hid (below_next HW2.out hB3)
  have HX3 := Lib.hid (HX2.out.next hB3)
  have HR3 := Lib.hid (HR2.out.below hB3)
  have hc0 : w3.cell? ⟨w.heap.size, 0, none⟩ = some (.int .i64 x.1) := HX3.out.cell 0
  clear hO3 hB3
  go_wp2_with fail
  refine (placeOf_any _ _ _ _ _ _ HO3.out.rdE hn).mono ?_
  rintro e w4 ⟨rfl, hB4⟩
  have HO4 := Lib.hid (HO3.out.next hB4)
  have HW4 := Lib.hid (below_next HW3.out hB4)
  have HX4 := Lib.hid (HX3.out.next hB4)
  have HR4 := Lib.hid (HR3.out.below hB4)
  clear hB4 hc0
  rw [HK.out]
  obtain ⟨b, off, d', rfl, hb, he', h0, h1⟩ := HO4.out.rdE.at_ hkn
  obtain rfl : d' = d := by have := HD.out; rw [this] at he'; injection he' with h; exact h.symm
  have hd1 : w4.cell? ⟨w.heap.size, 1, none⟩ = some (.int .i64 x.2) := HX4.out.cell 1
  have q1 : (0 : Int) ≤ k := by omega
  have q2 : decide (d'.2 ≤ x.2) = false := by simpa using hs
  clear he'
  go_wp2_with fail
  go_quiet (fail)
  clear h0 h1 hd1
  go_wp2_with fail
  have hdr := below_drewN w4 nq
  have HO4 := Lib.hid (HO4.out.next hdr)
  have HX4 := Lib.hid (HX4.out.next hdr)
  have HR4 := Lib.hid (HR4.out.below hdr)
  have HW4 := Lib.hid (HW4.out.trans (hdr.mono HW4.out.size))
  generalize w4.drewN nq = wd at *
  clear hdr
  refine (delete_any (w.heap.size + 1) _ n c3 k K es _ (HO4.out) hkn HKK.out hn (Nat.succ_le_of_lt HX4.out.lt)).mono ?_
  rintro e w5 ⟨rfl, hO5, hb5⟩
  rw [← HR0.out, ← HLR.out] at hO5
  rw [← HLR.out]
  have HW5 := Lib.hid (HW4.out.trans (hb5.mono (by omega)))
  have HO5 := Lib.hid hO5
  have HX5 := Lib.hid (HX4.out.below hb5 (by omega))
  obtain ⟨bA, offA, hA, hbA, _⟩ := HR.out.2 (by omega)
  have HR5 := Lib.hid (HR4.out.keep hb5.size fun a ha o => by rw [hA] at ha; injection ha with ha; subst ha; exact hb5.cell (p := ⟨bA, o, none⟩) (by simpa using hbA))
  clear hO5 hb5 q2 hA hbA
  go_wp2_with fail
  have HRO := Lib.hid (HO5.out.rdE)
  go_loopg [8] rest.length (fun gg i wr => ∃ k : Nat, k ≤ rest.length ∧ rest.length - k ≤ gg ∧ i = .int .i64 k ∧ Hid (Below w5.heap.size w5 wr ∧ k + cntE x.2 (rest.drop k) = cntE x.2 rest))
  case atStart => exact ⟨0, Nat.zero_le _, by omega, rfl, Below.refl _ _, by simp⟩
  case round =>
    obtain ⟨k, hk, hg, rfl, HB⟩ := hrel
    have HXr := Lib.hid (HX5.out.next HB.out.1)
    have HRr := Lib.hid (HRO.out.below HB.out.1)
    have hd1 : wr.cell? ⟨w.heap.size, 1, none⟩ = some (.int .i64 x.2) := HXr.out.cell 1
    have hstop : contE x.2 rest k = false → k = cntE x.2 rest := fun h => contE_stop h HB.out.2
    have HSTOP := Lib.hid hstop
    clear hstop
    go_upto_region 10 with (fail)
    go_cut [52] (fun s52 wx => s52 = .bool (contE x.2 rest k) ∧ Hid (Below w5.heap.size w5 wx))
    case first =>
      have g1 := fun d os => cell_regrown hd1 d os
      clear hd1
      by_cases hlt : k < rest.length
      · obtain ⟨b, off, e, hA, hb, he, h0, h1⟩ := HRr.out.at_ hlt
        first | subst hA | (injection hA with hA; injection hA with hA1 hA2; subst hA1; subst hA2)
        have h1' := fun d os => cell_regrown h1 d os
        have hct : contE x.2 rest k = decide (e.2 ≤ x.2) := by simp [contE, he]
        have HCT := Lib.hid hct
        clear he hct h0 h1
        refine wp_region_qb (by kernel_rfl) (by kernel_rfl) ?_
        repeat (go_big_quiet_step (fail))
        refine wpQuiet_nil ?_
        intro w5 hb5
        go_wp2_with fail
        go_meet
        exact ⟨by rw [HCT.out], below_next HB.out.1 hb5⟩
      · have hct : contE x.2 rest k = false := by simp [contE, List.getElem?_eq_none (Nat.le_of_not_lt hlt)]
        have HCT := Lib.hid hct
        clear hct
        refine wp_region_qb (by kernel_rfl) (by kernel_rfl) ?_
        repeat (go_big_quiet_step (fail))
        refine wpQuiet_nil ?_
        intro w5 hb5
        go_wp2_with fail
        go_meet
        exact ⟨by rw [HCT.out], below_next HB.out.1 hb5⟩
    case rest =>
      obtain ⟨rfl, HBC⟩ := hcut
      clear hd1
      cases hct : contE x.2 rest k with
      | true =>
        obtain ⟨e, he, hes⟩ := contE_get hct
        have hlt : k < rest.length := (List.getElem?_eq_some_iff.1 he).1
        have HN := Lib.hid (cntE_step x.2 rest k HB.out.2 e he hes)
        clear he hct
        go_wp2
        go_roundg (rest.length - (k + 1))
        case measure => omega
        case rel => exact ⟨k + 1, by omega, by omega, by go_num, HBC.out, HN.out⟩
      | false =>
        have hkc := HSTOP.out hct
        clear hct
        have HWc := Lib.hid (below_at HW5.out HW5.out.size HBC.out)
        have HOc := Lib.hid (HO5.out.next HBC.out)
        have HXc := Lib.hid (HX5.out.next HBC.out)
        have HRc := Lib.hid (HR5.out.below HBC.out)
        have hle := cntE_le x.2 rest
        by_cases h4 : k = 4
        · have hfin : addE es x = (es, 2) := by rw [HADD.out, HREST.out, if_pos (by omega)]
          have HF := Lib.hid hfin
          have h4' : (k : Int) = 4 := by omega
          clear hfin hkc hle hg hl4 hk h4
          go_wp2_with fail
          refine (clone_any _ _ _ _ _ HRc.out hn).mono ?_
          rintro e w6 ⟨A6, c6, rfl, hO6, hB6⟩
          have HO6 := Lib.hid (hO6.mono HWc.out.size)
          have HB6 := Lib.hid (below_next HWc.out hB6)
          clear hO6 hB6
          go_wp2
          go_ret2
          unfold AddPost
          rw [HF.out]
          exact ⟨A6, c6, by first | rfl | (rw [HLEN.out]; rfl), by first | exact HO6.out | (rw [HLEN.out]; exact HO6.out), HB6.out⟩
        · have hout : outE es x = (rest.take k ++ [x] ++ rest.drop k).take 4 := by unfold outE; rw [HREST.out, ← hkc]
          have hfin : addE es x = (outE es x, 0) := by rw [HADD.out, HREST.out, if_neg (by omega)]
          rw [hout] at hfin
          have HF := Lib.hid hfin
          clear hfin hout hkc
          have hc0 : wc.cell? ⟨w.heap.size, 0, none⟩ = some (.int .i64 x.1) := HXc.out.cell 0
          have hc1 : wc.cell? ⟨w.heap.size, 1, none⟩ = some (.int .i64 x.2) := HXc.out.cell 1
          have h4' : ¬ (k : Int) = 4 := by omega
          have HKL := Lib.hid hk
          clear hle hg hk h4
          go_wp2_with fail
          refine (insE_any (w.heap.size + 1) _ rest.length _ k (cellsE rest) (cellsE [x]) wc.heap.size 1 _ _ _ (HOc.out.alloc _) (Blk.new _ _ _) (Src.blk (Blk.new _ _ _) rfl) (fun g hg hc6 => Nat.ne_of_lt (HOc.out.lt hg hc6).2) (cellsE_one _) (cellsE_one _) HKL.out (by omega) (by have := HXc.out.lt; simp; omega)).mono ?_
          rintro e w6 ⟨A6, c6, rfl, hO6, hB6⟩
          have hle6 := hO6.le
          rw [cellsE_take, cellsE_drop, ← cellsE_append, ← cellsE_append] at hO6
          have HO6 := Lib.hid hO6
          have HB6 := Lib.hid ((HWc.out.alloc HWc.out.size _).trans (hB6.mono (by omega)))
          clear hO6 hB6 hc0 hc1
          have hll : (rest.take k ++ [x] ++ rest.drop k).length = rest.length + 1 := by have := HKL.out; simp; omega
          have HLL := Lib.hid hll
          clear hll
          obtain ⟨g6, cur6, rfl, hB6', hb6, _, hcm6, hsz6, htk6⟩ := HO6.out.blk (by omega)
          have HTK6 := Lib.hid htk6
          have HSZ6 := Lib.hid hsz6
          have HBK6 := Lib.hid hb6
          clear htk6 hsz6 hb6
          by_cases h5 : rest.length + 1 ≤ 4
          · have q1 : ¬ (4 : Int) < (rest.length : Int) + 1 := by omega
            have q4 : ((rest.length : Int) + 1).toNat = rest.length + 1 := by omega
            have q2 : (0 : Int) ≤ (rest.length : Int) + 1 := by omega
            have q3 : ((rest.length : Int) + 1) ≤ c6 := by omega
            go_wp2_with fail
            all_goals try (exfalso; omega)
            go_ret2
            unfold AddPost
            rw [HF.out, List.take_of_length_le (by rw [HLL.out]; exact h5)]
            exact ⟨_, c6, by rw [HLL.out]; rfl, by rw [HLL.out]; exact Ow.mono HO6.out (by omega), HB6.out⟩
          · have q1 : (4 : Int) < (rest.length : Int) + 1 := by omega
            have q3 : 4 ≤ c6 := by omega
            have q4 : (4 : Int) ≤ c6 := by omega
            go_wp2_with fail
            all_goals try (exfalso; omega)
            go_ret2
            unfold AddPost
            have h4l : ((rest.take k ++ [x] ++ rest.drop k).take 4).length = 4 := by rw [List.length_take, HLL.out]; omega
            rw [HF.out]
            refine ⟨some ⟨g6, 0, none⟩, c6, by rw [h4l]; rfl, ?_, HB6.out⟩
            rw [h4l]
            refine Ow.mk_ (by rw [cellsE_length, h4l]) (by omega) HBK6.out q3 hcm6 HSZ6.out ?_
            rw [← cellsE_take, ← HTK6.out, List.take_take]
            congr 1
            omega

theorem implBoardAdd_any (hr : RdE w A n es) (hn : n ≤ 1099511627776) (hc : n ≤ c) :
    Calls Try.prog 12 #[.slice A n c, .agg #[.int .i64 x.1, .int .i64 x.2]] w (AddPost w.heap.size es x w) := by
  cases hv : validE es with
  | false => exact implAdd_bad A n c es x w hr hn hc (by rw [hv]; rfl)
  | true =>
    cases hok : okE x with
    | false => exact implAdd_bad A n c es x w hr hn hc (by rw [hok, Bool.and_false])
    | true =>
      rcases findE_or x.1 es 0 with hf | hf
      · exact implAdd_new A n c es x w hr hn hc hv hok hf
      · obtain ⟨k, d, hk, hd, hp⟩ := findE_ok hf
        by_cases hs : d.2 ≤ x.2
        · exact implAdd_worse A n c es x w hr hn hc hv hok k d hk hd hs
        · exact implAdd_better A n c es x w hr hn hc hv hok k d hk hd hp hs
end
end Go.Proofs.Ytnfmlmkabioepaa

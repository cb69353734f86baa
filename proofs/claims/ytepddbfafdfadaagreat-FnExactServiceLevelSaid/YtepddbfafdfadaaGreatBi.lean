/-
  What the program's inRange, entryOk, placeOf (by slices.IndexFunc) and BoardValid return, for every slice of entries.
-/
import Derived.Test.YtepddbfafdfadaaGreatBs
namespace Go.Proofs.YtepddbfafdfadaaGreat
open Go.RowKit Go.Sort

set_option maxHeartbeats 400000 in
theorem inRange_any (n lo hi : Int) (w : World) :
    Calls Tryz.prog 81 #[.int .i64 n, .int .i64 lo, .int .i64 hi] w fun e w' => e = .returned (.bool (inR n lo hi)) ∧ w = w' := by
  go_enter Tryz.func81, Tryz.ntmps81
  go_wp2
  all_goals go_ret
  all_goals exact ⟨ret_bool (by simp [inR]; omega), rfl⟩

set_option maxHeartbeats 400000 in
theorem entryOk_any (x : Ent) (w : World) :
    Calls Tryz.prog 77 #[.agg #[.int .i64 x.1, .int .i64 x.2]] w fun e w' => e = .returned (.bool (okE x)) ∧ Below w.heap.size w w' := by
  go_enter Tryz.func77, Tryz.ntmps77
  go_wp2_with (first | (go_at_call 81; refine (inRange_any _ _ _ _).mono ?_; rintro e w' ⟨rfl, rfl⟩))
  all_goals go_ret
  all_goals exact ⟨ret_bool (by simp [okE, *]), (Below.refl _ _).alloc (Nat.le_refl _) _⟩

set_option maxHeartbeats 400000 in
theorem placeOf1_any (x : Ent) (p : Int) (g : Nat) (w : World) (hp : w.cell? ⟨g, 0, none⟩ = some (.int .i64 p)) :
    Calls Tryz.prog 122 #[.agg #[.int .i64 x.1, .int .i64 x.2], .pointer (some ⟨g, 0, none⟩)] w fun e w' => e = .returned (.bool (x.1 == p)) ∧ Below w.heap.size w w' := by
  have hg := World.block_lt_of_cell? _ _ hp
  simp at hg
  go_enter Tryz.func122, Tryz.ntmps122
  go_wp2
  go_ret
  exact ⟨rfl, (Below.refl _ _).alloc (Nat.le_refl _) _⟩

set_option maxHeartbeats 400000 in
theorem indexFuncE_any (A : Option Addr) (n c : Nat) (es : List Ent) (p : Int) (g : Nat) (w : World) (hr : RdE w A n es) (hp : w.cell? ⟨g, 0, none⟩ = some (.int .i64 p)) (hn : n ≤ 1099511627776) :
    Calls Tryz.prog 121 #[.slice A n c, .func (.func 122) #[] #[.pointer (some ⟨g, 0, none⟩)]] w fun e w' => e = .returned (.int .i64 (findE p es 0)) ∧ Below w.heap.size w w' := by
  have HR := Lib.hid hr; clear hr
  have hg := World.block_lt_of_cell? _ _ hp
  have HP := Lib.hid hp; clear hp
  simp at hg
  go_enter Tryz.func121, Tryz.ntmps121
  go_wp2
  go_loopw [8] (fun i wr => ∃ k : Nat, k ≤ n ∧ i = .int .i64 k ∧ Hid (Below w.heap.size w wr ∧ findE p es 0 = findE p (es.drop k) k)) (fun i _ => n - (intOf i).toNat)
  case atStart => exact ⟨0, Nat.zero_le _, rfl, Below.refl _ _, rfl⟩
  case round =>
    obtain ⟨k, hk, rfl, HF⟩ := hrel
    by_cases hlt : k < n
    · obtain ⟨b, off, e, rfl, hb, he, h0, h1⟩ := (HR.out.below HF.out.1).at_ hlt
      have HS := Lib.hid (findE_step p es k e he)
      have hp1 := ((bcell HF.out.1).1 g 0 hg).trans HP.out
      clear he
      have c1 := placeOf1_any e p g wr hp1
      clear hp1
      by_cases hp : e.1 = p
      · have hq : (e.1 == p) = true := by simpa using hp
        rw [hq] at c1
        have C1 := Lib.hid c1
        have HP := Lib.hid hp; clear hp c1 hq
        go_wp2_with (first | (go_at_call 122; refine C1.out.mono ?_; rintro e w' ⟨rfl, hb1⟩))
        go_ret
        exact ⟨ret_int (by rw [HF.out.2, HS.out, if_pos HP.out]), below_next HF.out.1 hb1⟩
      · have hq : (e.1 == p) = false := by simpa using hp
        rw [hq] at c1
        have C1 := Lib.hid c1
        have HP := Lib.hid hp; clear hp c1 hq
        go_wp2_with (first | (go_at_call 122; refine C1.out.mono ?_; rintro e w' ⟨rfl, hb1⟩))
        exact ⟨⟨k + 1, by omega, by go_num, below_next HF.out.1 hb1, by rw [HF.out.2, HS.out, if_neg HP.out]⟩, by simp [intOf]; omega⟩
    · go_wp2
      go_ret
      have : k = n := by omega
      exact ⟨ret_int (by rw [HF.out.2, List.drop_of_length_le (by rw [HR.out.len]; omega)]; rfl), HF.out.1⟩

set_option maxHeartbeats 400000 in
theorem placeOf_any (A : Option Addr) (n c : Nat) (es : List Ent) (p : Int) (w : World) (hr : RdE w A n es) (hn : n ≤ 1099511627776) :
    Calls Tryz.prog 78 #[.slice A n c, .int .i64 p] w fun e w' => e = .returned (.int .i64 (findE p es 0)) ∧ Below w.heap.size w w' := by
  have c1 := indexFuncE_any A n c es p w.heap.size (w.alloc (.cells #[.int .i64 p] 3)) (hr.below ((Below.refl _ _).alloc (Nat.le_refl _) _)) (by simp [go_sem]) hn
  have C1 := Lib.hid c1; clear c1 hr
  go_enter Tryz.func78, Tryz.ntmps78
  go_wp2_with (first | (go_at_call 121; refine C1.out.mono ?_; rintro e w' ⟨rfl, hb1⟩))
  go_ret
  exact ⟨rfl, below_next ((Below.refl _ _).alloc (Nat.le_refl _) _) hb1⟩

set_option maxHeartbeats 1000000 in
theorem implBoardValid_any (A : Option Addr) (n c : Nat) (es : List Ent) (w : World) (hr : RdE w A n es) (hn : n ≤ 1099511627776) (hc : n ≤ c) :
    Calls Tryz.prog 29 #[.slice A n c] w fun e w' => e = .returned (.bool (decide ((n : Int) ≤ 4) && valliE es)) ∧ Below w.heap.size w w' := by
  have HR := Lib.hid hr; clear hr
  by_cases h4 : n ≤ 4
  · have h4' : ¬ (4 : Int) < n := by omega
    go_enter Tryz.func29, Tryz.ntmps29
    go_wp2
    go_loopw [10] (fun i wr => ∃ k : Nat, k ≤ n ∧ i = .int .i64 k ∧ Hid (Below w.heap.size w wr ∧ ∀ j, j < k → vriE es j = true)) (fun i _ => n - (intOf i).toNat)
    case atStart => exact ⟨0, Nat.zero_le _, rfl, Below.refl _ _, fun j hj => absurd hj (by omega)⟩
    case round =>
      obtain ⟨k, hk, rfl, HB⟩ := hrel
      by_cases hlt : k < n
      · obtain ⟨b, off, e, hA, hb, he, h0, h1⟩ := (HR.out.below HB.out.1).at_ hlt
        have hrd := HR.out.below HB.out.1
        have hv : vriE es k = (okE e && !(decide (0 ≤ findE e.1 (es.take k) 0)) && !(decide (0 < k) && decide (e.2 < prevE es k))) := by simp [vriE, he]
        have hlen := HR.out.len
        subst hA
        have HL := Lib.hid hlen
        have HV := Lib.hid hv
        have HRD := Lib.hid hrd
        have hx0 : ∀ d os, (grow (redrawn (wr.alloc (.cells #[.int .i64 e.1, .int .i64 e.2] 67)) d) os).cell? ⟨wr.heap.size, 0, none⟩ = some (.int .i64 e.1) := fun d os => cell_regrown (by simp [go_sem]) d os
        have hx1 : ∀ d os, (grow (redrawn (wr.alloc (.cells #[.int .i64 e.1, .int .i64 e.2] 67)) d) os).cell? ⟨wr.heap.size, 1, none⟩ = some (.int .i64 e.2) := fun d os => cell_regrown (by simp [go_sem]) d os
        have hw1 : Below wr.heap.size wr (wr.alloc (.cells #[.int .i64 e.1, .int .i64 e.2] 67)) := (Below.refl _ _).alloc (Nat.le_refl _) _
        have hrd1 := hrd.below hw1
        have HW1 := Lib.hid hw1
        have HRD := Lib.hid hrd1
        have hkc : (k : Int) ≤ c := by omega
        clear he hv hrd hlen hw1 hrd1
        cases hok : okE e with
        | false =>
          go_wp2
          refine wp_region_qb (by kernel_rfl) (by kernel_rfl) ?_
          repeat (go_big_quiet_step (first | (go_at_call 77; exact Calls.regrown_of (entryOk_any _ _)) | (go_at_call 78; exact Calls.regrown_of (placeOf_any _ _ _ _ _ _ ((HRD.out.take (k := k) (by omega)).below (below_regrown _ _ _)) (by omega)))))
          refine wpQuiet_nil ?_
          intro w1 hb1
          go_wp2
          go_ret
          exact ⟨ret_bool (by rw [valliE_false (k := k) (by rw [HL.out]; exact hlt) (by rw [HV.out, hok]; rfl)]), below_next (below_next HB.out.1 HW1.out) hb1⟩
        | true =>
          by_cases hf : 0 ≤ findE e.1 (es.take k) 0
          · go_wp2
            refine wp_region_qb (by kernel_rfl) (by kernel_rfl) ?_
            repeat (go_big_quiet_step (first | (go_at_call 77; exact Calls.regrown_of (entryOk_any _ _)) | (go_at_call 78; exact Calls.regrown_of (placeOf_any _ _ _ _ _ _ ((HRD.out.take (k := k) (by omega)).below (below_regrown _ _ _)) (by omega)))))
            refine wpQuiet_nil ?_
            intro w1 hb1
            go_wp2
            go_ret
            exact ⟨ret_bool (by rw [valliE_false (k := k) (by rw [HL.out]; exact hlt) (by rw [HV.out]; simp [hok, hf])]), below_next (below_next HB.out.1 HW1.out) hb1⟩
          · have hfb : decide (0 ≤ findE e.1 (es.take k) 0) = false := by simpa using hf
            by_cases hk0 : 0 < k
            · obtain ⟨b', off', e', hA', hb', he', h2, h3⟩ := HRD.out.at_ (k := k - 1) (by omega)
              obtain ⟨rfl, rfl⟩ : b = b' ∧ off = off' := by simpa using hA'
              have hpv : prevE es k = e'.2 := by simp [prevE, he']
              rw [hpv] at HV
              have h3' := fun d os => cell_regrown h3 d os
              clear hA' hb' he' h2 h3 hpv
              by_cases hs : e.2 < e'.2
              · go_wp2
                refine wp_region_qb (by kernel_rfl) (by kernel_rfl) ?_
                repeat (go_big_quiet_step (first | (go_at_call 77; exact Calls.regrown_of (entryOk_any _ _)) | (go_at_call 78; exact Calls.regrown_of (placeOf_any _ _ _ _ _ _ ((HRD.out.take (k := k) (by omega)).below (below_regrown _ _ _)) (by omega)))))
                refine wpQuiet_nil ?_
                intro w1 hb1
                go_wp2
                go_ret
                exact ⟨ret_bool (by rw [valliE_false (k := k) (by rw [HL.out]; exact hlt) (by rw [HV.out]; simp [hok, hfb, hk0, hs])]), below_next (below_next HB.out.1 HW1.out) hb1⟩
              · have hsb : decide (e.2 < e'.2) = false := by simpa using hs
                go_wp2
                refine wp_region_qb (by kernel_rfl) (by kernel_rfl) ?_
                repeat (go_big_quiet_step (first | (go_at_call 77; exact Calls.regrown_of (entryOk_any _ _)) | (go_at_call 78; exact Calls.regrown_of (placeOf_any _ _ _ _ _ _ ((HRD.out.take (k := k) (by omega)).below (below_regrown _ _ _)) (by omega)))))
                refine wpQuiet_nil ?_
                intro w1 hb1
                go_wp2
                exact ⟨⟨k + 1, by omega, by go_num, below_next (below_next HB.out.1 HW1.out) hb1, fun j hj => by
                  by_cases hjk : j = k
                  · subst hjk; rw [HV.out]; simp [hok, hsb, hfb]
                  · exact HB.out.2 j (by omega)⟩, by simp [intOf]; omega⟩
            · go_wp2
              refine wp_region_qb (by kernel_rfl) (by kernel_rfl) ?_
              repeat (go_big_quiet_step (first | (go_at_call 77; exact Calls.regrown_of (entryOk_any _ _)) | (go_at_call 78; exact Calls.regrown_of (placeOf_any _ _ _ _ _ _ ((HRD.out.take (k := k) (by omega)).below (below_regrown _ _ _)) (by omega)))))
              refine wpQuiet_nil ?_
              intro w1 hb1
              go_wp2
              exact ⟨⟨k + 1, by omega, by go_num, below_next (below_next HB.out.1 HW1.out) hb1, fun j hj => by
                by_cases hjk : j = k
                · subst hjk; rw [HV.out]; simp [hok, hk0, hfb]
                · exact HB.out.2 j (by omega)⟩, by simp [intOf]; omega⟩
      · go_wp2
        go_ret
        have hkn : k = n := by omega
        exact ⟨ret_bool (by rw [valliE_true (fun j hj => HB.out.2 j (by rw [HR.out.len] at hj; omega))]; simp; omega), HB.out.1⟩
  · have h4' : (4 : Int) < n := by omega
    go_enter Tryz.func29, Tryz.ntmps29
    go_wp2
    go_ret
    exact ⟨ret_bool (by simp; omega), Below.refl _ _⟩

theorem implBoardValid_v (A : Option Addr) (n c : Nat) (es : List Ent) (w : World) (hr : RdE w A n es) (hn : n ≤ 1099511627776) (hc : n ≤ c) :
    Calls Tryz.prog 29 #[.slice A n c] w fun e w' => e = .returned (.bool (validE es)) ∧ Below w.heap.size w w' := by
  have h := implBoardValid_any A n c es w hr hn hc
  rw [show (decide ((n : Int) ≤ 4) && valliE es) = validE es by rw [← hr.len]; rfl] at h
  exact h
end Go.Proofs.YtepddbfafdfadaaGreat

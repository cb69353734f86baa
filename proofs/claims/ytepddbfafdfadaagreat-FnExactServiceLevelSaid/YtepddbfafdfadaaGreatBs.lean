/-
  What the reference's l6In, l32Entry, l32Find and BoardValid return, for every slice of entries.
-/
import Derived.Test.YtepddbfafdfadaaGreatBase
namespace Go.Proofs.YtepddbfafdfadaaGreat
open Go.RowKit Go.Sort

set_option maxHeartbeats 400000 in
theorem l6In_any (n lo hi : Int) (w : World) :
    Calls Tryz.prog 74 #[.int .i64 n, .int .i64 lo, .int .i64 hi] w fun e w' => e = .returned (.bool (inR n lo hi)) ∧ w = w' := by
  go_enter Tryz.func74, Tryz.ntmps74
  go_wp2
  all_goals go_ret
  all_goals exact ⟨ret_bool (by simp [inR]; omega), rfl⟩

set_option maxHeartbeats 400000 in
theorem l32Entry_any (x : Ent) (w : World) :
    Calls Tryz.prog 119 #[.agg #[.int .i64 x.1, .int .i64 x.2]] w fun e w' => e = .returned (.bool (okE x)) ∧ Below w.heap.size w w' := by
  go_enter Tryz.func119, Tryz.ntmps119
  go_wp2_with (first | (go_at_call 74; refine (l6In_any _ _ _ _).mono ?_; rintro e w' ⟨rfl, rfl⟩))
  all_goals go_ret
  all_goals exact ⟨ret_bool (by simp [okE, *]), (Below.refl _ _).alloc (Nat.le_refl _) _⟩

set_option maxHeartbeats 400000 in
theorem l32Find_any (A : Option Addr) (n c : Nat) (es : List Ent) (p : Int) (w : World) (hr : RdE w A n es) (hn : n ≤ 1099511627776) :
    Calls Tryz.prog 120 #[.slice A n c, .int .i64 p] w fun e w' => e = .returned (.int .i64 (findE p es 0)) ∧ w = w' := by
  have HR := Lib.hid hr; clear hr
  go_enter Tryz.func120, Tryz.ntmps120
  go_wp2
  go_loop [5] (fun i => ∃ k : Nat, k ≤ n ∧ i = .int .i64 k ∧ Hid (findE p es 0 = findE p (es.drop k) k)) (fun i => n - (intOf i).toNat)
  case atStart => exact ⟨0, Nat.zero_le _, rfl, rfl⟩
  case round =>
    obtain ⟨k, hk, rfl, HF⟩ := hrel
    by_cases hlt : k < n
    · obtain ⟨b, off, e, rfl, hb, he, h0, h1⟩ := HR.out.at_ hlt
      have HS := Lib.hid (findE_step p es k e he)
      clear he
      by_cases hp : e.1 = p
      · have hq : (e.1 == p) = true := by simpa using hp
        have HP := Lib.hid hp; clear hp
        go_wp2
        go_ret
        exact ⟨ret_int (by rw [HF.out, HS.out, if_pos HP.out]), rfl⟩
      · have hq : (e.1 == p) = false := by simpa using hp
        go_wp2
        exact ⟨⟨k + 1, by omega, by go_num, by show Hid _; unfold Hid; rw [HF.out, HS.out, if_neg hp]⟩, by simp [intOf]; omega⟩
    · go_wp2
      go_ret
      have : k = n := by omega
      exact ⟨ret_int (by rw [HF.out, List.drop_of_length_le (by rw [HR.out.len]; omega)]; rfl), rfl⟩

set_option maxHeartbeats 1000000 in
theorem specBoardValid_any (A : Option Addr) (n c : Nat) (es : List Ent) (w : World) (hr : RdE w A n es) (hn : n ≤ 1099511627776) :
    Calls Tryz.prog 75 #[.slice A n c] w fun e w' => e = .returned (.bool (vallE es && decide ((n : Int) ≤ 4))) ∧ Below w.heap.size w w' := by
  have HR := Lib.hid hr; clear hr
  go_enter Tryz.func75, Tryz.ntmps75
  go_wp2
  go_loopw [3] (fun i wr => ∃ k : Nat, k ≤ n ∧ i = .int .i64 k ∧ Hid (Below w.heap.size w wr ∧ ∀ j, j < k → vrE es j = true)) (fun i _ => n - (intOf i).toNat)
  case atStart => exact ⟨0, Nat.zero_le _, rfl, Below.refl _ _, fun j hj => absurd hj (by omega)⟩
  case round =>
    obtain ⟨k, hk, rfl, HB⟩ := hrel
    by_cases hlt : k < n
    · obtain ⟨b, off, e, hA, hb, he, h0, h1⟩ := (HR.out.below HB.out.1).at_ hlt
      have h0' := fun d os => cell_regrown h0 d os
      have h1' := fun d os => cell_regrown h1 d os
      have hrd := HR.out.below HB.out.1
      have hv : vrE es k = (okE e && !(decide (0 < k) && decide (e.2 < prevE es k)) && !(decide (findE e.1 es 0 < k))) := by simp [vrE, he]
      have hlen := HR.out.len
      subst hA
      have HL := Lib.hid hlen
      have HV := Lib.hid hv
      have HRD := Lib.hid hrd
      clear he h0 h1 hv hrd hlen
      cases hok : okE e with
      | false =>
        go_wp2
        refine wp_region_qb (by kernel_rfl) (by kernel_rfl) ?_
        repeat (go_big_quiet_step (first | (go_at_call 119; exact Calls.regrown_of (l32Entry_any _ _))))
        refine wpQuiet_nil ?_
        intro w1 hb1
        go_wp2
        go_ret
        exact ⟨ret_bool (by rw [vallE_false (k := k) (by rw [HL.out]; exact hlt) (by rw [HV.out, hok]; rfl)]), below_next HB.out.1 hb1⟩
      | true =>
        by_cases hk0 : 0 < k
        · obtain ⟨b', off', e', hA', hb', he', h2, h3⟩ := HRD.out.at_ (k := k - 1) (by omega)
          obtain ⟨rfl, rfl⟩ : b = b' ∧ off = off' := by simpa using hA'
          have hpv : prevE es k = e'.2 := by simp [prevE, he']
          rw [hpv] at HV
          have h3' := fun d os => cell_regrown h3 d os
          clear hA' hb' he' h2 h3 hpv
          by_cases hs : e.2 < e'.2
          · go_wp2
            refine wp_region_qb (by kernel_rfl) (by kernel_rfl) ?_
            repeat (go_big_quiet_step (first | (go_at_call 119; exact Calls.regrown_of (l32Entry_any _ _)) | (go_at_call 120; exact Calls.regrown_of ((l32Find_any _ _ _ _ _ _ (HRD.out.below (below_regrown _ _ _)) hn).mono fun _ _ ⟨h1, h2⟩ => ⟨h1, h2 ▸ Below.refl _ _⟩))))
            refine wpQuiet_nil ?_
            intro w1 hb1
            go_wp2
            go_ret
            exact ⟨ret_bool (by rw [vallE_false (k := k) (by rw [HL.out]; exact hlt) (by rw [HV.out]; simp [hok, hk0, hs])]), below_next HB.out.1 hb1⟩
          · have hsb : decide (e.2 < e'.2) = false := by simpa using hs
            by_cases hf : findE e.1 es 0 < k
            · go_wp2
              refine wp_region_qb (by kernel_rfl) (by kernel_rfl) ?_
              repeat (go_big_quiet_step (first | (go_at_call 119; exact Calls.regrown_of (l32Entry_any _ _)) | (go_at_call 120; exact Calls.regrown_of ((l32Find_any _ _ _ _ _ _ (HRD.out.below (below_regrown _ _ _)) hn).mono fun _ _ ⟨h1, h2⟩ => ⟨h1, h2 ▸ Below.refl _ _⟩))))
              refine wpQuiet_nil ?_
              intro w1 hb1
              go_wp2
              go_ret
              exact ⟨ret_bool (by rw [vallE_false (k := k) (by rw [HL.out]; exact hlt) (by rw [HV.out]; simp [hok, hk0, hf])]), below_next HB.out.1 hb1⟩
            · have hfb : decide (findE e.1 es 0 < k) = false := by simpa using hf
              go_wp2
              refine wp_region_qb (by kernel_rfl) (by kernel_rfl) ?_
              repeat (go_big_quiet_step (first | (go_at_call 119; exact Calls.regrown_of (l32Entry_any _ _)) | (go_at_call 120; exact Calls.regrown_of ((l32Find_any _ _ _ _ _ _ (HRD.out.below (below_regrown _ _ _)) hn).mono fun _ _ ⟨h1, h2⟩ => ⟨h1, h2 ▸ Below.refl _ _⟩))))
              refine wpQuiet_nil ?_
              intro w1 hb1
              go_wp2
              exact ⟨⟨k + 1, by omega, by go_num, below_next HB.out.1 hb1, fun j hj => by
                by_cases hjk : j = k
                · subst hjk; rw [HV.out]; simp [hok, hs, hf]
                · exact HB.out.2 j (by omega)⟩, by simp [intOf]; omega⟩
        · by_cases hf : findE e.1 es 0 < k
          · go_wp2
            refine wp_region_qb (by kernel_rfl) (by kernel_rfl) ?_
            repeat (go_big_quiet_step (first | (go_at_call 119; exact Calls.regrown_of (l32Entry_any _ _)) | (go_at_call 120; exact Calls.regrown_of ((l32Find_any _ _ _ _ _ _ (HRD.out.below (below_regrown _ _ _)) hn).mono fun _ _ ⟨h1, h2⟩ => ⟨h1, h2 ▸ Below.refl _ _⟩))))
            refine wpQuiet_nil ?_
            intro w1 hb1
            go_wp2
            go_ret
            exact ⟨ret_bool (by rw [vallE_false (k := k) (by rw [HL.out]; exact hlt) (by rw [HV.out]; simp [hok, hk0, hf])]), below_next HB.out.1 hb1⟩
          · have hfb : decide (findE e.1 es 0 < k) = false := by simpa using hf
            go_wp2
            refine wp_region_qb (by kernel_rfl) (by kernel_rfl) ?_
            repeat (go_big_quiet_step (first | (go_at_call 119; exact Calls.regrown_of (l32Entry_any _ _)) | (go_at_call 120; exact Calls.regrown_of ((l32Find_any _ _ _ _ _ _ (HRD.out.below (below_regrown _ _ _)) hn).mono fun _ _ ⟨h1, h2⟩ => ⟨h1, h2 ▸ Below.refl _ _⟩))))
            refine wpQuiet_nil ?_
            intro w1 hb1
            go_wp2
            exact ⟨⟨k + 1, by omega, by go_num, below_next HB.out.1 hb1, fun j hj => by
              by_cases hjk : j = k
              · subst hjk; rw [HV.out]; simp [hok, hk0, hf]
              · exact HB.out.2 j (by omega)⟩, by simp [intOf]; omega⟩
    · go_wp2
      go_ret
      have hkn : k = n := by omega
      exact ⟨ret_bool (by rw [vallE_true (fun j hj => HB.out.2 j (by rw [HR.out.len] at hj; omega)), Bool.true_and]), HB.out.1⟩

theorem specBoardValid_v (A : Option Addr) (n c : Nat) (es : List Ent) (w : World) (hr : RdE w A n es) (hn : n ≤ 1099511627776) :
    Calls Tryz.prog 75 #[.slice A n c] w fun e w' => e = .returned (.bool (validE es)) ∧ Below w.heap.size w w' := by
  have h := specBoardValid_any A n c es w hr hn
  rw [show (vallE es && decide ((n : Int) ≤ 4)) = validE es by rw [← hr.len]; exact validE_spec es] at h
  exact h
end Go.Proofs.YtepddbfafdfadaaGreat

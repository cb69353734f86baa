/-
  What the laws' own helpers on entries return: szEntryS, toEntry, toEntryS, eqEntry, eqEntryS. Every slice of at most 2^40 entries.
-/
import Derived.Test.YtepddbfafdfadaaGreatBase
namespace Go.Proofs.YtepddbfafdfadaaGreat
open Go.RowKit Go.Sort

set_option maxHeartbeats 400000 in
theorem szEntryS_no (A : Option Addr) (n c : Nat) (left : Int) (w : World) (hn : n ≤ maxLen) (hl : 0 ≤ left) (hl2 : left ≤ 1099511627776) (h : left < n) :
    Calls Tryz.prog 127 #[.slice A n c, .int .i64 left] w fun e w' => e = .returned (.int .i64 (-1)) ∧ w = w' := by
  unfold maxLen at hn
  have h' : left - (n : Int) < 0 := by omega
  go_enter Tryz.func127, Tryz.ntmps127
  go_wp2
  go_ret
  exact ⟨rfl, rfl⟩
set_option maxHeartbeats 400000 in
theorem szEntryS_yes (A : Option Addr) (n c : Nat) (left : Int) (w : World) (hl : 0 ≤ left) (hl2 : left ≤ 1099511627776) (h : n ≤ left) :
    Calls Tryz.prog 127 #[.slice A n c, .int .i64 left] w fun e w' => e = .returned (.int .i64 (left - n)) ∧ w = w' := by
  have h' : ¬ left - (n : Int) < 0 := by omega
  go_enter Tryz.func127, Tryz.ntmps127
  go_wp2
  go_ret
  exact ⟨rfl, rfl⟩

set_option maxHeartbeats 400000 in
theorem toEntry_any (x : Ent) (w : World) :
    Calls Tryz.prog 153 #[.agg #[.int .i64 x.1, .int .i64 x.2]] w fun e w' => e = .returned (.agg #[.int .i64 x.1, .int .i64 x.2]) ∧ Below w.heap.size w w' := by
  go_enter Tryz.func153, Tryz.ntmps153
  go_wp2
  refine bodyPost_ret (v := .agg #[.int .i64 x.1, .int .i64 x.2]) (by simp [results, Tryz.results153, go_sem]) rfl ⟨rfl, ?_⟩
  go_grown

set_option maxHeartbeats 400000 in
theorem eqEntry_any (x y : Ent) (w : World) :
    Calls Tryz.prog 159 #[.agg #[.int .i64 x.1, .int .i64 x.2], .agg #[.int .i64 y.1, .int .i64 y.2]] w fun e w' => e = .returned (.bool (decide (x = y))) ∧ Below w.heap.size w w' := by
  obtain ⟨x1, x2⟩ := x
  obtain ⟨y1, y2⟩ := y
  go_enter Tryz.func159, Tryz.ntmps159
  go_wp2
  all_goals go_ret
  all_goals refine ⟨ret_bool ?_, by go_grown⟩
  all_goals simp at *
  all_goals simp [*]

theorem infoE : (Tryz.prog.info? 67).map (fun i => (i.zero, i.size, i.bytes)) = some (some (.agg #[.int .i64 0, .int .i64 0]), 2, 16) := by kernel_rfl

set_option maxHeartbeats 1000000 in
theorem toEntryS_any (A : Option Addr) (n c : Nat) (es : List Ent) (w : World) (hr : RdE w A n es) (hn : n ≤ 1099511627776) :
    Calls Tryz.prog 129 #[.slice A n c] w fun e w' => ∃ g, e = .returned (.slice (some ⟨g, 0, none⟩) n n) ∧ w.heap.size ≤ g ∧ Blk w' g 67 (cellsE es).toArray ∧ Below w.heap.size w w' := by
  have HR := Lib.hid hr; clear hr
  obtain ⟨i0, hi0, hz0, hz1, hz2⟩ := info_parts infoE
  have hmk := fun W => run_make_rowN (P := Tryz.prog) 56 67 i0 _ Tryz.underlying56 hi0 hz0 .i64 .i64 n n (Nat.le_refl _) (by rw [hz2]; omega) (by omega) W
  rw [hz1] at hmk
  have hl := HR.out.len
  have HL := Lib.hid hl
  clear hi0 hz0 hz1 hz2 hl
  go_enter Tryz.func129, Tryz.ntmps129
  go_wp2
  generalize hcs : madeCells _ (n * 2) = cs0
  have hsz : cs0.size = (cellsE es).length := by rw [← hcs, size_madeCells, cellsE_length, HL.out]
  have HSZ := Lib.hid hsz
  clear hcs hsz hmk
  go_loopw [4] (fun i wr => ∃ k : Nat, k ≤ n ∧ i = .int .i64 k ∧ Hid (Below w.heap.size w wr ∧ ∃ cur, Blk wr w.heap.size 67 cur ∧ FillTo cur (k * 2) (cellsE es))) (fun i _ => n - (intOf i).toNat)
  case atStart => exact ⟨0, Nat.zero_le _, rfl, (Below.refl _ _).alloc (Nat.le_refl _) _, cs0, Blk.new _ _ _, FillTo.start HSZ.out⟩
  case round =>
    obtain ⟨k, hk, rfl, HB⟩ := hrel
    by_cases hlt : k < n
    · obtain ⟨b, off, e, rfl, hb, he, h0, h1⟩ := (HR.out.below HB.out.1).at_ hlt
      obtain ⟨cur, hblk, hfill⟩ := HB.out.2
      have hlen : (cellsE es).length = n * 2 := by rw [cellsE_length, HL.out]
      obtain ⟨x0, hx0⟩ := hfill.get (j := k * 2) (by omega)
      obtain ⟨x1, hx1⟩ := hfill.get (j := k * 2 + 1) (by omega)
      have hc0 := (hblk.cell (k * 2)).trans hx0
      have hc1 := (hblk.cell (k * 2 + 1)).trans hx1
      have hf0 := hblk.frozen (k * 2)
      have hf1 := hblk.frozen (k * 2 + 1)
      have hglt := hblk.lt
      obtain ⟨d0, d1⟩ := cellsE_get es k e he
      have HBK := Lib.hid hblk
      have HFL := Lib.hid hfill
      have D0 := Lib.hid d0
      have D1 := Lib.hid d1
      clear he hx0 hx1 hlen hblk hfill d0 d1
      go_wp2_with (first | (go_at_call 153; refine (toEntry_any _ _).mono ?_; rintro _ w1 ⟨rfl, hb1⟩; obtain ⟨hcell1, hfroz1⟩ := bcell hb1))
      refine ⟨⟨k + 1, by omega, by go_num, ((below_at HB.out.1 (by omega) hb1).setCell (Nat.le_refl _) _).setCell (Nat.le_refl _) _, _, ((HBK.out.next hb1).set_ _ _).set_ _ _, ?_⟩, by simp [intOf]; omega⟩
      have := (HFL.out.step D0.out).step D1.out
      rw [show (k + 1) * 2 = k * 2 + 1 + 1 by omega]
      exact this
    · go_wp2
      go_ret
      obtain ⟨cur, hblk, hfill⟩ := HB.out.2
      have hkn : k = n := by omega
      have he := hfill.done (by rw [cellsE_length, HL.out, hkn]; exact Nat.le_refl _)
      rw [he] at hblk
      exact ⟨_, rfl, Nat.le_refl _, hblk, HB.out.1⟩

theorem take_next {α : Type} {a b : List α} {k : Nat} {x : α} (h : a.take k = b.take k) (ha : a[k]? = some x) (hb : b[k]? = some x) : a.take (k + 1) = b.take (k + 1) := by
  rw [List.take_add_one, List.take_add_one, h, ha, hb]
theorem take_all {α : Type} {a b : List α} {k : Nat} (h : a.take k = b.take k) (ha : a.length ≤ k) (hb : b.length ≤ k) : a = b := by
  rwa [List.take_of_length_le ha, List.take_of_length_le hb] at h

set_option maxHeartbeats 1000000 in
theorem eqEntryS_any (A A' : Option Addr) (n n' c c' : Nat) (es fs : List Ent) (w : World) (hr : RdE w A n es) (hr' : RdE w A' n' fs) (hn : n ≤ 1099511627776) (hn' : n' ≤ 1099511627776) :
    Calls Tryz.prog 137 #[.slice A n c, .slice A' n' c'] w fun e w' => e = .returned (.bool (decide (es = fs))) ∧ Below w.heap.size w w' := by
  have HR := Lib.hid hr; clear hr
  have HR' := Lib.hid hr'; clear hr'
  by_cases hnn : n = n'
  · subst hnn
    go_enter Tryz.func137, Tryz.ntmps137
    go_wp2
    go_loopw [5] (fun i wr => ∃ k : Nat, k ≤ n ∧ i = .int .i64 k ∧ Hid (Below w.heap.size w wr ∧ es.take k = fs.take k)) (fun i _ => n - (intOf i).toNat)
    case atStart => exact ⟨0, Nat.zero_le _, rfl, Below.refl _ _, rfl⟩
    case round =>
      obtain ⟨k, hk, rfl, HB⟩ := hrel
      by_cases hlt : k < n
      · obtain ⟨b, off, e, rfl, hb, he, h0, h1⟩ := (HR.out.below HB.out.1).at_ hlt
        obtain ⟨b', off', e', rfl, hb', he', h0', h1'⟩ := (HR'.out.below HB.out.1).at_ hlt
        have HE := Lib.hid he
        have HE' := Lib.hid he'
        have g0 := fun d os => cell_regrown h0 d os
        have g1 := fun d os => cell_regrown h1 d os
        have g0' := fun d os => cell_regrown h0' d os
        have g1' := fun d os => cell_regrown h1' d os
        clear he he' h0 h1 h0' h1'
        by_cases hee : e = e'
        · subst hee
          have c1 := fun W => eqEntry_any e e W
          rw [show decide (e = e) = true by simp] at c1
          have C1 := Lib.hid c1; clear c1
          go_wp2
          refine wp_region_qb (by kernel_rfl) (by kernel_rfl) ?_
          repeat (go_big_quiet_step (first | (go_at_call 159; exact Calls.regrown_of (C1.out _))))
          refine wpQuiet_nil ?_
          intro w1 hb1
          go_wp2
          exact ⟨⟨k + 1, by omega, by go_num, below_next HB.out.1 hb1, take_next HB.out.2 HE.out HE'.out⟩, by simp [intOf]; omega⟩
        · have c1 := fun W => eqEntry_any e e' W
          rw [show decide (e = e') = false by simpa using hee] at c1
          have C1 := Lib.hid c1; clear c1
          have HEE := Lib.hid hee; clear hee
          go_wp2
          refine wp_region_qb (by kernel_rfl) (by kernel_rfl) ?_
          repeat (go_big_quiet_step (first | (go_at_call 159; exact Calls.regrown_of (C1.out _))))
          refine wpQuiet_nil ?_
          intro w1 hb1
          go_wp2
          go_ret
          refine ⟨ret_bool (by symm; rw [decide_eq_false_iff_not]; rintro rfl; exact HEE.out (by have := HE.out.symm.trans HE'.out; simpa using this)), below_next HB.out.1 hb1⟩
      · go_wp2
        go_ret
        have hkn : k = n := by omega
        exact ⟨ret_bool (by symm; rw [decide_eq_true_iff]; exact take_all HB.out.2 (by rw [HR.out.len]; omega) (by rw [HR'.out.len]; omega)), HB.out.1⟩
  · have hne : ((n : Int) != n') = true := by simp; omega
    go_enter Tryz.func137, Tryz.ntmps137
    go_wp2
    go_ret
    exact ⟨ret_bool (by symm; rw [decide_eq_false_iff_not]; rintro rfl; exact hnn (HR.out.len.symm.trans HR'.out.len)), Below.refl _ _⟩
end Go.Proofs.YtepddbfafdfadaaGreat

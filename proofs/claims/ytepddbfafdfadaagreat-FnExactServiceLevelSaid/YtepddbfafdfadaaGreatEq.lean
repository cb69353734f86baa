/-
  The laws' comparisons of services: what reads as the same service is the same (eqVec, eqBox, eqBoxS, eqLevel, eqTrack, eqTrackS, eqIntS, eqService; sameInts, sameTracks, sameService). Slices of at most 2^20 elements.
-/
import Derived.Test.YtepddbfafdfadaaGreatSv
import Derived.Test.YtepddbfafdfadaaGreatLk
namespace Go.Proofs.YtepddbfafdfadaaGreat
open Go.RowKit Go.Sort

set_option maxHeartbeats 400000 in
theorem eqVec_same (x y : Int) (w : World) :
    Calls Tryz.prog 61 #[.agg #[.int .i64 x, .int .i64 y], .agg #[.int .i64 x, .int .i64 y]] w fun e w' => e = .returned (.bool true) ∧ Below w.heap.size w w' := by
  go_enter Tryz.func61, Tryz.ntmps61
  go_wp2
  go_ret
  exact ⟨rfl, by go_grown⟩

set_option maxRecDepth 100000 in
set_option maxHeartbeats 4000000 in
theorem eqBox_same (b : Bx) (w : World) :
    Calls Tryz.prog 63 #[.agg #[.int .i64 b.1, .int .i64 b.2.1, .int .i64 b.2.2.1, .int .i64 b.2.2.2], .agg #[.int .i64 b.1, .int .i64 b.2.1, .int .i64 b.2.2.1, .int .i64 b.2.2.2]] w fun e w' => e = .returned (.bool true) ∧ Below w.heap.size w w' := by
  go_enter Tryz.func63, Tryz.ntmps63
  go_wp2_with fail
  refine (eqVec_same _ _ _).mono ?_
  rintro e w1 ⟨rfl, hb1⟩
  have kA1 : Blk w1 w.heap.size 44 #[.int .i64 b.1, .int .i64 b.2.1, .int .i64 b.2.2.1, .int .i64 b.2.2.2] := ((Blk.new w 44 #[.int .i64 b.1, .int .i64 b.2.1, .int .i64 b.2.2.1, .int .i64 b.2.2.2]).alloc _).next hb1
  have kB1 : Blk w1 (w.heap.size + 1) 44 #[.int .i64 b.1, .int .i64 b.2.1, .int .i64 b.2.2.1, .int .i64 b.2.2.2] := (Blk.newAt _ 44 #[.int .i64 b.1, .int .i64 b.2.1, .int .i64 b.2.2.1, .int .i64 b.2.2.2] (w.heap.size + 1) (by simp)).next hb1
  have HB1 := Lib.hid (ba (ba hb1))
  have cA1 := fun o => kA1.cell o
  have cB1 := fun o => kB1.cell o
  clear hb1
  go_wp2_with fail
  refine (eqVec_same _ _ _).mono ?_
  rintro e w2 ⟨rfl, hb2⟩
  have kA2 := kA1.next hb2
  have kB2 := kB1.next hb2
  have HB2 := Lib.hid (below_next HB1.out hb2)
  clear cA1 cB1 kA1 kB1
  have cA2 := fun o => kA2.cell o
  have cB2 := fun o => kB2.cell o
  clear hb2
  go_wp2_with fail
  go_ret
  exact ⟨rfl, HB2.out⟩

set_option maxRecDepth 100000 in
set_option maxHeartbeats 1000000 in
theorem eqBoxS_same (A A' : Option Addr) (n c c' : Nat) (bs : List Bx) (w : World) (hr : RdB w A n bs) (hr' : RdB w A' n bs) (hn : n ≤ 1048576) :
    Calls Tryz.prog 62 #[.slice A n c, .slice A' n c'] w fun e w' => e = .returned (.bool true) ∧ Below w.heap.size w w' := by
  have HR := Lib.hid hr
  have HR' := Lib.hid hr'
  clear hr hr'
  go_enter Tryz.func62, Tryz.ntmps62
  go_wp2
  go_loopw [5] (fun i wr => ∃ k : Nat, k ≤ n ∧ i = .int .i64 k ∧ Hid (Below w.heap.size w wr)) (fun i _ => n - (intOf i).toNat)
  case atStart => exact ⟨0, Nat.zero_le _, rfl, Below.refl _ _⟩
  case round =>
    obtain ⟨k, hk, rfl, HB⟩ := hrel
    by_cases hlt : k < n
    · obtain ⟨b, off, x, hA, hb, hx, e0, e1, e2, e3⟩ := RdB.cells (HR.out.below HB.out) hlt
      obtain ⟨b', off', x', hA', hb', hx', f0, f1, f2, f3⟩ := RdB.cells (HR'.out.below HB.out) hlt
      subst hA hA'
      obtain rfl : x = x' := by rw [hx] at hx'; exact Option.some.inj hx'
      clear hx hx'
      have g0 := fun d os => cell_regrown e0 d os
      have g1 := fun d os => cell_regrown e1 d os
      have g2 := fun d os => cell_regrown e2 d os
      have g3 := fun d os => cell_regrown e3 d os
      have h0 := fun d os => cell_regrown f0 d os
      have h1 := fun d os => cell_regrown f1 d os
      have h2 := fun d os => cell_regrown f2 d os
      have h3 := fun d os => cell_regrown f3 d os
      clear e0 e1 e2 e3 f0 f1 f2 f3
      have c1 := fun W => eqBox_same x W
      have C1 := Lib.hid c1; clear c1
      go_wp2
      refine wp_region_qb (by kernel_rfl) (by kernel_rfl) ?_
      repeat (go_big_quiet_step (first | (go_at_call 63; exact Calls.regrown_of (C1.out _))))
      refine wpQuiet_nil ?_
      intro w1 hb1
      go_wp2
      exact ⟨⟨k + 1, by omega, by go_num, below_next HB.out hb1⟩, by simp [intOf]; omega⟩
    · go_wp2
      go_ret
      exact ⟨rfl, HB.out⟩

set_option maxRecDepth 100000 in
set_option maxHeartbeats 1000000 in
theorem eqIntS_same (A A' : Option Addr) (n c c' : Nat) (zs : List Int) (w : World) (hr : RdI .i64 w A n zs) (hr' : RdI .i64 w A' n zs) (hn : n ≤ 1048576) :
    Calls Tryz.prog 60 #[.slice A n c, .slice A' n c'] w fun e w' => e = .returned (.bool true) ∧ Below w.heap.size w w' := by
  have HR := Lib.hid hr
  have HR' := Lib.hid hr'
  clear hr hr'
  go_enter Tryz.func60, Tryz.ntmps60
  go_wp2
  go_loopw [5] (fun i wr => ∃ k : Nat, k ≤ n ∧ i = .int .i64 k ∧ Hid (Below w.heap.size w wr)) (fun i _ => n - (intOf i).toNat)
  case atStart => exact ⟨0, Nat.zero_le _, rfl, Below.refl _ _⟩
  case round =>
    obtain ⟨k, hk, rfl, HB⟩ := hrel
    by_cases hlt : k < n
    · obtain ⟨b, off, z, hA, hb, hz, e0⟩ := (HR.out.below HB.out).at_ hlt
      obtain ⟨b', off', z', hA', hb', hz', f0⟩ := (HR'.out.below HB.out).at_ hlt
      subst hA hA'
      obtain rfl : z = z' := by rw [hz] at hz'; exact Option.some.inj hz'
      clear hz hz'
      have g0 := fun d os => cell_regrown e0 d os
      have h0 := fun d os => cell_regrown f0 d os
      clear e0 f0
      go_wp2
      refine wp_region_qb (by kernel_rfl) (by kernel_rfl) ?_
      repeat (go_big_quiet_step (fail))
      refine wpQuiet_nil ?_
      intro w1 hb1
      go_wp2
      exact ⟨⟨k + 1, by omega, by go_num, below_next HB.out hb1⟩, by simp [intOf]; omega⟩
    · go_wp2
      go_ret
      exact ⟨rfl, HB.out⟩

set_option maxRecDepth 100000 in
set_option maxHeartbeats 4000000 in
theorem eqLevel_same (l : Lvl) (ws gs vs hs : Sl) (w : World) (hr : RdL w l ws gs) (hr' : RdL w l vs hs) :
    Calls Tryz.prog 19 #[lvlV l ws gs, lvlV l vs hs] w fun e w' => e = .returned (.bool true) ∧ Below w.heap.size w w' := by
  obtain ⟨hr1, hr2, ⟨_, hn1⟩, _, hn2⟩ := hr
  obtain ⟨hr3, hr4, _, _⟩ := hr'
  have hv : vs.n = ws.n := hr3.len.symm.trans hr1.len
  have hh : hs.n = gs.n := hr4.len.symm.trans hr2.len
  obtain ⟨va, vn, vc⟩ := vs
  obtain ⟨ha, hn, hc⟩ := hs
  simp only at hv hh hr3 hr4
  subst hv hh
  have HR1 := Lib.hid hr1
  have HR2 := Lib.hid hr2
  have HR3 := Lib.hid hr3
  have HR4 := Lib.hid hr4
  clear hr1 hr2 hr3 hr4
  go_enter Tryz.func19, Tryz.ntmps19
  go_wp2_with fail
  refine (eqVec_same _ _ _).mono ?_
  rintro e w1 ⟨rfl, hb1⟩
  have kA1 : Blk w1 w.heap.size 46 #[.int .i64 l.id, .int .i64 l.ticks, .int .i64 l.sx, .int .i64 l.sy, .slice ws.a ws.n ws.c, .slice gs.a gs.n gs.c, .int .i64 l.f.1, .int .i64 l.f.2.1, .int .i64 l.f.2.2.1, .int .i64 l.f.2.2.2, .int .i64 l.bans] := ((Blk.new w 46 #[.int .i64 l.id, .int .i64 l.ticks, .int .i64 l.sx, .int .i64 l.sy, .slice ws.a ws.n ws.c, .slice gs.a gs.n gs.c, .int .i64 l.f.1, .int .i64 l.f.2.1, .int .i64 l.f.2.2.1, .int .i64 l.f.2.2.2, .int .i64 l.bans]).alloc _).next hb1
  have kB1 : Blk w1 (w.heap.size + 1) 46 #[.int .i64 l.id, .int .i64 l.ticks, .int .i64 l.sx, .int .i64 l.sy, .slice va ws.n vc, .slice ha gs.n hc, .int .i64 l.f.1, .int .i64 l.f.2.1, .int .i64 l.f.2.2.1, .int .i64 l.f.2.2.2, .int .i64 l.bans] := (Blk.newAt _ 46 #[.int .i64 l.id, .int .i64 l.ticks, .int .i64 l.sx, .int .i64 l.sy, .slice va ws.n vc, .slice ha gs.n hc, .int .i64 l.f.1, .int .i64 l.f.2.1, .int .i64 l.f.2.2.1, .int .i64 l.f.2.2.2, .int .i64 l.bans] (w.heap.size + 1) (by simp)).next hb1
  have HB1 := Lib.hid (ba (ba hb1))
  have cA1 := fun o => kA1.cell o
  have cB1 := fun o => kB1.cell o
  clear hb1
  go_wp2_with fail
  refine (eqBoxS_same _ _ _ _ _ l.walls _ (HR1.out.below HB1.out) (HR3.out.below HB1.out) hn1).mono ?_
  rintro e w2 ⟨rfl, hb2⟩
  have kA2 := kA1.next hb2
  have kB2 := kB1.next hb2
  have HB2 := Lib.hid (below_next HB1.out hb2)
  clear cA1 cB1 kA1 kB1
  have cA2 := fun o => kA2.cell o
  have cB2 := fun o => kB2.cell o
  clear hb2
  go_wp2_with fail
  refine (eqBoxS_same _ _ _ _ _ l.gates _ (HR2.out.below HB2.out) (HR4.out.below HB2.out) hn2).mono ?_
  rintro e w3 ⟨rfl, hb3⟩
  have kA3 := kA2.next hb3
  have kB3 := kB2.next hb3
  have HB3 := Lib.hid (below_next HB2.out hb3)
  clear cA2 cB2 kA2 kB2
  have cA3 := fun o => kA3.cell o
  have cB3 := fun o => kB3.cell o
  clear hb3
  go_wp2_with fail
  refine (eqBox_same l.f _).mono ?_
  rintro e w4 ⟨rfl, hb4⟩
  have kA4 := kA3.next hb4
  have kB4 := kB3.next hb4
  have HB4 := Lib.hid (below_next HB3.out hb4)
  clear cA3 cB3 kA3 kB3
  have cA4 := fun o => kA4.cell o
  have cB4 := fun o => kB4.cell o
  clear hb4
  go_wp2_with fail
  go_ret
  exact ⟨rfl, HB4.out⟩

set_option maxRecDepth 100000 in
set_option maxHeartbeats 4000000 in
theorem eqTrack_same (x y : TP) (t : Trk) (w : World) (hr : RdT w (x, t)) (hr' : RdT w (y, t)) :
    Calls Tryz.prog 110 #[.agg (encT (x, t)).toArray, .agg (encT (y, t)).toArray] w fun e w' => e = .returned (.bool true) ∧ Below w.heap.size w w' := by
  simp only [encT]
  have HR := Lib.hid hr
  have HR' := Lib.hid hr'
  have hn1 := hr.2.2.2
  have hn2 := hr'.2.2.2
  clear hr hr'
  go_enter Tryz.func110, Tryz.ntmps110
  go_wp2_with fail
  refine (eqLevel_same t.l x.w x.g y.w y.g _ (HR.out.1.below (((Below.refl _ w).alloc (Nat.le_refl _) _).alloc (by simp) _)) (HR'.out.1.below (((Below.refl _ w).alloc (Nat.le_refl _) _).alloc (by simp) _))).mono ?_
  rintro e w1 ⟨rfl, hb1⟩
  have kA1 : Blk w1 w.heap.size 62 #[.int .i64 t.l.id, .int .i64 t.l.ticks, .int .i64 t.l.sx, .int .i64 t.l.sy, .slice x.w.a x.w.n x.w.c, .slice x.g.a x.g.n x.g.c, .int .i64 t.l.f.1, .int .i64 t.l.f.2.1, .int .i64 t.l.f.2.2.1, .int .i64 t.l.f.2.2.2, .int .i64 t.l.bans, .slice x.b.a x.b.n x.b.c] := ((Blk.new w 62 #[.int .i64 t.l.id, .int .i64 t.l.ticks, .int .i64 t.l.sx, .int .i64 t.l.sy, .slice x.w.a x.w.n x.w.c, .slice x.g.a x.g.n x.g.c, .int .i64 t.l.f.1, .int .i64 t.l.f.2.1, .int .i64 t.l.f.2.2.1, .int .i64 t.l.f.2.2.2, .int .i64 t.l.bans, .slice x.b.a x.b.n x.b.c]).alloc _).next hb1
  have kB1 : Blk w1 (w.heap.size + 1) 62 #[.int .i64 t.l.id, .int .i64 t.l.ticks, .int .i64 t.l.sx, .int .i64 t.l.sy, .slice y.w.a y.w.n y.w.c, .slice y.g.a y.g.n y.g.c, .int .i64 t.l.f.1, .int .i64 t.l.f.2.1, .int .i64 t.l.f.2.2.1, .int .i64 t.l.f.2.2.2, .int .i64 t.l.bans, .slice y.b.a y.b.n y.b.c] := (Blk.newAt _ 62 #[.int .i64 t.l.id, .int .i64 t.l.ticks, .int .i64 t.l.sx, .int .i64 t.l.sy, .slice y.w.a y.w.n y.w.c, .slice y.g.a y.g.n y.g.c, .int .i64 t.l.f.1, .int .i64 t.l.f.2.1, .int .i64 t.l.f.2.2.1, .int .i64 t.l.f.2.2.2, .int .i64 t.l.bans, .slice y.b.a y.b.n y.b.c] (w.heap.size + 1) (by simp)).next hb1
  have HB1 := Lib.hid (ba (ba hb1))
  have cA1 := fun o => kA1.cell o
  have cB1 := fun o => kB1.cell o
  clear hb1
  go_wp2_with fail
  refine (eqEntryS_any _ _ _ _ _ _ t.b t.b _ (HR.out.2.1.below HB1.out) (HR'.out.2.1.below HB1.out) (Nat.le_trans hn1 (by decide)) (Nat.le_trans hn2 (by decide))).mono ?_
  rintro e w2 ⟨he2, hb2⟩
  rw [show decide (t.b = t.b) = true by simp] at he2
  subst he2
  have kA2 := kA1.next hb2
  have kB2 := kB1.next hb2
  have HB2 := Lib.hid (below_next HB1.out hb2)
  clear cA1 cB1 kA1 kB1
  have cA2 := fun o => kA2.cell o
  have cB2 := fun o => kB2.cell o
  clear hb2
  go_wp2_with fail
  go_ret
  exact ⟨rfl, HB2.out⟩

set_option maxRecDepth 100000 in
set_option maxHeartbeats 4000000 in
theorem eqTrackS_same (A A' : Option Addr) (n c c' : Nat) (xs ys : List Row) (w : World) (hr : RdTs w A n xs) (hr' : RdTs w A' n ys) (hxy : xs.map (·.2) = ys.map (·.2)) (hn : n ≤ 1048576) :
    Calls Tryz.prog 59 #[.slice A n c, .slice A' n c'] w fun e w' => e = .returned (.bool true) ∧ Below w.heap.size w w' := by
  have HR := Lib.hid hr
  have HR' := Lib.hid hr'
  have HXY := Lib.hid hxy
  clear hr hr' hxy
  go_enter Tryz.func59, Tryz.ntmps59
  go_wp2
  go_loopw [5] (fun i wr => ∃ k : Nat, k ≤ n ∧ i = .int .i64 k ∧ Hid (Below w.heap.size w wr)) (fun i _ => n - (intOf i).toNat)
  case atStart => exact ⟨0, Nat.zero_le _, rfl, Below.refl _ _⟩
  case round =>
    obtain ⟨k, hk, rfl, HB⟩ := hrel
    by_cases hlt : k < n
    · obtain ⟨b, off, x, hA, hb, hx, hrx, e0, e1, e2, e3, e4, e5, e6, e7, e8, e9, e10, e11⟩ := RdTs.cells (HR.out.below HB.out) hlt
      obtain ⟨b', off', y, hA', hb', hy, hry, f0, f1, f2, f3, f4, f5, f6, f7, f8, f9, f10, f11⟩ := RdTs.cells (HR'.out.below HB.out) hlt
      subst hA hA'
      have hxy : x.2 = y.2 := by
        have h1 : (xs.map (·.2))[k]? = some x.2 := by rw [List.getElem?_map, hx]; rfl
        have h2 : (ys.map (·.2))[k]? = some y.2 := by rw [List.getElem?_map, hy]; rfl
        rw [HXY.out, h2] at h1
        exact (Option.some.inj h1).symm
      obtain ⟨x, t⟩ := x
      obtain ⟨y, t'⟩ := y
      simp only at hxy
      subst hxy
      clear hx hy
      simp only at e0 e1 e2 e3 e4 e5 e6 e7 e8 e9 e10 e11 f0 f1 f2 f3 f4 f5 f6 f7 f8 f9 f10 f11
      have g0 := fun d os => cell_regrown e0 d os
      have g1 := fun d os => cell_regrown e1 d os
      have g2 := fun d os => cell_regrown e2 d os
      have g3 := fun d os => cell_regrown e3 d os
      have g4 := fun d os => cell_regrown e4 d os
      have g5 := fun d os => cell_regrown e5 d os
      have g6 := fun d os => cell_regrown e6 d os
      have g7 := fun d os => cell_regrown e7 d os
      have g8 := fun d os => cell_regrown e8 d os
      have g9 := fun d os => cell_regrown e9 d os
      have g10 := fun d os => cell_regrown e10 d os
      have g11 := fun d os => cell_regrown e11 d os
      have h0 := fun d os => cell_regrown f0 d os
      have h1 := fun d os => cell_regrown f1 d os
      have h2 := fun d os => cell_regrown f2 d os
      have h3 := fun d os => cell_regrown f3 d os
      have h4 := fun d os => cell_regrown f4 d os
      have h5 := fun d os => cell_regrown f5 d os
      have h6 := fun d os => cell_regrown f6 d os
      have h7 := fun d os => cell_regrown f7 d os
      have h8 := fun d os => cell_regrown f8 d os
      have h9 := fun d os => cell_regrown f9 d os
      have h10 := fun d os => cell_regrown f10 d os
      have h11 := fun d os => cell_regrown f11 d os
      clear e0 e1 e2 e3 e4 e5 e6 e7 e8 e9 e10 e11 f0 f1 f2 f3 f4 f5 f6 f7 f8 f9 f10 f11
      have HX := Lib.hid hrx
      have HY := Lib.hid hry
      clear hrx hry
      have c1 := fun W (hW : Below wr.heap.size wr W) => eqTrack_same x y t W (HX.out.below hW) (HY.out.below hW)
      simp only [encT] at c1
      have C1 := Lib.hid c1; clear c1
      go_wp2
      refine wp_region_qb (by kernel_rfl) (by kernel_rfl) ?_
      repeat (go_big_quiet_step (first | (go_at_call 110; exact Calls.regrown_of (C1.out _ (below_regrown _ _ _)))))
      refine wpQuiet_nil ?_
      intro w1 hb1
      go_wp2
      exact ⟨⟨k + 1, by omega, by go_num, below_next HB.out hb1⟩, by simp [intOf]; omega⟩
    · go_wp2
      go_ret
      exact ⟨rfl, HB.out⟩


set_option maxRecDepth 100000 in
set_option maxHeartbeats 4000000 in
theorem eqService_same (t k g t' k' g' : Sl) (S : Svc) (w : World) (hr : RdS w t k g S) (hr' : RdS w t' k' g' S) :
    Calls Tryz.prog 18 #[svV t k g, svV t' k' g'] w fun e w' => e = .returned (.bool true) ∧ Below w.heap.size w w' := by
  obtain ⟨⟨xs, hxs, hr1⟩, hr2, hr3, ⟨_, hn1⟩, ⟨_, hn2⟩, _, hn3⟩ := hr
  obtain ⟨⟨ys, hys, hs1⟩, hs2, hs3, _, _, _⟩ := hr'
  have ht : t'.n = t.n := by
    have h1 := hr1.1.len
    have h2 := hs1.1.len
    have h3 := congrArg List.length (hxs.trans hys.symm)
    simp at h3
    omega
  have hk : k'.n = k.n := hs2.len.symm.trans hr2.len
  have hg : g'.n = g.n := hs3.len.symm.trans hr3.len
  obtain ⟨ta, tn, tc⟩ := t'
  obtain ⟨ka, kn, kc⟩ := k'
  obtain ⟨ga, gn, gc⟩ := g'
  simp only at ht hk hg hs1 hs2 hs3
  subst ht hk hg
  have HXY := Lib.hid (hxs.trans hys.symm)
  have HR1 := Lib.hid hr1
  have HR2 := Lib.hid hr2
  have HR3 := Lib.hid hr3
  have HS1 := Lib.hid hs1
  have HS2 := Lib.hid hs2
  have HS3 := Lib.hid hs3
  clear hr1 hr2 hr3 hs1 hs2 hs3 hxs hys
  go_enter Tryz.func18, Tryz.ntmps18
  go_wp2_with fail
  refine (eqTrackS_same _ _ _ _ _ _ _ _ (HR1.out.below (((Below.refl _ w).alloc (Nat.le_refl _) _).alloc (by simp) _)) (HS1.out.below (((Below.refl _ w).alloc (Nat.le_refl _) _).alloc (by simp) _)) HXY.out hn1).mono ?_
  rintro e w1 ⟨rfl, hb1⟩
  have kA1 : Blk w1 w.heap.size 37 #[.slice t.a t.n t.c, .slice k.a k.n k.c, .slice g.a g.n g.c] := ((Blk.new w 37 #[.slice t.a t.n t.c, .slice k.a k.n k.c, .slice g.a g.n g.c]).alloc _).next hb1
  have kB1 : Blk w1 (w.heap.size + 1) 37 #[.slice ta t.n tc, .slice ka k.n kc, .slice ga g.n gc] := (Blk.newAt _ 37 #[.slice ta t.n tc, .slice ka k.n kc, .slice ga g.n gc] (w.heap.size + 1) (by simp)).next hb1
  have HB1 := Lib.hid (ba (ba hb1))
  have cA1 := fun o => kA1.cell o
  have cB1 := fun o => kB1.cell o
  clear hb1
  go_wp2_with fail
  refine (eqIntS_same _ _ _ _ _ S.keys _ (HR2.out.below HB1.out) (HS2.out.below HB1.out) hn2).mono ?_
  rintro e w2 ⟨rfl, hb2⟩
  have kA2 := kA1.next hb2
  have kB2 := kB1.next hb2
  have HB2 := Lib.hid (below_next HB1.out hb2)
  clear cA1 cB1 kA1 kB1
  have cA2 := fun o => kA2.cell o
  have cB2 := fun o => kB2.cell o
  clear hb2
  go_wp2_with fail
  refine (eqIntS_same _ _ _ _ _ S.tags _ (HR3.out.below HB2.out) (HS3.out.below HB2.out) hn3).mono ?_
  rintro e w3 ⟨rfl, hb3⟩
  have kA3 := kA2.next hb3
  have kB3 := kB2.next hb3
  have HB3 := Lib.hid (below_next HB2.out hb3)
  clear cA2 cB2 kA2 kB2
  have cA3 := fun o => kA3.cell o
  have cB3 := fun o => kB3.cell o
  clear hb3
  go_wp2_with fail
  go_ret
  exact ⟨rfl, HB3.out⟩

end Go.Proofs.YtepddbfafdfadaaGreat
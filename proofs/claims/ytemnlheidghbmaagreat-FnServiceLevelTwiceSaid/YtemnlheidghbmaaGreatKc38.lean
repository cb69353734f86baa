/-
  Lemmas and contracts: Sk Lv. No condition.
-/
import Derived.Test.YtemnlheidghbmaaGreatKc3
import Derived.Test.YtemnlheidghbmaaGreatKc12
import Derived.Test.YtemnlheidghbmaaGreatKc13
import Derived.Test.YtemnlheidghbmaaGreatKc23
import Derived.Test.YtemnlheidghbmaaGreatKc25
import Derived.Test.YtemnlheidghbmaaGreatKc26
import Derived.Test.YtemnlheidghbmaaGreatKc27
import Derived.Test.YtemnlheidghbmaaGreatKc29
import Derived.Test.YtemnlheidghbmaaGreatKc31
import Derived.Test.YtemnlheidghbmaaGreatKc32
import Derived.Test.YtemnlheidghbmaaGreatKc37
namespace Go.Proofs.YtemnlheidghbmaaGreat
open Go.RowKit Go.Sort
theorem eqV_run (f : Nat) (a b : Int) (w : World) : (Op.equalIn (f + 1 + 1) 28 (.agg #[.int .i64 a, .int .i64 b]) (.agg #[.int .i64 a, .int .i64 b])).run Tryz.prog w = .ok true w := by
 have hf := fieldsOf_of Tryz.underlying28
 rw [run_equalIn_struct w (f + 1) 28 _ _ (by rw [hf]; exact Tryz.underlying28) (by kernel_rfl), hf]
 simp [Op.eqFields, go_sem]
theorem eqB_run (z : Bx) (w : World) : (Op.equalIn 10000 31 (.agg #[.int .i64 z.1, .int .i64 z.2.1, .int .i64 z.2.2.1, .int .i64 z.2.2.2]) (.agg #[.int .i64 z.1, .int .i64 z.2.1, .int .i64 z.2.2.1, .int .i64 z.2.2.2])).run Tryz.prog w = .ok true w := by
 have hf := fieldsOf_of Tryz.underlying31
 rw [show (10000 : Nat) = 9999 + 1 from rfl, run_equalIn_struct w 9999 31 _ _ (by rw [hf]; exact Tryz.underlying31) (by kernel_rfl), hf]
 have h1 := eqV_run 9997 z.1 z.2.1
 have h2 := eqV_run 9997 z.2.2.1 z.2.2.2
 simp [Op.eqFields, go_sem, h1, h2]
theorem eqV10 (a b : Int) (w : World) : (Op.equalIn 10000 28 (.agg #[.int .i64 a, .int .i64 b]) (.agg #[.int .i64 a, .int .i64 b])).run Tryz.prog w = .ok true w := eqV_run 9998 a b w
set_option maxRecDepth 100000 in
set_option maxHeartbeats 8000000 in
theorem sameTracks_same (A A' : Option Addr) (n c c' : Nat) (xs ys : List Row) (w : World) (hr : RdTs w A n xs) (hr' : RdTs w A' n ys) (hxy : xs.map (·.2) = ys.map (·.2)) (hn : n ≤ 1048576) :
  Calls Tryz.prog 32 #[.slice A n c, .slice A' n c'] w fun e w' => e = .returned (.bool true) ∧ Below w.heap.size w w' := by
 have HR := Lib.hid hr
 have HR' := Lib.hid hr'
 have HXY := Lib.hid hxy
 clear hr hr' hxy
 go_enter Tryz.func32, Tryz.ntmps32
 go_wp2
 go_loopw [5, 6, 7, 8, 9] (fun i _ _ _ _ wr => ∃ k : Nat, k ≤ n ∧ i = .int .i64 k ∧ Hid (Below w.heap.size w wr)) (fun i _ _ _ _ _ => n - (intOf i).toNat)
 case atStart => exact ⟨0, Nat.zero_le _, rfl, Below.refl _ _⟩
 case round =>
  obtain ⟨k, hk, rfl, HB⟩ := hrel
  by_cases hlt : k < n
  ·obtain ⟨b, off, x, hA, hb, hx, hrx, e0, e1, e2, e3, e4, e5, e6, e7, e8, e9, e10, e11⟩ := RdTs.cells (HR.out.below HB.out) hlt
   obtain ⟨b', off', y, hA', hb', hy, hry, f0, f1, f2, f3, f4, f5, f6, f7, f8, f9, f10, f11⟩ := RdTs.cells (HR'.out.below HB.out) hlt
   subst hA hA'
   have hxy : x.2 = y.2 := by
    have h1 : (xs.map (·.2))[k]? = some x.2 := by rw [List.getElem?_map, hx]; rfl
    have h2 : (ys.map (·.2))[k]? = some y.2 := by rw [List.getElem?_map, hy]; rfl
    rw [HXY.out, h2] at h1
    exact (Option.some.inj h1).symm
   obtain ⟨px, t⟩ := x
   obtain ⟨py, t'⟩ := y
   simp only at hxy
   subst hxy
   clear hx hy
   have lw : py.w.n = px.w.n := hry.1.1.len.symm.trans hrx.1.1.len
   have lg : py.g.n = px.g.n := hry.1.2.1.len.symm.trans hrx.1.2.1.len
   have lb : py.b.n = px.b.n := hry.2.1.len.symm.trans hrx.2.1.len
   have hbx := hrx.2.1
   have hby := hry.2.1
   have hwx := hrx.1.1
   have hwy := hry.1.1
   have hgx := hrx.1.2.1
   have hgy := hry.1.2.1
   have hnw := hrx.1.2.2.1.2
   have hng := hrx.1.2.2.2.2
   have hnb := hrx.2.2.2
   simp only at e0 e1 e2 e3 e4 e5 e6 e7 e8 e9 e10 e11 f0 f1 f2 f3 f4 f5 f6 f7 f8 f9 f10 f11 hbx hby hwx hwy hgx hgy hnw hng hnb
   rw [lw] at f4 hwy
   rw [lg] at f5 hgy
   rw [lb] at f11 hby
   have hW : Below wr.heap.size wr ((wr.alloc (.cells #[.int .i64 t.l.id, .int .i64 t.l.ticks, .int .i64 t.l.sx, .int .i64 t.l.sy, .slice px.w.a px.w.n px.w.c, .slice px.g.a px.g.n px.g.c, .int .i64 t.l.f.1, .int .i64 t.l.f.2.1, .int .i64 t.l.f.2.2.1, .int .i64 t.l.f.2.2.2, .int .i64 t.l.bans] 33)).alloc (.cells #[.int .i64 t.l.id, .int .i64 t.l.ticks, .int .i64 t.l.sx, .int .i64 t.l.sy, .slice py.w.a px.w.n py.w.c, .slice py.g.a px.g.n py.g.c, .int .i64 t.l.f.1, .int .i64 t.l.f.2.1, .int .i64 t.l.f.2.2.1, .int .i64 t.l.f.2.2.2, .int .i64 t.l.bans] 33)) := by go_grown
   have HBX0 := Lib.hid hbx
   have HBY0 := Lib.hid hby
   have HWX0 := Lib.hid hwx
   have HWY0 := Lib.hid hwy
   have HGX0 := Lib.hid hgx
   have HGY0 := Lib.hid hgy
   have HBX := Lib.hid (hbx.below hW)
   have HBY := Lib.hid (hby.below hW)
   have HWX := Lib.hid (hwx.below hW)
   have HWY := Lib.hid (hwy.below hW)
   have HGX := Lib.hid (hgx.below hW)
   have HGY := Lib.hid (hgy.below hW)
   have HW := Lib.hid hW
   have HX := Lib.hid ((Blk.new wr 33 #[.int .i64 t.l.id, .int .i64 t.l.ticks, .int .i64 t.l.sx, .int .i64 t.l.sy, .slice px.w.a px.w.n px.w.c, .slice px.g.a px.g.n px.g.c, .int .i64 t.l.f.1, .int .i64 t.l.f.2.1, .int .i64 t.l.f.2.2.1, .int .i64 t.l.f.2.2.2, .int .i64 t.l.bans]).alloc (.cells #[.int .i64 t.l.id, .int .i64 t.l.ticks, .int .i64 t.l.sx, .int .i64 t.l.sy, .slice py.w.a px.w.n py.w.c, .slice py.g.a px.g.n py.g.c, .int .i64 t.l.f.1, .int .i64 t.l.f.2.1, .int .i64 t.l.f.2.2.1, .int .i64 t.l.f.2.2.2, .int .i64 t.l.bans] 33))
   have HY := Lib.hid (Blk.newAt (wr.alloc (.cells #[.int .i64 t.l.id, .int .i64 t.l.ticks, .int .i64 t.l.sx, .int .i64 t.l.sy, .slice px.w.a px.w.n px.w.c, .slice px.g.a px.g.n px.g.c, .int .i64 t.l.f.1, .int .i64 t.l.f.2.1, .int .i64 t.l.f.2.2.1, .int .i64 t.l.f.2.2.2, .int .i64 t.l.bans] 33)) 33 #[.int .i64 t.l.id, .int .i64 t.l.ticks, .int .i64 t.l.sx, .int .i64 t.l.sy, .slice py.w.a px.w.n py.w.c, .slice py.g.a px.g.n py.g.c, .int .i64 t.l.f.1, .int .i64 t.l.f.2.1, .int .i64 t.l.f.2.2.1, .int .i64 t.l.f.2.2.2, .int .i64 t.l.bans] (wr.heap.size + 1) (by simp))
   clear hbx hby hwx hwy hgx hgy hW lw lg lb hrx hry
   go_upto_region 8 with (fail)
   refine into_world (fun W => Below wr.heap.size wr W ∧ Blk W wr.heap.size 33 #[.int .i64 t.l.id, .int .i64 t.l.ticks, .int .i64 t.l.sx, .int .i64 t.l.sy, .slice px.w.a px.w.n px.w.c, .slice px.g.a px.g.n px.g.c, .int .i64 t.l.f.1, .int .i64 t.l.f.2.1, .int .i64 t.l.f.2.2.1, .int .i64 t.l.f.2.2.2, .int .i64 t.l.bans] ∧ Blk W (wr.heap.size + 1) 33 #[.int .i64 t.l.id, .int .i64 t.l.ticks, .int .i64 t.l.sx, .int .i64 t.l.sy, .slice py.w.a px.w.n py.w.c, .slice py.g.a px.g.n py.g.c, .int .i64 t.l.f.1, .int .i64 t.l.f.2.1, .int .i64 t.l.f.2.2.1, .int .i64 t.l.f.2.2.2, .int .i64 t.l.bans]) ⟨HW.out, HX.out, HY.out⟩ ?_
   rintro W ⟨hWW, hXX, hYY⟩
   clear HX HY HBX HBY HWX HWY HGX HGY HW
   have HX := Lib.hid hXX
   have HY := Lib.hid hYY
   have HW := Lib.hid hWW
   have HBX := Lib.hid (HBX0.out.below hWW)
   have HBY := Lib.hid (HBY0.out.below hWW)
   have HWX := Lib.hid (HWX0.out.below hWW)
   have HWY := Lib.hid (HWY0.out.below hWW)
   have HGX := Lib.hid (HGX0.out.below hWW)
   have HGY := Lib.hid (HGY0.out.below hWW)
   have m0 := fun d os => cell_regrown (((bcell hWW).1 b _ hb).trans e11) d os
   have m1 := fun d os => cell_regrown (((bcell hWW).1 b' _ hb').trans f11) d os
   have gx0 := fun d os => cell_regrown (HX.out.cell 0) d os
   have gy0 := fun d os => cell_regrown (HY.out.cell 0) d os
   have gx1 := fun d os => cell_regrown (HX.out.cell 1) d os
   have gy1 := fun d os => cell_regrown (HY.out.cell 1) d os
   have gx2 := fun d os => cell_regrown (HX.out.cell 2) d os
   have gy2 := fun d os => cell_regrown (HY.out.cell 2) d os
   have gx3 := fun d os => cell_regrown (HX.out.cell 3) d os
   have gy3 := fun d os => cell_regrown (HY.out.cell 3) d os
   have gx4 := fun d os => cell_regrown (HX.out.cell 4) d os
   have gy4 := fun d os => cell_regrown (HY.out.cell 4) d os
   have gx5 := fun d os => cell_regrown (HX.out.cell 5) d os
   have gy5 := fun d os => cell_regrown (HY.out.cell 5) d os
   have gx6 := fun d os => cell_regrown (HX.out.cell 6) d os
   have gy6 := fun d os => cell_regrown (HY.out.cell 6) d os
   have gx7 := fun d os => cell_regrown (HX.out.cell 7) d os
   have gy7 := fun d os => cell_regrown (HY.out.cell 7) d os
   have gx8 := fun d os => cell_regrown (HX.out.cell 8) d os
   have gy8 := fun d os => cell_regrown (HY.out.cell 8) d os
   have gx9 := fun d os => cell_regrown (HX.out.cell 9) d os
   have gy9 := fun d os => cell_regrown (HY.out.cell 9) d os
   have gx10 := fun d os => cell_regrown (HX.out.cell 10) d os
   have gy10 := fun d os => cell_regrown (HY.out.cell 10) d os
   have c1 := fun X (hX : Below W.heap.size W X) => sameBoard_any px.b.a py.b.a px.b.n px.b.n px.b.c py.b.c t.b t.b X (HBX.out.below hX) (HBY.out.below hX) (Nat.le_trans hnb (by decide)) (Nat.le_trans hnb (by decide))
   simp only [decide_true] at c1
   have C1 := Lib.hid c1
   clear hWW hXX hYY c1 e0 e1 e2 e3 e4 e5 e6 e7 e8 e9 e10 e11 f0 f1 f2 f3 f4 f5 f6 f7 f8 f9 f10 f11
   have hGv := fun (x y : Operand) (W : World) => run_eqGuard_agg (P := Tryz.prog) W .neq 28 x y #[.int .i64 t.l.sx, .int .i64 t.l.sy] #[.int .i64 t.l.sx, .int .i64 t.l.sy] (by kernel_rfl)
   have hNv := fun (W : World) => run_neq_struct (P := Tryz.prog) W 28 #[.int .i64 t.l.sx, .int .i64 t.l.sy] #[.int .i64 t.l.sx, .int .i64 t.l.sy]
   simp only [eqV10, Result.andThen_ok] at hNv
   have hGf := fun (x y : Operand) (W : World) => run_eqGuard_agg (P := Tryz.prog) W .neq 31 x y #[.int .i64 t.l.f.1, .int .i64 t.l.f.2.1, .int .i64 t.l.f.2.2.1, .int .i64 t.l.f.2.2.2] #[.int .i64 t.l.f.1, .int .i64 t.l.f.2.1, .int .i64 t.l.f.2.2.1, .int .i64 t.l.f.2.2.2] (by kernel_rfl)
   have hNf := fun (W : World) => run_neq_struct (P := Tryz.prog) W 31 #[.int .i64 t.l.f.1, .int .i64 t.l.f.2.1, .int .i64 t.l.f.2.2.1, .int .i64 t.l.f.2.2.2] #[.int .i64 t.l.f.1, .int .i64 t.l.f.2.1, .int .i64 t.l.f.2.2.1, .int .i64 t.l.f.2.2.2]
   simp only [eqB_run, Result.andThen_ok] at hNf
   refine wp_region_qb (by kernel_rfl) (by kernel_rfl) ?_
   repeat (go_big_quiet_step (first | (go_at_call 11; exact Calls.regrown_of (C1.out _ (below_regrown _ _ _)))))
   refine wpQuiet_nil ?_
   intro w1 hb1
   have HX1 := Lib.hid (HX.out.next hb1)
   have HY1 := Lib.hid (HY.out.next hb1)
   have HWX1 := Lib.hid (HWX.out.below hb1)
   have HWY1 := Lib.hid (HWY.out.below hb1)
   have HGX1 := Lib.hid (HGX.out.below hb1)
   have HGY1 := Lib.hid (HGY.out.below hb1)
   have HB1 := Lib.hid (below_next (below_next HB.out HW.out) hb1)
   have cx := fun o => HX1.out.cell o
   have zx := HX1.out.lt
   have cy := fun o => HY1.out.cell o
   have zy := HY1.out.lt
   clear hb1
   go_wp2_with fail
   clear cx zx cy zy hGv hNv hGf hNf m0 m1 gx0 gy0 gx1 gy1 gx2 gy2 gx3 gy3 gx4 gy4 gx5 gy5 gx6 gy6 gx7 gy7 gx8 gy8 gx9 gy9 gx10 gy10
   go_loopw [8] (fun i wi => ∃ q : Nat, q ≤ px.w.n ∧ i = .int .i64 q ∧ Hid (Below w1.heap.size w1 wi)) (fun i _ => px.w.n - (intOf i).toNat)
   case atStart => exact ⟨0, Nat.zero_le _, rfl, Below.refl _ _⟩
   case round =>
    obtain ⟨q, hq, rfl, HI⟩ := hrel
    have HXI := Lib.hid (HX1.out.next HI.out)
    have HYI := Lib.hid (HY1.out.next HI.out)
    have cx := fun o => HXI.out.cell o
    have zx := HXI.out.lt
    have cy := fun o => HYI.out.cell o
    have zy := HYI.out.lt
    by_cases hlq : q < px.w.n
    ·obtain ⟨p1, o1, z, hA1, hb1, hz1, u0, u1, u2, u3⟩ := RdB.cells (HWX1.out.below HI.out) hlq
     obtain ⟨p2, o2, z', hA2, hb2, hz2, v0, v1, v2, v3⟩ := RdB.cells (HWY1.out.below HI.out) hlq
     obtain rfl : z = z' := by rw [hz1] at hz2; exact Option.some.inj hz2
     rw [hA1] at cx
     rw [hA2] at cy
     have hG := fun (x y : Operand) (W : World) => run_eqGuard_agg (P := Tryz.prog) W .neq 31 x y #[.int .i64 z.1, .int .i64 z.2.1, .int .i64 z.2.2.1, .int .i64 z.2.2.2] #[.int .i64 z.1, .int .i64 z.2.1, .int .i64 z.2.2.1, .int .i64 z.2.2.2] (by kernel_rfl)
     have hN := fun (W : World) => run_neq_struct (P := Tryz.prog) W 31 #[.int .i64 z.1, .int .i64 z.2.1, .int .i64 z.2.2.1, .int .i64 z.2.2.2] #[.int .i64 z.1, .int .i64 z.2.1, .int .i64 z.2.2.1, .int .i64 z.2.2.2]
     simp only [eqB_run, Result.andThen_ok] at hN
     clear hz1 hz2
     go_wp2
     go_quiet (fail)
     go_wp2
     exact ⟨⟨q + 1, by omega, by go_num, ⟨HI.out.os, HI.out.tape, HI.out.output, HI.out.size, HI.out.block⟩⟩, by simp [intOf]; omega⟩
    ·rename World => wv
     have HI0 := Lib.hid HI.out
     have HX2 := Lib.hid HXI.out
     have HY2 := Lib.hid HYI.out
     have HGX2 := Lib.hid (HGX1.out.below HI.out)
     have HGY2 := Lib.hid (HGY1.out.below HI.out)
     go_wp2_with fail
     clear cx zx cy zy HI HXI HYI
     go_loopw [9] (fun i wi => ∃ q : Nat, q ≤ px.g.n ∧ i = .int .i64 q ∧ Hid (Below wv.heap.size wv wi)) (fun i _ => px.g.n - (intOf i).toNat)
     case atStart => exact ⟨0, Nat.zero_le _, rfl, Below.refl _ _⟩
     case round =>
      obtain ⟨q, hq, rfl, HI⟩ := hrel
      have HXI := Lib.hid (HX2.out.next HI.out)
      have HYI := Lib.hid (HY2.out.next HI.out)
      have cx := fun o => HXI.out.cell o
      have zx := HXI.out.lt
      have cy := fun o => HYI.out.cell o
      have zy := HYI.out.lt
      by_cases hlq : q < px.g.n
      ·obtain ⟨p1, o1, z, hA1, hb1, hz1, u0, u1, u2, u3⟩ := RdB.cells (HGX2.out.below HI.out) hlq
       obtain ⟨p2, o2, z', hA2, hb2, hz2, v0, v1, v2, v3⟩ := RdB.cells (HGY2.out.below HI.out) hlq
       obtain rfl : z = z' := by rw [hz1] at hz2; exact Option.some.inj hz2
       rw [hA1] at cx
       rw [hA2] at cy
       have hG := fun (x y : Operand) (W : World) => run_eqGuard_agg (P := Tryz.prog) W .neq 31 x y #[.int .i64 z.1, .int .i64 z.2.1, .int .i64 z.2.2.1, .int .i64 z.2.2.2] #[.int .i64 z.1, .int .i64 z.2.1, .int .i64 z.2.2.1, .int .i64 z.2.2.2] (by kernel_rfl)
       have hN := fun (W : World) => run_neq_struct (P := Tryz.prog) W 31 #[.int .i64 z.1, .int .i64 z.2.1, .int .i64 z.2.2.1, .int .i64 z.2.2.2] #[.int .i64 z.1, .int .i64 z.2.1, .int .i64 z.2.2.1, .int .i64 z.2.2.2]
       simp only [eqB_run, Result.andThen_ok] at hN
       clear hz1 hz2
       go_wp2
       go_quiet (fail)
       go_wp2
       exact ⟨⟨q + 1, by omega, by go_num, ⟨HI.out.os, HI.out.tape, HI.out.output, HI.out.size, HI.out.block⟩⟩, by simp [intOf]; omega⟩
      ·go_wp2_with fail
       exact ⟨⟨k + 1, by omega, by go_num, (HB1.out.trans (HI0.out.mono HB1.out.size)).trans (HI.out.mono (Nat.le_trans HB1.out.size HI0.out.size))⟩, by simp [intOf]; omega⟩
  ·go_wp2
   go_ret
   exact ⟨rfl, HB.out⟩
set_option maxRecDepth 100000 in
set_option maxHeartbeats 2000000 in
theorem sameService_same (t k g t' k' g' : Sl) (S : Svc) (w : World) (hr : RdS w t k g S) (hr' : RdS w t' k' g' S) :
  Calls Tryz.prog 9 #[svV t k g, svV t' k' g'] w fun e w' => e = .returned (.bool true) ∧ Below w.heap.size w w' := by
 obtain ⟨⟨xs, hxs, hr1⟩, hr2, hr3, ⟨_, hn1⟩, ⟨_, hn2⟩, _, hn3⟩ := hr
 obtain ⟨⟨ys, hys, hs1⟩, hs2, hs3, _, _, _⟩ := hr'
 have ht : t'.n = t.n := by
  have h1 := hr1.1.len
  have h2 := hs1.1.len
  have h3 := congrArg List.length (hxs.trans hys.symm)
  simp at h3
  omega
 have hk : k'.n = k.n := hs2.len.symm.trans hr2.len
 have hg : g'.n = g.n := hs3.len.symm.trans hr3.len
 obtain ⟨ta, tn, tc⟩ := t'
 obtain ⟨ka, kn, kc⟩ := k'
 obtain ⟨ga, gn, gc⟩ := g'
 simp only at ht hk hg hs1 hs2 hs3
 subst ht hk hg
 have HXY := Lib.hid (hxs.trans hys.symm)
 have HR1 := Lib.hid hr1
 have HS1 := Lib.hid hs1
 have HR2 := Lib.hid hr2
 have HR3 := Lib.hid hr3
 have HS2 := Lib.hid hs2
 have HS3 := Lib.hid hs3
 clear hr1 hs1 hr2 hr3 hs2 hs3 hxs hys
 have hW : Below w.heap.size w ((w.alloc (.cells #[.slice t.a t.n t.c, .slice k.a k.n k.c, .slice g.a g.n g.c] 26)).alloc (.cells #[.slice ta t.n tc, .slice ka k.n kc, .slice ga g.n gc] 26)) := by go_grown
 have HW := Lib.hid hW
 have HKA := Lib.hid ((Blk.new w 26 #[.slice t.a t.n t.c, .slice k.a k.n k.c, .slice g.a g.n g.c]).alloc (.cells #[.slice ta t.n tc, .slice ka k.n kc, .slice ga g.n gc] 26))
 have HKB := Lib.hid (Blk.newAt (w.alloc (.cells #[.slice t.a t.n t.c, .slice k.a k.n k.c, .slice g.a g.n g.c] 26)) 26 #[.slice ta t.n tc, .slice ka k.n kc, .slice ga g.n gc] (w.heap.size + 1) (by simp))
 clear hW
 go_enter Tryz.func9, Tryz.ntmps9
 go_wp2_with fail
 refine (sameTracks_same _ _ _ _ _ _ _ _ (HR1.out.below HW.out) (HS1.out.below HW.out) HXY.out hn1).mono ?_
 rintro e w0 ⟨rfl, hb0⟩
 have HW0 := Lib.hid (below_next HW.out hb0)
 have HKA0 := Lib.hid (HKA.out.next hb0)
 have HKB0 := Lib.hid (HKB.out.next hb0)
 have ca := fun o => HKA0.out.cell o
 have cb := fun o => HKB0.out.cell o
 clear hb0
 go_wp2_with fail
 refine (sameInts_same _ _ _ _ _ S.keys _ (HR2.out.below HW0.out) (HS2.out.below HW0.out) hn2).mono ?_
 rintro e w1 ⟨rfl, hb1⟩
 have HW1 := Lib.hid (below_next HW0.out hb1)
 have hka := HKA0.out.next hb1
 have hkb := HKB0.out.next hb1
 clear ca cb
 have ca := fun o => hka.cell o
 have cb := fun o => hkb.cell o
 clear hb1 hka hkb
 go_wp2_with fail
 refine (sameInts_same _ _ _ _ _ S.tags _ (HR3.out.below HW1.out) (HS3.out.below HW1.out) hn3).mono ?_
 rintro e w2 ⟨rfl, hb2⟩
 have HW2 := Lib.hid (below_next HW1.out hb2)
 clear hb2 ca cb
 go_wp2_with fail
 go_ret
 exact ⟨rfl, HW2.out⟩
end Go.Proofs.YtemnlheidghbmaaGreat
namespace Go.Proofs.YtemnlheidghbmaaGreat
open Go.RowKit Go.Sort
set_option maxRecDepth 100000 in
set_option maxHeartbeats 8000000 in
theorem implServiceLevel_any (t k g : Sl) (S : Svc) (l : Lvl) (ws gs : Sl) (w : World) (hr : RdS w t k g S) (hl : RdL w l ws gs) :
  Calls Tryz.prog 7 #[svV t k g, lvlV l ws gs] w (SvcPost w.heap.size (levelS S l) w) := by
 have HRS := Lib.hid hr
 have HRL := Lib.hid hl
 clear hr hl
 go_enter Tryz.func7, Tryz.ntmps7
 go_upto_region 1 with (fail)
 refine into_world (fun W => Below w.heap.size w W ∧ W.heap.size = w.heap.size + 3 ∧ Blk W w.heap.size 26 #[.slice t.a t.n t.c, .slice k.a k.n k.c, .slice g.a g.n g.c] ∧ Blk W (w.heap.size + 1) 33 #[.int .i64 l.id, .int .i64 l.ticks, .int .i64 l.sx, .int .i64 l.sy, .slice ws.a ws.n ws.c, .slice gs.a gs.n gs.c, .int .i64 l.f.1, .int .i64 l.f.2.1, .int .i64 l.f.2.2.1, .int .i64 l.f.2.2.2, .int .i64 l.bans] ∧ Blk W (w.heap.size + 2) 26 #[.slice none 0 0, .slice none 0 0, .slice none 0 0]) ⟨by go_grown, by simp, ((Blk.new _ _ _).alloc _).alloc _, (Blk.newAt _ _ _ _ (by simp)).alloc _, Blk.newAt _ _ _ _ (by simp)⟩ ?_
 rintro W ⟨hbw, hwz, hka, hkl, hkr⟩
 have HBW := Lib.hid hbw
 have HKA := Lib.hid hka
 have HKL := Lib.hid hkl
 have HKR := Lib.hid hkr
 have ca := fun o => hka.cell o
 have za := hka.lt
 have cl := fun o => hkl.cell o
 have zl := hkl.lt
 clear hbw hka hkl hkr
 go_wp2_with fail
 refine (implServiceValid_any _ _ _ S _ (HRS.out.below HBW.out)).mono ?_
 rintro e w1 ⟨rfl, hb1⟩
 have HB1 := Lib.hid (below_next HBW.out hb1)
 have HA1 := Lib.hid (HKA.out.next hb1)
 have HL1 := Lib.hid (HKL.out.next hb1)
 have HR1 := Lib.hid (HKR.out.next hb1)
 have hs1 := hb1.size
 clear hb1 ca za cl zl
 have ca := fun o => HA1.out.cell o
 have za := HA1.out.lt
 have cl := fun o => HL1.out.cell o
 have zl := HL1.out.lt
 have cr := fun o => HR1.out.cell o
 have fr := fun o => HR1.out.frozen o
 have zr := HR1.out.lt
 cases hv : validS S
 ·have HBAD := Lib.hid (levelS_bad (S := S) (l := l) (by rw [hv]; rfl))
  have HB2 := HB1
  clear hv
  go_wp2_with fail
  refine bodyPost_ret (v := .tuple #[svV ⟨none, 0, 0⟩ ⟨none, 0, 0⟩ ⟨none, 0, 0⟩, .bool false]) (by simp [results, Tryz.results7, go_sem, cr]) rfl ?_
  rw [HBAD.out]
  refine ⟨⟨none, 0, 0⟩, ⟨none, 0, 0⟩, ⟨none, 0, 0⟩, rfl, OwS.bare _ _ _ _ _ _, ?_⟩
  iterate 3 (refine Below.setCell ?_ (by simp; omega) _)
  exact HB2.out
 ·have HV := Lib.hid hv
  clear hv
  go_wp2_with fail
  refine (implLevelValid_any l ws gs _ (HRL.out.below HB1.out)).mono ?_
  rintro e w2 ⟨rfl, hb2⟩
  have HB2 := Lib.hid (below_next HB1.out hb2)
  have HA2 := Lib.hid (HA1.out.next hb2)
  have HL2 := Lib.hid (HL1.out.next hb2)
  have HR2 := Lib.hid (HR1.out.next hb2)
  have hs2 := hb2.size
  clear hb2 ca za cl zl cr fr zr
  have ca := fun o => HA2.out.cell o
  have za := HA2.out.lt
  have cl := fun o => HL2.out.cell o
  have zl := HL2.out.lt
  have cr := fun o => HR2.out.cell o
  have fr := fun o => HR2.out.frozen o
  have zr := HR2.out.lt
  cases h2 : levelOk l
  ·have HBAD := Lib.hid (levelS_bad (S := S) (l := l) (by rw [h2]; simp))
   clear h2
   go_wp2_with fail
   refine bodyPost_ret (v := .tuple #[svV ⟨none, 0, 0⟩ ⟨none, 0, 0⟩ ⟨none, 0, 0⟩, .bool false]) (by simp [results, Tryz.results7, go_sem, cr]) rfl ?_
   rw [HBAD.out]
   refine ⟨⟨none, 0, 0⟩, ⟨none, 0, 0⟩, ⟨none, 0, 0⟩, rfl, OwS.bare _ _ _ _ _ _, ?_⟩
   iterate 3 (refine Below.setCell ?_ (by simp; omega) _)
   exact HB2.out
  ·have H2 := Lib.hid h2
   clear h2
   go_wp2_with fail
   refine (copyService_any _ _ _ S _ (HRS.out.below HB2.out)).mono ?_
   rintro e w3 ⟨t3, k3, g3, rfl, ho3, hb3⟩
   have HO3 := Lib.hid ho3
   have HB3 := Lib.hid (below_next HB2.out hb3)
   have HL3 := Lib.hid (HL2.out.next hb3)
   have HR3 := Lib.hid (HR2.out.next hb3)
   have hs3 := hb3.size
   clear ca za cl zl cr fr zr ho3 hb3
   have cl := fun o => HL3.out.cell o
   have zl := HL3.out.lt
   have cr := fun o => HR3.out.cell o
   have fr := fun o => HR3.out.frozen o
   have zr := HR3.out.lt
   go_upto_region 2 with (fail)
   obtain ⟨⟨xs, hxs, hT⟩, _⟩ := HO3.out
   refine (findTrack_any t3 k3 g3 xs l.id _ (hT.rd.below (ba (Below.refl _ _))) hT.2.2.2.2).mono ?_
   rintro e w4 ⟨i, rfl, he, hb4⟩
   have hal : Below w3.heap.size w3 w4 := ba hb4
   have hlr := level_id H2.out
   have HE := Lib.hid he
   have HXS := Lib.hid hxs
   have HT := Lib.hid hT
   have HB4 := Lib.hid (below_next HB3.out hal)
   have HL4 := Lib.hid (HL3.out.next hal)
   have HR4 := Lib.hid (HR3.out.next hal)
   have HO4 := Lib.hid (HO3.out.next hal)
   have HS4 := Lib.hid ((Blk.new w3 26 #[.slice t3.a t3.n t3.c, .slice k3.a k3.n k3.c, .slice g3.a g3.n g3.c]).next hb4)
   have HAL := Lib.hid hal
   have hs4 := hal.size
   have hn3 : t3.n = S.ts.length := by
    have h := hT.1.ow.len
    rw [cellsT_len] at h
    have h' : xs.length = S.ts.length := by rw [← hxs, List.length_map]
    omega
   have hn4 : t3.n ≤ 4 := by rw [hn3]; exact (validS_of HV.out).2.1
   have hsh := search_hit HV.out hxs he (by omega) (by omega)
   clear cl zl cr fr zr he hb4 hxs hT hal
   have cl := fun o => HL4.out.cell o
   have zl := HL4.out.lt
   have cr := fun o => HR4.out.cell o
   have fr := fun o => HR4.out.frozen o
   have zr := HR4.out.lt
   have cs := fun o => HS4.out.cell o
   have fs := fun o => HS4.out.frozen o
   have zs := HS4.out.lt
   rcases hsh with ⟨hh, hf⟩ | ⟨hh, hf⟩
   ·have HBAD := Lib.hid (levelS_known HV.out H2.out hf)
    rw [hh]
    clear hh hf hn3
    go_wp2_with fail
    refine bodyPost_ret (v := .tuple #[svV t3 k3 g3, .bool false]) (by first | (simp [results, Tryz.results7, go_sem, cr]; done) | (simp [results, Tryz.results7, go_sem, cr]; omega)) rfl ?_
    rw [HBAD.out]
    have hend : ∀ Z : World, Frm (w.heap.size + 2) (w.heap.size + 3) w4 Z → SvcPost w.heap.size (S, false) w (.returned (.tuple #[svV t3 k3 g3, .bool false])) Z := fun Z hZ =>
     ⟨t3, k3, g3, rfl, (HO4.out.frm hZ (.inr (by omega))).mono (by omega) (Nat.le_trans hs4 hZ.size), HB4.out.trans (hZ.below (by omega) HB4.out.size)⟩
    refine hend _ ?_
    iterate 3 (refine Frm.set_ ?_ (by simp) (by simp) _)
    exact Frm.refl _ _ _
   ·rw [hh]
    have HF := Lib.hid hf
    have HN3 := Lib.hid hn3
    clear hh hf hn3
    by_cases hfull : t3.n = 4
    ·have HBAD := Lib.hid (levelS_full HV.out H2.out (by rw [← HN3.out]; omega))
     go_wp2_with fail
     refine bodyPost_ret (v := .tuple #[svV t3 k3 g3, .bool false]) (by first | (simp [results, Tryz.results7, go_sem, cr]; done) | (simp [results, Tryz.results7, go_sem, cr]; omega)) rfl ?_
     rw [HBAD.out]
     have hend : ∀ Z : World, Frm (w.heap.size + 2) (w.heap.size + 3) w4 Z → SvcPost w.heap.size (S, false) w (.returned (.tuple #[svV t3 k3 g3, .bool false])) Z := fun Z hZ =>
      ⟨t3, k3, g3, rfl, (HO4.out.frm hZ (.inr (by omega))).mono (by omega) (Nat.le_trans hs4 hZ.size), HB4.out.trans (hZ.below (by omega) HB4.out.size)⟩
     refine hend _ ?_
     iterate 3 (refine Frm.set_ ?_ (by simp) (by simp) _)
     exact Frm.refl _ _ _
    ·go_wp2_with fail
     have HFL := Lib.hid (show t3.n < 4 by omega)
     generalize hbb : ((t3.n : Int) == 4) = bb
     clear hfull hbb
     refine wp_region_inv2 (by kernel_rfl) (by kernel_rfl) (fun listed a w' => ∃ (s35 s36 s37 s38 s39 s40 s41 s42 s43 : Value) (a1 b1 : Sl) (q : Nat), a = { tmps := #[svV t k g, lvlV l ws gs, Value.pointer (some (⟨w.heap.size, 0, none⟩ : Addr)), Value.pointer (some (⟨w.heap.size + 1, 0, none⟩ : Addr)), Value.pointer (some (⟨w.heap.size + 1 + 1, 0, none⟩ : Addr)), Value.bool false, Value.pointer (some (⟨w3.heap.size, 0, none⟩ : Addr)), Value.int .i64 (i : Int), Value.bool false, Value.agg #[Value.slice t.a t.n t.c, Value.slice k.a k.n k.c, Value.slice g.a g.n g.c], Value.bool true, Value.bool false, Value.bool false, Value.agg #[Value.int .i64 l.id, Value.int .i64 l.ticks, Value.int .i64 l.sx, Value.int .i64 l.sy, Value.slice ws.a ws.n ws.c, Value.slice gs.a gs.n gs.c, Value.int .i64 l.f.1, Value.int .i64 l.f.2.1, Value.int .i64 l.f.2.2.1, Value.int .i64 l.f.2.2.2, Value.int .i64 l.bans], Value.bool true, Value.bool false, Value.bool false, undef, Value.agg #[Value.slice t.a t.n t.c, Value.slice k.a k.n k.c, Value.slice g.a g.n g.c], svV t3 k3 g3, Value.tuple #[Value.int .i64 (i : Int), Value.bool false], Value.agg #[Value.slice t3.a t3.n t3.c, Value.slice k3.a k3.n k3.c, Value.slice g3.a g3.n g3.c], Value.pointer (some (⟨w.heap.size + 1, 0, none⟩ : Addr)), Value.int .i64 l.id, Value.tuple #[Value.int .i64 (i : Int), Value.bool false], Value.int .i64 (i : Int), Value.bool false, Value.bool false, Value.bool false, Value.pointer (some (⟨w3.heap.size, 0, none⟩ : Addr)), Value.slice t3.a t3.n t3.c, Value.int .i64 (t3.n : Int), Value.bool bb, Value.bool bb, undef, s35, s36, s37, s38, s39, s40, s41, s42, s43, undef], defers := [] } ∧ ((Dl listed 7 = false ∧ L1 w3.heap.size t3 i l ws gs w4.heap.size w4 (Dl listed) s35 s36 s37 s38 s39 s40 s41 s42 s43 a1 b1 q w') ∨ (Dl listed 7 = true ∧ L2 w3.heap.size (fun v X => ∃ A4 c4, v = .slice A4 (t3.n + 1) c4 ∧ LvP w w2.heap.size w3.heap.size (t3.n + 1) k3 g3 ⟨S.ts.take i ++ ⟨l, []⟩ :: S.ts.drop i, S.keys, S.tags⟩ A4 c4 (.slice t3.a t3.n t3.c) X) (fun X => ∃ A4 c4, LvP w w2.heap.size w3.heap.size (t3.n + 1) k3 g3 ⟨S.ts.take i ++ ⟨l, []⟩ :: S.ts.drop i, S.keys, S.tags⟩ A4 c4 (.slice A4 (t3.n + 1) c4) X) (Dl listed) s42 s43 w'))) ?_ ?_ ?_
     ·refine ⟨undef, undef, undef, undef, undef, undef, undef, undef, undef, ⟨none, 0, 0⟩, ⟨none, 0, 0⟩, 0, rfl, .inl ⟨rfl, { bel := ?_, hN := rfl, f0 := ?_, f1 := ?_, f2 := ?_, f3 := ?_, f4 := ?_, f5 := ?_, f6 := ?_, f8 := ?_ }⟩⟩
      ·exact ⟨rfl, rfl, rfl, Nat.le_refl _, fun _ _ => rfl⟩
      all_goals (intro q'; cases q')
     ·intro listed a w' j o_ hs hcl ho hl hd hR K hK
      obtain ⟨s35, s36, s37, s38, s39, s40, s41, s42, s43, a1, b1, q, rfl, ⟨h7, hc⟩ | ⟨h7, he⟩⟩ := hR
      ·have hltj : j < 10 := (Array.getElem?_eq_some_iff.1 ho).1
       rcases cases10 hltj with rfl | rfl | rfl | rfl | rfl | rfl | rfl | rfl | rfl | rfl
       ·cases (show some _ = some o_ from ho)
        go_simp
        exact hK _ _ ⟨_, s36, s37, s38, s39, s40, s41, s42, s43, a1, b1, q, rfl, .inl ⟨by rw [Dl_set (by rw [hs]; decide), upd_ne _ (by decide)]; exact h7, by rw [Dl_set (by rw [hs]; decide)]; exact hc.u0 hl⟩⟩
       ·cases (show some _ = some o_ from ho)
        obtain rfl := hc.f0 (dep_ hs (by decide) (hd ⟨0, .data⟩ (by simp) rfl))
        have cc := (HS4.out.next hc.bel).cell 0
        go_simp
        exact hK _ _ ⟨_, _, s37, s38, s39, s40, s41, s42, s43, a1, b1, q, rfl, .inl ⟨by rw [Dl_set (by rw [hs]; decide), upd_ne _ (by decide)]; exact h7, by rw [Dl_set (by rw [hs]; decide)]; exact hc.u1 hl⟩⟩
       ·cases (show some _ = some o_ from ho)
        go_simp
        exact hK _ _ ⟨s35, s36, _, s38, s39, s40, s41, s42, s43, a1, b1, q, rfl, .inl ⟨by rw [Dl_set (by rw [hs]; decide), upd_ne _ (by decide)]; exact h7, by rw [Dl_set (by rw [hs]; decide)]; exact hc.u2 hl⟩⟩
       ·cases (show some _ = some o_ from ho)
        have m0 := (HL4.out.next hc.bel).cell 0
        have m1 := (HL4.out.next hc.bel).cell 1
        have m2 := (HL4.out.next hc.bel).cell 2
        have m3 := (HL4.out.next hc.bel).cell 3
        have m4 := (HL4.out.next hc.bel).cell 4
        have m5 := (HL4.out.next hc.bel).cell 5
        have m6 := (HL4.out.next hc.bel).cell 6
        have m7 := (HL4.out.next hc.bel).cell 7
        have m8 := (HL4.out.next hc.bel).cell 8
        have m9 := (HL4.out.next hc.bel).cell 9
        have m10 := (HL4.out.next hc.bel).cell 10
        go_simp
        exact hK _ _ ⟨s35, s36, s37, _, s39, s40, s41, s42, s43, a1, b1, q, rfl, .inl ⟨by rw [Dl_set (by rw [hs]; decide), upd_ne _ (by decide)]; exact h7, by rw [Dl_set (by rw [hs]; decide)]; exact hc.u3 hl⟩⟩
       ·cases (show some _ = some o_ from ho)
        obtain rfl := hc.f3 (dep_ hs (by decide) (hd ⟨3, .data⟩ (by simp) rfl))
        go_simp
        go_at_call 27
        refine (copyLevel_any l ws gs _ (HRL.out.below (below_next HB4.out hc.bel))).mono ?_
        rintro e y1 ⟨a2, b2, rfl, hol, hnd, hb1⟩
        exact hK _ _ ⟨s35, s36, s37, _, _, s40, s41, s42, s43, a2, b2, q, rfl, .inl ⟨by rw [Dl_set (by rw [hs]; decide), upd_ne _ (by decide)]; exact h7, by rw [Dl_set (by rw [hs]; decide)]; exact (hc.next hb1).u4 hl a2 b2 (hol.mono hc.bel.size (Nat.le_refl _)) hnd⟩⟩
       ·cases (show some _ = some o_ from ho)
        have d4 := (dep_ hs (by decide) (hd ⟨4, .data⟩ (by simp) rfl))
        obtain ⟨rfl, _, _⟩ := hc.f4 d4
        go_simp
        exact hK _ _ ⟨s35, s36, s37, s38, _, _, s41, s42, s43, a1, b1, q, rfl, .inl ⟨by rw [Dl_set (by rw [hs]; decide), upd_ne _ (by decide)]; exact h7, by rw [Dl_set (by rw [hs]; decide)]; exact hc.u5 hl d4⟩⟩
       ·cases (show some _ = some o_ from ho)
        have d5 := (dep_ hs (by decide) (hd ⟨5, .data⟩ (by simp) rfl))
        obtain ⟨d4, rfl⟩ := hc.f5 d5
        go_simp
        exact hK _ _ ⟨s35, s36, s37, s38, s39, _, _, s42, s43, a1, b1, _, rfl, .inl ⟨by rw [Dl_set (by rw [hs]; decide), upd_ne _ (by decide)]; exact h7, by rw [Dl_set (by rw [hs]; decide)]; exact (hc.next (ba (Below.refl _ _))).u6 hl d5 _ hc.bel.size (Blk.new _ _ _)⟩⟩
       ·cases (show some _ = some o_ from ho)
        have d1 := (dep_ hs (by decide) (hd ⟨1, .data⟩ (by simp) rfl))
        have d2 := (dep_ hs (by decide) (hd ⟨2, .data⟩ (by simp) rfl))
        have d6 := (dep_ hs (by decide) (hd ⟨6, .data⟩ (by simp) rfl))
        obtain rfl := hc.f1 d1
        obtain rfl := hc.f2 d2
        obtain ⟨d5, rfl, hq, hbq⟩ := hc.f6 d6
        obtain ⟨d4, e5⟩ := hc.f5 d5
        obtain ⟨_, hL, hnd⟩ := hc.f4 d4
        have r6 := hd ⟨6, .data⟩ (by simp) rfl
        have r1 := hd ⟨1, .data⟩ (by simp) rfl
        have r2 := hd ⟨2, .data⟩ (by simp) rfl
        have r5 := hcl 6 _ rfl r6 ⟨5, .data⟩ (by simp) rfl
        have r4 := hcl 5 _ rfl r5 ⟨4, .data⟩ (by simp) rfl
        have r3 := hcl 4 _ rfl r4 ⟨3, .data⟩ (by simp) rfl
        have r0 := hcl 1 _ rfl r1 ⟨0, .data⟩ (by simp) rfl
        have hdone : ∀ j, j < 7 → Dl listed j = true := fun j hj => by
         rcases cases10 (show j < 10 by omega) with rfl | rfl | rfl | rfl | rfl | rfl | rfl | rfl | rfl | rfl
         ·exact dep_ hs (by decide) r0
         ·exact dep_ hs (by decide) r1
         ·exact dep_ hs (by decide) r2
         ·exact dep_ hs (by decide) r3
         ·exact dep_ hs (by decide) r4
         ·exact dep_ hs (by decide) r5
         ·exact dep_ hs (by decide) r6
         ·omega
         ·omega
         ·omega
        have hno9 : Dl listed 9 = true → False := fun q' => by
         have := hcl 9 _ rfl (by rw [getD_any (by rw [hs]; decide) false true]; exact q') ⟨7, .data⟩ (by simp) rfl
         rw [getD_any (by rw [hs]; decide) false true, hl] at this
         cases this
        obtain ⟨⟨xs3, hxs3, hT3⟩, hK3, hG3, hnd3⟩ := HO4.out.next hc.bel
        have hnl : xs3.length = t3.n := by
         have h := hT3.1.ow.len
         rw [cellsT_len] at h
         omega
        have hiL : i ≤ t3.n := by
         have h1 := HE.out.1
         have h2 : xs.length = xs3.length := by
          simpa using congrArg List.length (HXS.out.trans hxs3.symm)
         omega
        have hsz' := hc.bel.size
        go_simp
        go_at_call 26
        refine (insT_any w2.heap.size t3.a t3.n t3.c i (cellsT xs3) (encT ((⟨a1, b1, ⟨none, 0, 0⟩⟩, ⟨l, []⟩) : Row)) q 1 _ _ _ hT3.1.ow hbq (Src.blk hbq (encT_len _)) (fun g hg hcap => ?_) (encT_one _) (cellsX_oneCell encT_one _) hiL (by omega) (by omega)).mono ?_
        ·have := hT3.1.2 hcap g hg
         omega
        rintro e y1 ⟨A4, c4, rfl, hO4, hb4, hg4⟩
        refine hK _ _ ⟨s35, _, _, s38, _, _, _, _, s43, a1, b1, q, rfl, .inr ⟨by rw [Dl_set (by rw [hs]; decide), upd_self], ?_⟩⟩
        rw [Dl_set (by rw [hs]; decide)]
        refine { all := fun j hj => ?_, f8 := fun q' => hc.f8 (by rw [upd_ne _ (by decide)] at q'; exact q'), old := fun _ => ?_, fin := fun q' => (hno9 (by rw [upd_ne _ (by decide)] at q'; exact q')).elim }
        ·by_cases hj7 : j = 7
         ·subst hj7; exact upd_self _ _
         ·rw [upd_ne _ hj7]; exact hdone j (by omega)
        ·exact ⟨A4, c4, rfl, lv_insert (m := w3.heap.size) (hi := w'.heap.size) hxs3 hT3 hK3 hG3 hnd3 (hL.mono (by omega) (Nat.le_refl _)) hnd (by omega) (by omega) (Nat.le_refl _) hO4 hb4 hg4 hn4 (below_next HB4.out hc.bel) (by omega) (HR4.out.next hc.bel) (HS4.out.next hc.bel)⟩
       ·cases (show some _ = some o_ from ho)
        go_simp
        exact hK _ _ ⟨s35, s36, s37, s38, s39, s40, s41, s42, _, a1, b1, q, rfl, .inl ⟨by rw [Dl_set (by rw [hs]; decide), upd_ne _ (by decide)]; exact h7, by rw [Dl_set (by rw [hs]; decide)]; exact hc.u8 hl⟩⟩
       ·cases (show some _ = some o_ from ho)
        have d7 := (dep_ hs (by decide) (hd ⟨7, .data⟩ (by simp) rfl))
        rw [h7] at d7
        cases d7
      ·have hltj : j < 10 := (Array.getElem?_eq_some_iff.1 ho).1
       rcases (show j < 8 ∨ j = 8 ∨ j = 9 by omega) with h8 | rfl | rfl
       ·have := he.all j h8
        unfold Dl at this
        rw [hl] at this
        cases this
       ·cases (show some _ = some o_ from ho)
        go_simp
        refine hK _ _ ⟨s35, s36, s37, s38, s39, s40, s41, s42, _, a1, b1, q, rfl, .inr ⟨by rw [Dl_set (by rw [hs]; decide), upd_ne _ (by decide)]; exact h7, ?_⟩⟩
        rw [Dl_set (by rw [hs]; decide)]
        exact { all := fun j hj => by rw [upd_ne _ (by omega)]; exact he.all j hj, f8 := fun _ => rfl, old := fun q' => he.old (by rw [upd_ne _ (by decide)] at q'; exact q'), fin := fun q' => he.fin (by rw [upd_ne _ (by decide)] at q'; exact q') }
       ·cases (show some _ = some o_ from ho)
        obtain rfl := he.f8 (dep_ hs (by decide) (hd ⟨8, .data⟩ (by simp) rfl))
        obtain ⟨A4, c4, rfl, hv⟩ := he.old hl
        have cz := fun q => hv.2.2.2.cell q
        have fz := fun q => hv.2.2.2.frozen q
        go_simp
        refine hK _ _ ⟨s35, s36, s37, s38, s39, s40, s41, _, _, a1, b1, q, rfl, .inr ⟨by rw [Dl_set (by rw [hs]; decide), upd_ne _ (by decide)]; exact h7, ?_⟩⟩
        rw [Dl_set (by rw [hs]; decide)]
        exact { all := fun j hj => by rw [upd_ne _ (by omega)]; exact he.all j hj, f8 := fun _ => rfl, old := fun q' => (by rw [upd_self] at q'; cases q'), fin := fun _ => ⟨A4, c4, hv.store (by omega) _⟩ }
     ·intro listed a w' hall hR
      obtain ⟨s35, s36, s37, s38, s39, s40, s41, s42, s43, a1, b1, q, rfl, ⟨h7, hc⟩ | ⟨h7, he⟩⟩ := hR
      ·have := hall 7 (by decide)
       unfold Dl at h7
       rw [h7] at this
       cases this
      ·obtain ⟨A4, c4, hos, hbw, hrr, hkk⟩ := he.fin (hall 9 (by decide))
       clear he hall
       have HOS := Lib.hid hos
       have HBB := Lib.hid hbw
       have HDN := Lib.hid (levelS_done HV.out H2.out HF.out (by rw [← HN3.out]; exact HFL.out) (search_place HV.out HXS.out HE.out hlr.1 hlr.2))
       have ck0 := hkk.cell 0
       have ck1 := hkk.cell 1
       have ck2 := hkk.cell 2
       have fk := fun q => hkk.frozen q
       have zk := hkk.lt
       have crr := fun q => hrr.cell q
       have frr := fun q => hrr.frozen q
       have zrr := hrr.lt
       clear hos hbw cr fr zr cs fs zs
       go_wp2_with fail
       refine bodyPost_ret (v := .tuple #[svV ⟨A4, t3.n + 1, c4⟩ k3 g3, .bool true]) (by simp [results, Tryz.results7, go_sem, crr]) rfl ?_
       rw [HDN.out]
       have hend : ∀ Z : World, Frm (w.heap.size + 2) (w.heap.size + 3) w' Z → SvcPost w.heap.size (⟨S.ts.take i ++ ⟨l, []⟩ :: S.ts.drop i, S.keys, S.tags⟩, true) w (.returned (.tuple #[svV ⟨A4, t3.n + 1, c4⟩ k3 g3, .bool true])) Z := fun Z hZ =>
        ⟨_, k3, g3, rfl, (HOS.out.frm hZ (.inr (by omega))).mono (by omega) hZ.size, HBB.out.trans (hZ.below (by omega) HBB.out.size)⟩
       refine hend _ ?_
       iterate 3 (refine Frm.set_ ?_ (by simp) (by simp) _)
       exact Frm.refl _ _ _
end Go.Proofs.YtemnlheidghbmaaGreat

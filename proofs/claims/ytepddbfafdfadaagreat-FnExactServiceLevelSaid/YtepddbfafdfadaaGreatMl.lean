/-
  laws.markLevel: the boxes of a level of the call's own are turned into numbers.
-/
import Derived.Test.YtepddbfafdfadaaGreatMt
import Derived.Test.YtepddbfafdfadaaGreatCr
namespace Go.Proofs.YtepddbfafdfadaaGreat
open Go.RowKit Go.ChangeShapes Go.WideShapes Go.ChangeAt

set_option maxRecDepth 100000 in
set_option maxHeartbeats 4000000 in
theorem markLevel_any (lo hi : Nat) (l : Lvl) (ws gs : Sl) (k0 : Int) (w : World) (h : OwL lo hi w l ws gs) (hnd : (blkOf ws ++ blkOf gs).Nodup) (hk0 : 0 ≤ k0) (hk1 : k0 ≤ 562949953421312) :
    Calls Tryz.prog 21 #[lvlV l ws gs, .int .i64 k0] w fun e w' => ∃ k' : Int, e = .returned (.int .i64 k') ∧ Frm lo hi w w' ∧ k0 ≤ k' ∧ k' ≤ k0 + 8388608 := by
  obtain ⟨hw, hg, hn1, hn2⟩ := h
  have HW := Lib.hid hw
  have HG := Lib.hid hg
  have HND := Lib.hid hnd
  clear hw hg hnd
  have HB0 := Lib.hid ((Below.refl w.heap.size w).alloc (Nat.le_refl _) (.cells #[.int .i64 l.id, .int .i64 l.ticks, .int .i64 l.sx, .int .i64 l.sy, .slice ws.a ws.n ws.c, .slice gs.a gs.n gs.c, .int .i64 l.f.1, .int .i64 l.f.2.1, .int .i64 l.f.2.2.1, .int .i64 l.f.2.2.2, .int .i64 l.bans] 46))
  go_enter Tryz.func21, Tryz.ntmps21
  go_wp2_with fail
  refine (markB_any lo _ _ _ l.walls k0 _ (HW.out.next HB0.out).ow hk0 (by omega) hn1).mono ?_
  rintro e w1 ⟨rfl, ho1, hg1⟩
  have hf1 := Frm.of_own (HW.out.next HB0.out) hg1
  have HF1 := Lib.hid ((Frm.of_below HB0.out lo hi).trans hf1)
  have HG1 := Lib.hid ((HG.out.next HB0.out).apartB (fun b hb hb' => (List.nodup_append.1 HND.out).2.2 b hb' b hb rfl) hg1)
  have kA1 := blk_apart' (Blk.new w 46 #[.int .i64 l.id, .int .i64 l.ticks, .int .i64 l.sx, .int .i64 l.sy, .slice ws.a ws.n ws.c, .slice gs.a gs.n gs.c, .int .i64 l.f.1, .int .i64 l.f.2.1, .int .i64 l.f.2.2.1, .int .i64 l.f.2.2.2, .int .i64 l.bans]) (HW.out.next HB0.out).ow (by decide) hg1
  have cA1 := fun o => kA1.cell o
  obtain ⟨q, hq⟩ : ∃ z, z = k0 + 4 * (ws.n : Int) := ⟨_, rfl⟩
  rw [← hq]
  have q0 : 0 ≤ q := by omega
  have q1 : q ≤ k0 + 4194304 := by omega
  have q2 : k0 ≤ q := by omega
  clear hq ho1 hg1 hf1 kA1
  go_wp2_with fail
  refine (markB_any lo _ _ _ l.gates q _ HG1.out.ow q0 (by omega) hn2).mono ?_
  rintro e w2 ⟨rfl, ho2, hg2⟩
  have HF2 := Lib.hid (HF1.out.trans (Frm.of_own HG1.out hg2))
  clear ho2 hg2
  go_wp2_with fail
  go_ret
  exact ⟨_, rfl, HF2.out, by omega, by omega⟩
end Go.Proofs.YtepddbfafdfadaaGreat

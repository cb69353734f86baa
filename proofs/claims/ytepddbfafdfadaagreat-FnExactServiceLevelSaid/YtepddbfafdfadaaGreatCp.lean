/-
  copyLevel, copyService of the program; l41Level, l41Copy of the reference: a service in new rows.
-/
import Derived.Test.YtepddbfafdfadaaGreatCl
import Derived.Test.YtepddbfafdfadaaGreatMz
import Derived.Deep.RegionWith
import Derived.Test.YtepddbfafdfadaaGreatTs
namespace Go.Proofs.YtepddbfafdfadaaGreat
open Go.RowKit Go.Sort

theorem two_rows {B b T1 T2 z1 z2 n1 n2 c1 c2 : Nat} {A1 A2 : Option Addr} {v1 v2 : List Value} {W x1 x2 X : World} (hO1 : Ow W.heap.size x1 T1 z1 A1 n1 c1 v1) (hO2 : Ow x1.heap.size x2 T2 z2 A2 n2 c2 v2) (hb2 : Below x1.heap.size x1 x2) (hB : B ≤ W.heap.size) (h1 : W.heap.size ≤ x1.heap.size) (hf : Frm b (b + 1) x2 X) (hb : b < B) :
    Ow B X T1 z1 A1 n1 c1 v1 ∧ Ow B X T2 z2 A2 n2 c2 v2 ∧ (blkOf ⟨A1, n1, c1⟩ ++ blkOf ⟨A2, n2, c2⟩).Nodup ∧ (blkOf ⟨A2, n2, c2⟩ ++ blkOf ⟨A1, n1, c1⟩).Nodup := by
  have i1 := ((OwI.of hO1).next hb2).frm hf (.inr (by omega))
  have i2 := (OwI.of hO2).frm hf (.inr (by omega))
  have hn : (blkOf ⟨A1, n1, c1⟩ ++ blkOf ⟨A2, n2, c2⟩).Nodup := nodup_app x1.heap.size (blkOf_nodup _) (blkOf_nodup _) (fun g hg => (OwI.mem (s := ⟨A1, n1, c1⟩) i1 g hg).2) (fun g hg => (OwI.mem (s := ⟨A2, n2, c2⟩) i2 g hg).1)
  obtain ⟨n1, n2, d⟩ := List.nodup_append.1 hn
  exact ⟨i1.ow.mono hB, i2.ow.mono (by omega), hn, List.nodup_append.2 ⟨n2, n1, fun a ha b hb e => d b hb a ha e.symm⟩⟩

set_option maxRecDepth 100000 in
set_option maxHeartbeats 4000000 in
theorem copyLevel_any (l : Lvl) (ws gs : Sl) (w : World) (hr : RdL w l ws gs) :
    Calls Tryz.prog 58 #[lvlV l ws gs] w fun e w' => ∃ a b, e = .returned (lvlV l a b) ∧ OwL w.heap.size w'.heap.size w' l a b ∧ (blkOf a ++ blkOf b).Nodup ∧ Below w.heap.size w w' := by
  obtain ⟨hr1, hr2, ⟨_, hn1⟩, _, hn2⟩ := hr
  have HR1 := Lib.hid hr1
  have HR2 := Lib.hid hr2
  clear hr1 hr2
  go_enter Tryz.func58, Tryz.ntmps58
  go_wp2_with fail
  obtain ⟨W, hW⟩ : ∃ W, W = ((w.alloc (.cells #[.int .i64 l.id, .int .i64 l.ticks, .int .i64 l.sx, .int .i64 l.sy, .slice ws.a ws.n ws.c, .slice gs.a gs.n gs.c, .int .i64 l.f.1, .int .i64 l.f.2.1, .int .i64 l.f.2.2.1, .int .i64 l.f.2.2.2, .int .i64 l.bans] 46)).alloc (.cells #[.int .i64 0, .int .i64 0, .int .i64 0, .int .i64 0, .slice none 0 0, .slice none 0 0, .int .i64 0, .int .i64 0, .int .i64 0, .int .i64 0, .int .i64 0] 46)) := ⟨_, rfl⟩
  have hbw : Below w.heap.size w W := by rw [hW]; go_grown
  have hwz : W.heap.size = w.heap.size + 2 := by rw [hW]; simp
  have hka : Blk W w.heap.size 46 #[.int .i64 l.id, .int .i64 l.ticks, .int .i64 l.sx, .int .i64 l.sy, .slice ws.a ws.n ws.c, .slice gs.a gs.n gs.c, .int .i64 l.f.1, .int .i64 l.f.2.1, .int .i64 l.f.2.2.1, .int .i64 l.f.2.2.2, .int .i64 l.bans] := by rw [hW]; exact (Blk.new _ _ _).alloc _
  have hkr : Blk W (w.heap.size + 1) 46 #[.int .i64 0, .int .i64 0, .int .i64 0, .int .i64 0, .slice none 0 0, .slice none 0 0, .int .i64 0, .int .i64 0, .int .i64 0, .int .i64 0, .int .i64 0] := by rw [hW]; exact Blk.newAt _ _ _ _ (by simp)
  have hd1 : RdB W ws.a ws.n l.walls := HR1.out.below hbw
  have hd2 : RdB W gs.a gs.n l.gates := HR2.out.below hbw
  have HD1 := Lib.hid (show RdB W.drew ws.a ws.n l.walls from hd1)
  have HD2 := Lib.hid (show RdB W.drew gs.a gs.n l.gates from hd2)
  have HBW := Lib.hid hbw
  have HWZ := Lib.hid hwz
  have HKA := Lib.hid hka
  have HKR := Lib.hid hkr
  have ca := fun o => hka.cell o
  have za := hka.lt
  rw [← hW]
  clear hW hbw hwz hka hkr hd1 hd2
  go_cut [3] (fun _ wx => ∃ A c A' c' m, Hid (Below w.heap.size w wx ∧ Blk wx w.heap.size 46 #[.int .i64 l.id, .int .i64 l.ticks, .int .i64 l.sx, .int .i64 l.sy, .slice A ws.n c, .slice A' gs.n c', .int .i64 l.f.1, .int .i64 l.f.2.1, .int .i64 l.f.2.2.1, .int .i64 l.f.2.2.2, .int .i64 l.bans] ∧ Blk wx (w.heap.size + 1) 46 #[.int .i64 0, .int .i64 0, .int .i64 0, .int .i64 0, .slice none 0 0, .slice none 0 0, .int .i64 0, .int .i64 0, .int .i64 0, .int .i64 0, .int .i64 0] ∧ Ow (w.heap.size + 2) wx 44 4 A ws.n c (cellsB l.walls) ∧ Ow (w.heap.size + 2) wx 44 4 A' gs.n c' (cellsB l.gates) ∧ (blkOf ⟨A, ws.n, c⟩ ++ blkOf ⟨A', gs.n, c'⟩).Nodup ∧ m = w.heap.size))
  case first =>
    go_region_with (first
      | (go_at_call 109; refine (cloneB_any ws.a ws.n ws.c l.walls _ HD1.out hn1).mono ?_; rintro e x1 ⟨A1, c1, rfl, hO1, hb1⟩; have hk1 := (HKA.out.drew).next hb1; have ca1 := fun o => hk1.cell o; have za1 := hk1.lt)
      | (go_at_call 109; refine (cloneB_any gs.a gs.n gs.c l.gates _ HD2.out hn2).mono ?_; rintro e x2 ⟨A2, c2, rfl, hO2, hb2⟩; have hk2 := (HKA.out.drew).next hb2; have ca2 := fun o => hk2.cell o; have za2 := hk2.lt)
      | (go_at_call 109; refine (cloneB_any ws.a ws.n ws.c l.walls _ (HD1.out.below hb2) hn1).mono ?_; rintro e x1 ⟨A1, c1, rfl, hO1, hb1⟩; have hk1 := hk2.next hb1; have ca1 := fun o => hk1.cell o; have za1 := hk1.lt; have fa1 := fun o => hk1.frozen o)
      | (go_at_call 109; refine (cloneB_any gs.a gs.n gs.c l.gates _ (HD2.out.below hb1) hn2).mono ?_; rintro e x2 ⟨A2, c2, rfl, hO2, hb2⟩; have hk2 := hk1.next hb2; have ca2 := fun o => hk2.cell o; have za2 := hk2.lt; have fa2 := fun o => hk2.frozen o))
    all_goals
      go_wp2_with fail
      go_meet
      first
        | (obtain ⟨r1, r2, r3, _⟩ := two_rows hO1 hO2 hb2 (B := w.heap.size + 2) (b := w.heap.size) (by rw [← HWZ.out]; exact Nat.le_refl _) hb1.size (Frm.set_ (p := ⟨w.heap.size, 5, none⟩) (Frm.set_ (p := ⟨w.heap.size, 4, none⟩) (Frm.refl _ _ _) (Nat.le_refl _) (Nat.lt_succ_self _) (.slice A1 ws.n c1)) (Nat.le_refl _) (Nat.lt_succ_self _) (.slice A2 gs.n c2)) (by omega)
           exact ⟨A1, c1, A2, c2, _, ((HBW.out.trans ((below_undrew hb1).mono (by have := HWZ.out; omega))).trans (hb2.mono (by have := hb1.size; have := HWZ.out; simp at *; omega))).setCell (Nat.le_refl _) _ |>.setCell (Nat.le_refl _) _, (hk2.set_ 4 _).set_ 5 _, ((((HKR.out.drew).next hb1).next hb2).far (by simp) _).far (by simp) _, r1, r2, r3, rfl⟩)
        | (obtain ⟨r2, r1, _, r3⟩ := two_rows hO2 hO1 hb1 (B := w.heap.size + 2) (b := w.heap.size) (by rw [← HWZ.out]; exact Nat.le_refl _) hb2.size (Frm.set_ (p := ⟨w.heap.size, 5, none⟩) (Frm.set_ (p := ⟨w.heap.size, 4, none⟩) (Frm.refl _ _ _) (Nat.le_refl _) (Nat.lt_succ_self _) (.slice A1 ws.n c1)) (Nat.le_refl _) (Nat.lt_succ_self _) (.slice A2 gs.n c2)) (by omega)
           exact ⟨A1, c1, A2, c2, _, ((HBW.out.trans ((below_undrew hb2).mono (by have := HWZ.out; omega))).trans (hb1.mono (by have := hb2.size; have := HWZ.out; simp at *; omega))).setCell (Nat.le_refl _) _ |>.setCell (Nat.le_refl _) _, (hk1.set_ 4 _).set_ 5 _, ((((HKR.out.drew).next hb2).next hb1).far (by simp) _).far (by simp) _, r1, r2, r3, rfl⟩)
  case rest =>
    obtain ⟨A, c, A', c', m, HH⟩ := hcut
    have HB := Lib.hid HH.out.1
    have HA := Lib.hid HH.out.2.1
    have HRR := Lib.hid HH.out.2.2.1
    have HO := Lib.hid HH.out.2.2.2
    have ca := fun o => HA.out.cell o
    have za := HA.out.lt
    have cr := fun o => HRR.out.cell o
    have fr := fun o => HRR.out.frozen o
    have zr := HRR.out.lt
    clear HH
    go_wp2_with fail
    refine bodyPost_ret (v := lvlV l ⟨A, ws.n, c⟩ ⟨A', gs.n, c'⟩) (by simp [results, Tryz.results58, go_sem, cr]) rfl ?_
    obtain ⟨h1, h2, h3, _⟩ := HO.out
    have hend : ∀ X : World, Frm (w.heap.size + 1) (w.heap.size + 2) wc X → ∃ a b, Ending.returned (lvlV l ⟨A, ws.n, c⟩ ⟨A', gs.n, c'⟩) = .returned (lvlV l a b) ∧ OwL w.heap.size X.heap.size X l a b ∧ (blkOf a ++ blkOf b).Nodup ∧ Below w.heap.size w X := fun X hX =>
      ⟨⟨A, ws.n, c⟩, ⟨A', gs.n, c'⟩, rfl, ⟨(((OwI.of h1).frm hX (.inr (by omega))).mono (by omega) hX.size), (((OwI.of h2).frm hX (.inr (by omega))).mono (by omega) hX.size), hn1, hn2⟩, h3, HB.out.trans (hX.below (by omega) HB.out.size)⟩
    refine hend _ ?_
    iterate 11 (refine Frm.set_ ?_ (by simp) (by simp) _)
    exact Frm.refl _ _ _
end Go.Proofs.YtepddbfafdfadaaGreat

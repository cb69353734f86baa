/-
  laws.toTrack: what it returns lies in new rows.
-/
import Derived.Test.YtepddbfafdfadaaGreatTo
namespace Go.Proofs.YtepddbfafdfadaaGreat
open Go.RowKit Go.Sort

/-- toTrack -/
theorem toTrack_end {x : Row} {w w2 W : World} {a b : Sl} {lo hi g n : Nat} (hl : x.2.b.length = n) (hn : n ≤ 1048576) (hb : Below w.heap.size w w2)
    (hL : OwL lo hi w2 x.2.l a b) (hd : (blkOf a ++ blkOf b).Nodup) (hlo : w.heap.size + 3 ≤ lo) (hhi : hi ≤ w2.heap.size) (kg : Blk w2 g 67 (cellsE x.2.b).toArray) (hg : w.heap.size + 3 ≤ g) (hf : Frm w.heap.size (w.heap.size + 3) w2 W) :
    ∃ y : Row, Ending.returned (.agg #[.int .i64 x.2.l.id, .int .i64 x.2.l.ticks, .int .i64 x.2.l.sx, .int .i64 x.2.l.sy, .slice a.a a.n a.c, .slice b.a b.n b.c, .int .i64 x.2.l.f.1, .int .i64 x.2.l.f.2.1, .int .i64 x.2.l.f.2.2.1, .int .i64 x.2.l.f.2.2.2, .int .i64 x.2.l.bans, .slice (some ⟨g, 0, none⟩) n n]) = .returned (.agg (encT y).toArray) ∧
      y.2 = x.2 ∧ OwR w.heap.size W.heap.size W [y] ∧ Below w.heap.size w W := by
  have kg' := kg.frm hf (.inr hg)
  have hL' := hL.frm hf (.inr hlo)
  have hO : Ow w.heap.size W 67 2 (some ⟨g, 0, none⟩) n n (cellsE x.2.b) := Ow.of_blk kg' (by rw [cellsE_length, hl]) hn (by omega)
  have hT : OwT w.heap.size W.heap.size W (⟨a, b, ⟨some ⟨g, 0, none⟩, n, n⟩⟩, x.2) := ⟨hL'.mono (by omega) (Nat.le_trans hhi hf.size), OwI.of hO, hn⟩
  refine ⟨(⟨a, b, ⟨some ⟨g, 0, none⟩, n, n⟩⟩, x.2), rfl, rfl, ⟨fun y hy => ?_, ?_, ?_⟩, hb.trans (hf.below (Nat.le_refl _) hb.size)⟩
  · obtain rfl : y = _ := List.mem_singleton.1 hy
    exact hT
  · rw [boxBlks_one]; exact hd
  · rw [entBlks_one]; exact blkOf_nodup _

set_option maxRecDepth 100000 in
set_option maxHeartbeats 8000000 in
theorem toTrack_any (x : Row) (w : World) (hr : RdT w x) :
    Calls Tryz.prog 97 #[.agg (encT x).toArray] w fun e w' => ∃ y : Row, e = .returned (.agg (encT y).toArray) ∧ y.2 = x.2 ∧ OwR w.heap.size w'.heap.size w' [y] ∧ Below w.heap.size w w' := by
  have HR := Lib.hid hr
  have hn := hr.2.2.2
  have HL := Lib.hid hr.2.1.len
  clear hr
  simp only [encT]
  go_enter Tryz.func97, Tryz.ntmps97
  go_wp2_with fail
  refine (toLevel_any x.2.l x.1.w x.1.g _ (HR.out.1.below ((((Below.refl _ w).alloc (Nat.le_refl _) _).alloc (by simp) _).alloc (by simp; omega) _))).mono ?_
  rintro e w1 ⟨a, b, rfl, hol, hnd, hb1⟩
  have kA1 : Blk w1 (w.heap.size) 117 #[.int .i64 x.2.l.id, .int .i64 x.2.l.ticks, .int .i64 x.2.l.sx, .int .i64 x.2.l.sy, .slice x.1.w.a x.1.w.n x.1.w.c, .slice x.1.g.a x.1.g.n x.1.g.c, .int .i64 x.2.l.f.1, .int .i64 x.2.l.f.2.1, .int .i64 x.2.l.f.2.2.1, .int .i64 x.2.l.f.2.2.2, .int .i64 x.2.l.bans, .slice x.1.b.a x.1.b.n x.1.b.c] := ((((Blk.new w 117 #[.int .i64 x.2.l.id, .int .i64 x.2.l.ticks, .int .i64 x.2.l.sx, .int .i64 x.2.l.sy, .slice x.1.w.a x.1.w.n x.1.w.c, .slice x.1.g.a x.1.g.n x.1.g.c, .int .i64 x.2.l.f.1, .int .i64 x.2.l.f.2.1, .int .i64 x.2.l.f.2.2.1, .int .i64 x.2.l.f.2.2.2, .int .i64 x.2.l.bans, .slice x.1.b.a x.1.b.n x.1.b.c]).alloc _).alloc _)).next hb1
  have kR1 : Blk w1 (w.heap.size + 1) 62 #[.int .i64 0, .int .i64 0, .int .i64 0, .int .i64 0, .slice none 0 0, .slice none 0 0, .int .i64 0, .int .i64 0, .int .i64 0, .int .i64 0, .int .i64 0, .slice none 0 0] := (((Blk.newAt _ 62 #[.int .i64 0, .int .i64 0, .int .i64 0, .int .i64 0, .slice none 0 0, .slice none 0 0, .int .i64 0, .int .i64 0, .int .i64 0, .int .i64 0, .int .i64 0, .slice none 0 0] (w.heap.size + 1) (by simp)).alloc _)).next hb1
  have kO1 : Blk w1 (w.heap.size + 1 + 1) 62 #[.int .i64 0, .int .i64 0, .int .i64 0, .int .i64 0, .slice none 0 0, .slice none 0 0, .int .i64 0, .int .i64 0, .int .i64 0, .int .i64 0, .int .i64 0, .slice none 0 0] := (Blk.newAt _ 62 #[.int .i64 0, .int .i64 0, .int .i64 0, .int .i64 0, .slice none 0 0, .slice none 0 0, .int .i64 0, .int .i64 0, .int .i64 0, .int .i64 0, .int .i64 0, .slice none 0 0] (w.heap.size + 1 + 1) (by simp)).next hb1
  have HB1 := Lib.hid (ba (ba (ba hb1)))
  have cA1 := fun o => kA1.cell o
  have cO1 := fun o => kO1.cell o
  have fO1 := fun o => kO1.frozen o
  have z1 := kO1.lt
  have hhi1 : ∀ W : World, w1.heap.size ≤ W.heap.size → w1.heap.size ≤ W.heap.size := fun _ h => h
  have HOL1 := Lib.hid hol
  have HND := Lib.hid hnd
  clear hol hnd
  clear hb1
  go_wp2_with fail
  refine (toEntryS_any _ _ x.1.b.c x.2.b _ (HR.out.2.1.below (((((((((((HB1.out.setCell (p := ⟨w.heap.size + 1 + 1, 0, none⟩) (by simp; omega) _).setCell (p := ⟨w.heap.size + 1 + 1, 1, none⟩) (by simp; omega) _).setCell (p := ⟨w.heap.size + 1 + 1, 2, none⟩) (by simp; omega) _).setCell (p := ⟨w.heap.size + 1 + 1, 3, none⟩) (by simp; omega) _).setCell (p := ⟨w.heap.size + 1 + 1, 4, none⟩) (by simp; omega) _).setCell (p := ⟨w.heap.size + 1 + 1, 5, none⟩) (by simp; omega) _).setCell (p := ⟨w.heap.size + 1 + 1, 6, none⟩) (by simp; omega) _).setCell (p := ⟨w.heap.size + 1 + 1, 7, none⟩) (by simp; omega) _).setCell (p := ⟨w.heap.size + 1 + 1, 8, none⟩) (by simp; omega) _).setCell (p := ⟨w.heap.size + 1 + 1, 9, none⟩) (by simp; omega) _).setCell (p := ⟨w.heap.size + 1 + 1, 10, none⟩) (by simp; omega) _)) (by omega)).mono ?_
  rintro e w2 ⟨g2, rfl, hg2, hk2, hb2⟩
  have kA2 : Blk w2 (w.heap.size) 117 #[.int .i64 x.2.l.id, .int .i64 x.2.l.ticks, .int .i64 x.2.l.sx, .int .i64 x.2.l.sy, .slice x.1.w.a x.1.w.n x.1.w.c, .slice x.1.g.a x.1.g.n x.1.g.c, .int .i64 x.2.l.f.1, .int .i64 x.2.l.f.2.1, .int .i64 x.2.l.f.2.2.1, .int .i64 x.2.l.f.2.2.2, .int .i64 x.2.l.bans, .slice x.1.b.a x.1.b.n x.1.b.c] := (((((((((((((kA1).far (p := ⟨w.heap.size + 1 + 1, 0, none⟩) (by simp; try omega) _).far (p := ⟨w.heap.size + 1 + 1, 1, none⟩) (by simp; try omega) _).far (p := ⟨w.heap.size + 1 + 1, 2, none⟩) (by simp; try omega) _).far (p := ⟨w.heap.size + 1 + 1, 3, none⟩) (by simp; try omega) _).far (p := ⟨w.heap.size + 1 + 1, 4, none⟩) (by simp; try omega) _).far (p := ⟨w.heap.size + 1 + 1, 5, none⟩) (by simp; try omega) _).far (p := ⟨w.heap.size + 1 + 1, 6, none⟩) (by simp; try omega) _).far (p := ⟨w.heap.size + 1 + 1, 7, none⟩) (by simp; try omega) _).far (p := ⟨w.heap.size + 1 + 1, 8, none⟩) (by simp; try omega) _).far (p := ⟨w.heap.size + 1 + 1, 9, none⟩) (by simp; try omega) _).far (p := ⟨w.heap.size + 1 + 1, 10, none⟩) (by simp; try omega) _)).next hb2
  have kR2 : Blk w2 (w.heap.size + 1) 62 #[.int .i64 0, .int .i64 0, .int .i64 0, .int .i64 0, .slice none 0 0, .slice none 0 0, .int .i64 0, .int .i64 0, .int .i64 0, .int .i64 0, .int .i64 0, .slice none 0 0] := (((((((((((((kR1).far (p := ⟨w.heap.size + 1 + 1, 0, none⟩) (by simp; try omega) _).far (p := ⟨w.heap.size + 1 + 1, 1, none⟩) (by simp; try omega) _).far (p := ⟨w.heap.size + 1 + 1, 2, none⟩) (by simp; try omega) _).far (p := ⟨w.heap.size + 1 + 1, 3, none⟩) (by simp; try omega) _).far (p := ⟨w.heap.size + 1 + 1, 4, none⟩) (by simp; try omega) _).far (p := ⟨w.heap.size + 1 + 1, 5, none⟩) (by simp; try omega) _).far (p := ⟨w.heap.size + 1 + 1, 6, none⟩) (by simp; try omega) _).far (p := ⟨w.heap.size + 1 + 1, 7, none⟩) (by simp; try omega) _).far (p := ⟨w.heap.size + 1 + 1, 8, none⟩) (by simp; try omega) _).far (p := ⟨w.heap.size + 1 + 1, 9, none⟩) (by simp; try omega) _).far (p := ⟨w.heap.size + 1 + 1, 10, none⟩) (by simp; try omega) _)).next hb2
  have kQ0 : Blk _ (w.heap.size + 1 + 1) 62 #[.int .i64 x.2.l.id, .int .i64 0, .int .i64 0, .int .i64 0, .slice none 0 0, .slice none 0 0, .int .i64 0, .int .i64 0, .int .i64 0, .int .i64 0, .int .i64 0, .slice none 0 0] := kO1.set_ 0 (.int .i64 x.2.l.id)
  have kQ1 : Blk _ (w.heap.size + 1 + 1) 62 #[.int .i64 x.2.l.id, .int .i64 x.2.l.ticks, .int .i64 0, .int .i64 0, .slice none 0 0, .slice none 0 0, .int .i64 0, .int .i64 0, .int .i64 0, .int .i64 0, .int .i64 0, .slice none 0 0] := kQ0.set_ 1 (.int .i64 x.2.l.ticks)
  have kQ2 : Blk _ (w.heap.size + 1 + 1) 62 #[.int .i64 x.2.l.id, .int .i64 x.2.l.ticks, .int .i64 x.2.l.sx, .int .i64 0, .slice none 0 0, .slice none 0 0, .int .i64 0, .int .i64 0, .int .i64 0, .int .i64 0, .int .i64 0, .slice none 0 0] := kQ1.set_ 2 (.int .i64 x.2.l.sx)
  have kQ3 : Blk _ (w.heap.size + 1 + 1) 62 #[.int .i64 x.2.l.id, .int .i64 x.2.l.ticks, .int .i64 x.2.l.sx, .int .i64 x.2.l.sy, .slice none 0 0, .slice none 0 0, .int .i64 0, .int .i64 0, .int .i64 0, .int .i64 0, .int .i64 0, .slice none 0 0] := kQ2.set_ 3 (.int .i64 x.2.l.sy)
  have kQ4 : Blk _ (w.heap.size + 1 + 1) 62 #[.int .i64 x.2.l.id, .int .i64 x.2.l.ticks, .int .i64 x.2.l.sx, .int .i64 x.2.l.sy, .slice a.a a.n a.c, .slice none 0 0, .int .i64 0, .int .i64 0, .int .i64 0, .int .i64 0, .int .i64 0, .slice none 0 0] := kQ3.set_ 4 (.slice a.a a.n a.c)
  have kQ5 : Blk _ (w.heap.size + 1 + 1) 62 #[.int .i64 x.2.l.id, .int .i64 x.2.l.ticks, .int .i64 x.2.l.sx, .int .i64 x.2.l.sy, .slice a.a a.n a.c, .slice b.a b.n b.c, .int .i64 0, .int .i64 0, .int .i64 0, .int .i64 0, .int .i64 0, .slice none 0 0] := kQ4.set_ 5 (.slice b.a b.n b.c)
  have kQ6 : Blk _ (w.heap.size + 1 + 1) 62 #[.int .i64 x.2.l.id, .int .i64 x.2.l.ticks, .int .i64 x.2.l.sx, .int .i64 x.2.l.sy, .slice a.a a.n a.c, .slice b.a b.n b.c, .int .i64 x.2.l.f.1, .int .i64 0, .int .i64 0, .int .i64 0, .int .i64 0, .slice none 0 0] := kQ5.set_ 6 (.int .i64 x.2.l.f.1)
  have kQ7 : Blk _ (w.heap.size + 1 + 1) 62 #[.int .i64 x.2.l.id, .int .i64 x.2.l.ticks, .int .i64 x.2.l.sx, .int .i64 x.2.l.sy, .slice a.a a.n a.c, .slice b.a b.n b.c, .int .i64 x.2.l.f.1, .int .i64 x.2.l.f.2.1, .int .i64 0, .int .i64 0, .int .i64 0, .slice none 0 0] := kQ6.set_ 7 (.int .i64 x.2.l.f.2.1)
  have kQ8 : Blk _ (w.heap.size + 1 + 1) 62 #[.int .i64 x.2.l.id, .int .i64 x.2.l.ticks, .int .i64 x.2.l.sx, .int .i64 x.2.l.sy, .slice a.a a.n a.c, .slice b.a b.n b.c, .int .i64 x.2.l.f.1, .int .i64 x.2.l.f.2.1, .int .i64 x.2.l.f.2.2.1, .int .i64 0, .int .i64 0, .slice none 0 0] := kQ7.set_ 8 (.int .i64 x.2.l.f.2.2.1)
  have kQ9 : Blk _ (w.heap.size + 1 + 1) 62 #[.int .i64 x.2.l.id, .int .i64 x.2.l.ticks, .int .i64 x.2.l.sx, .int .i64 x.2.l.sy, .slice a.a a.n a.c, .slice b.a b.n b.c, .int .i64 x.2.l.f.1, .int .i64 x.2.l.f.2.1, .int .i64 x.2.l.f.2.2.1, .int .i64 x.2.l.f.2.2.2, .int .i64 0, .slice none 0 0] := kQ8.set_ 9 (.int .i64 x.2.l.f.2.2.2)
  have kQ10 : Blk _ (w.heap.size + 1 + 1) 62 #[.int .i64 x.2.l.id, .int .i64 x.2.l.ticks, .int .i64 x.2.l.sx, .int .i64 x.2.l.sy, .slice a.a a.n a.c, .slice b.a b.n b.c, .int .i64 x.2.l.f.1, .int .i64 x.2.l.f.2.1, .int .i64 x.2.l.f.2.2.1, .int .i64 x.2.l.f.2.2.2, .int .i64 x.2.l.bans, .slice none 0 0] := kQ9.set_ 10 (.int .i64 x.2.l.bans)
  have kO2 : Blk w2 (w.heap.size + 1 + 1) 62 #[.int .i64 x.2.l.id, .int .i64 x.2.l.ticks, .int .i64 x.2.l.sx, .int .i64 x.2.l.sy, .slice a.a a.n a.c, .slice b.a b.n b.c, .int .i64 x.2.l.f.1, .int .i64 x.2.l.f.2.1, .int .i64 x.2.l.f.2.2.1, .int .i64 x.2.l.f.2.2.2, .int .i64 x.2.l.bans, .slice none 0 0] := kQ10.next hb2
  clear kQ0 kQ1 kQ2 kQ3 kQ4 kQ5 kQ6 kQ7 kQ8 kQ9 kQ10
  have HB2 := Lib.hid (below_at ((((((((((((HB1.out.setCell (p := ⟨w.heap.size + 1 + 1, 0, none⟩) (by simp; omega) _).setCell (p := ⟨w.heap.size + 1 + 1, 1, none⟩) (by simp; omega) _).setCell (p := ⟨w.heap.size + 1 + 1, 2, none⟩) (by simp; omega) _).setCell (p := ⟨w.heap.size + 1 + 1, 3, none⟩) (by simp; omega) _).setCell (p := ⟨w.heap.size + 1 + 1, 4, none⟩) (by simp; omega) _).setCell (p := ⟨w.heap.size + 1 + 1, 5, none⟩) (by simp; omega) _).setCell (p := ⟨w.heap.size + 1 + 1, 6, none⟩) (by simp; omega) _).setCell (p := ⟨w.heap.size + 1 + 1, 7, none⟩) (by simp; omega) _).setCell (p := ⟨w.heap.size + 1 + 1, 8, none⟩) (by simp; omega) _).setCell (p := ⟨w.heap.size + 1 + 1, 9, none⟩) (by simp; omega) _).setCell (p := ⟨w.heap.size + 1 + 1, 10, none⟩) (by simp; omega) _)) (by simpa using HB1.out.size) hb2)
  clear cA1 cO1 fO1 kA1 kR1 kO1
  have cA2 := fun o => kA2.cell o
  have cO2 := fun o => kO2.cell o
  have fO2 := fun o => kO2.frozen o
  have z2 := kO2.lt
  have hg3 : w.heap.size + 3 ≤ g2 := by have h := hg2; simp at h; omega
  have HK2 := Lib.hid hk2
  have hfr : Frm w.heap.size (w.heap.size + 3) w1 w2 := by
    refine Frm.next ?_ hb2
    iterate 11 (refine Frm.set_ ?_ (by simp <;> omega) (by simp <;> omega) _)
    exact Frm.refl _ _ _
  have HOL := Lib.hid (HOL1.out.frm hfr (.inr (by simp)))
  have hlo : w.heap.size + 3 ≤ (((w.alloc (.cells #[.int .i64 x.2.l.id, .int .i64 x.2.l.ticks, .int .i64 x.2.l.sx, .int .i64 x.2.l.sy, .slice x.1.w.a x.1.w.n x.1.w.c, .slice x.1.g.a x.1.g.n x.1.g.c, .int .i64 x.2.l.f.1, .int .i64 x.2.l.f.2.1, .int .i64 x.2.l.f.2.2.1, .int .i64 x.2.l.f.2.2.2, .int .i64 x.2.l.bans, .slice x.1.b.a x.1.b.n x.1.b.c] 117)).alloc (.cells #[.int .i64 0, .int .i64 0, .int .i64 0, .int .i64 0, .slice none 0 0, .slice none 0 0, .int .i64 0, .int .i64 0, .int .i64 0, .int .i64 0, .int .i64 0, .slice none 0 0] 62)).alloc (.cells #[.int .i64 0, .int .i64 0, .int .i64 0, .int .i64 0, .slice none 0 0, .slice none 0 0, .int .i64 0, .int .i64 0, .int .i64 0, .int .i64 0, .int .i64 0, .slice none 0 0] 62)).heap.size := by simp
  have hhi : w1.heap.size ≤ w2.heap.size := hfr.size
  clear hk2 hg2 hfr hhi1
  clear hb2
  go_upto_region 4 with (fail)
  refine into_world (fun wx => Blk wx (w.heap.size + 1) 62 #[.int .i64 0, .int .i64 0, .int .i64 0, .int .i64 0, .slice none 0 0, .slice none 0 0, .int .i64 0, .int .i64 0, .int .i64 0, .int .i64 0, .int .i64 0, .slice none 0 0] ∧ Blk wx (w.heap.size + 1 + 1) 62 #[.int .i64 x.2.l.id, .int .i64 x.2.l.ticks, .int .i64 x.2.l.sx, .int .i64 x.2.l.sy, .slice a.a a.n a.c, .slice b.a b.n b.c, .int .i64 x.2.l.f.1, .int .i64 x.2.l.f.2.1, .int .i64 x.2.l.f.2.2.1, .int .i64 x.2.l.f.2.2.2, .int .i64 x.2.l.bans, .slice (some ⟨g2, 0, none⟩) x.1.b.n x.1.b.n] ∧ Frm w.heap.size (w.heap.size + 3) w2 wx) ⟨((kR2).far (p := ⟨w.heap.size + 1 + 1, 11, none⟩) (by simp; try omega) _), (kO2).set_ 11 (.slice (some ⟨g2, 0, none⟩) x.1.b.n x.1.b.n), (Frm.refl _ _ _).set_ (p := ⟨w.heap.size + 1 + 1, 11, none⟩) (by simp <;> omega) (by simp <;> omega) _⟩ ?_
  rintro wx ⟨kR, kO, HFx⟩
  have cO := fun o => kO.cell o
  have cR := fun o => kR.cell o
  have fR := fun o => kR.frozen o
  have zO := kO.lt
  have zR := kR.lt
  clear kA2 kR2 kO2 cA2 cO2 fO2 kO kR
  go_wp2_with fail
  refine bodyPost_ret (v := .agg #[.int .i64 x.2.l.id, .int .i64 x.2.l.ticks, .int .i64 x.2.l.sx, .int .i64 x.2.l.sy, .slice a.a a.n a.c, .slice b.a b.n b.c, .int .i64 x.2.l.f.1, .int .i64 x.2.l.f.2.1, .int .i64 x.2.l.f.2.2.1, .int .i64 x.2.l.f.2.2.2, .int .i64 x.2.l.bans, .slice (some ⟨g2, 0, none⟩) x.1.b.n x.1.b.n]) (by simp [results, Tryz.results97, go_sem, cR]) rfl ?_
  have hs := HB2.out.size
  have hz := HFx.size
  refine toTrack_end HL.out hn HB2.out HOL.out HND.out hlo hhi HK2.out hg3 (HFx.trans ?_)
  iterate 12 (refine Frm.set_ ?_ (by simp <;> omega) (by simp <;> omega) _)
  exact Frm.refl _ _ _
end Go.Proofs.YtepddbfafdfadaaGreat

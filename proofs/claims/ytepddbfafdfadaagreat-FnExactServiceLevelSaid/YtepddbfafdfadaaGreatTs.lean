/-
  laws.toService: what it returns lies in new rows, no row twice.
-/
import Derived.Test.YtepddbfafdfadaaGreatTt
namespace Go.Proofs.YtepddbfafdfadaaGreat
open Go.RowKit Go.Sort

theorem toService_end {S : Svc} {ys : List Row} {t : Sl} {w w3 W : World} {g2 g3 n2 n3 lo hi : Nat} (hys : ys.map (·.2) = S.ts) (hT : OwTs lo hi w3 t ys) (hlo : w.heap.size + 3 ≤ lo) (hhi : hi ≤ w3.heap.size) (hl1 : S.keys.length = n2) (hl2 : S.tags.length = n3) (hn1 : n2 ≤ 1048576) (hn2 : n3 ≤ 1048576) (hb : Below w.heap.size w w3)
    (k2 : Blk w3 g2 3 (cellsI S.keys).toArray) (k3 : Blk w3 g3 3 (cellsI S.tags).toArray) (gz2 : w.heap.size + 3 ≤ g2) (h23 : g2 < g3) (hf : Frm w.heap.size (w.heap.size + 3) w3 W) :
    ∃ t' k g, Ending.returned (.agg #[.slice t.a t.n t.c, .slice (some ⟨g2, 0, none⟩) n2 n2, .slice (some ⟨g3, 0, none⟩) n3 n3]) = .returned (svV t' k g) ∧ OwS w.heap.size W.heap.size W t' k g S ∧ Below w.heap.size w W := by
  have k2' := k2.frm hf (.inr (by omega))
  have k3' := k3.frm hf (.inr (by omega))
  have hT' := (hT.frm hf (.inr hlo)).mono (lo' := w.heap.size) (hi' := W.heap.size) (by omega) (Nat.le_trans hhi hf.size)
  have hO2 : Ow w.heap.size W 3 1 (some ⟨g2, 0, none⟩) n2 n2 (cellsI S.keys) := Ow.of_blk k2' (by simp [hl1]) hn1 (by omega)
  have hO3 : Ow w.heap.size W 3 1 (some ⟨g3, 0, none⟩) n3 n3 (cellsI S.tags) := Ow.of_blk k3' (by simp [hl2]) hn2 (by omega)
  refine ⟨t, ⟨some ⟨g2, 0, none⟩, n2, n2⟩, ⟨some ⟨g3, 0, none⟩, n3, n3⟩, rfl, ⟨⟨ys, hys, hT'⟩, OwI.of hO2, OwI.of hO3, ?_, hn1, hn2⟩, hb.trans (hf.below (Nat.le_refl _) hb.size)⟩
  refine nodup_app g3 (blkOf_nodup _) (blkOf_nodup _) (fun b hb => ?_) (fun b hb => ?_)
  · have h := (mem_blkOf.1 hb).2
    simp at h
    omega
  · have h := (mem_blkOf.1 hb).2
    simp at h
    omega

set_option maxRecDepth 100000 in
set_option maxHeartbeats 8000000 in
theorem toService_any (t k g : Sl) (S : Svc) (w : World) (hr : RdS w t k g S) :
    Calls Tryz.prog 15 #[svV t k g] w fun e w' => ∃ t' k' g', e = .returned (svV t' k' g') ∧ OwS w.heap.size w'.heap.size w' t' k' g' S ∧ Below w.heap.size w w' := by
  obtain ⟨⟨xs, hxs, hr1⟩, hr2, hr3, ⟨_, hn1⟩, ⟨_, hn2⟩, _, hn3⟩ := hr
  have HR1 := Lib.hid hr1
  have HR2 := Lib.hid hr2
  have HR3 := Lib.hid hr3
  have HXS := Lib.hid hxs
  have HL2 := Lib.hid hr2.len
  have HL3 := Lib.hid hr3.len
  clear hr1 hr2 hr3 hxs
  go_enter Tryz.func15, Tryz.ntmps15
  go_wp2_with fail
  refine (toTrackS_any _ _ t.c xs _ (HR1.out.below ((((Below.refl _ w).alloc (Nat.le_refl _) _).alloc (by simp) _).alloc (by simp; omega) _)) hn1).mono ?_
  rintro e w1 ⟨t1, ys, rfl, hys, hot, hb1⟩
  have kA1 : Blk w1 (w.heap.size) 25 #[.slice t.a t.n t.c, .slice k.a k.n k.c, .slice g.a g.n g.c] := ((((Blk.new w 25 #[.slice t.a t.n t.c, .slice k.a k.n k.c, .slice g.a g.n g.c]).alloc _).alloc _)).next hb1
  have kR1 : Blk w1 (w.heap.size + 1) 37 #[.slice none 0 0, .slice none 0 0, .slice none 0 0] := (((Blk.newAt _ 37 #[.slice none 0 0, .slice none 0 0, .slice none 0 0] (w.heap.size + 1) (by simp)).alloc _)).next hb1
  have kO1 : Blk w1 (w.heap.size + 1 + 1) 37 #[.slice none 0 0, .slice none 0 0, .slice none 0 0] := (Blk.newAt _ 37 #[.slice none 0 0, .slice none 0 0, .slice none 0 0] (w.heap.size + 1 + 1) (by simp)).next hb1
  have HB1 := Lib.hid (ba (ba (ba hb1)))
  have cA1 := fun o => kA1.cell o
  have cO1 := fun o => kO1.cell o
  have fO1 := fun o => kO1.frozen o
  have z1 := kO1.lt
  have HYS := Lib.hid hys
  have HOT1 := Lib.hid hot
  have hsz1 := hot.2.2.2.2
  clear hys hot
  clear hb1
  go_wp2_with fail
  refine (toIntS_any _ _ k.c S.keys _ (HR2.out.below (HB1.out.setCell (p := ⟨w.heap.size + 1 + 1, 0, none⟩) (by simp; omega) _)) hn2).mono ?_
  rintro e w2 ⟨g2, rfl, hg2, hk2, hb2⟩
  have kA2 : Blk w2 (w.heap.size) 25 #[.slice t.a t.n t.c, .slice k.a k.n k.c, .slice g.a g.n g.c] := (((kA1).far (p := ⟨w.heap.size + 1 + 1, 0, none⟩) (by simp; try omega) _)).next hb2
  have kR2 : Blk w2 (w.heap.size + 1) 37 #[.slice none 0 0, .slice none 0 0, .slice none 0 0] := (((kR1).far (p := ⟨w.heap.size + 1 + 1, 0, none⟩) (by simp; try omega) _)).next hb2
  have kO2 : Blk w2 (w.heap.size + 1 + 1) 37 #[.slice t1.a t1.n t1.c, .slice none 0 0, .slice none 0 0] := ((kO1).set_ 0 (.slice t1.a t1.n t1.c)).next hb2
  have HB2 := Lib.hid (below_at ((HB1.out.setCell (p := ⟨w.heap.size + 1 + 1, 0, none⟩) (by simp; omega) _)) (by simpa using HB1.out.size) hb2)
  clear cA1 cO1 fO1 kA1 kR1 kO1
  have cA2 := fun o => kA2.cell o
  have cO2 := fun o => kO2.cell o
  have fO2 := fun o => kO2.frozen o
  have z2 := kO2.lt
  have hfr : Frm w.heap.size (w.heap.size + 3) w1 w2 := Frm.next ((Frm.refl _ _ _).set_ (p := ⟨w.heap.size + 1 + 1, 0, none⟩) (by simp <;> omega) (by simp <;> omega) _) hb2
  have HOT2 := Lib.hid (HOT1.out.frm hfr (.inr (by simp)))
  have hhi1 : w1.heap.size ≤ w2.heap.size := hfr.size
  have gz2 : w.heap.size + 3 ≤ g2 := by have h := hg2; simp at h; omega
  have HK2 := Lib.hid hk2
  clear hk2 hg2 hfr
  clear hb2
  go_wp2_with fail
  refine (toIntS_any _ _ g.c S.tags _ (HR3.out.below (HB2.out.setCell (p := ⟨w.heap.size + 1 + 1, 1, none⟩) (by simp; omega) _)) hn3).mono ?_
  rintro e w3 ⟨g3, rfl, hg3, hk3, hb3⟩
  have kA3 : Blk w3 (w.heap.size) 25 #[.slice t.a t.n t.c, .slice k.a k.n k.c, .slice g.a g.n g.c] := (((kA2).far (p := ⟨w.heap.size + 1 + 1, 1, none⟩) (by simp; try omega) _)).next hb3
  have kR3 : Blk w3 (w.heap.size + 1) 37 #[.slice none 0 0, .slice none 0 0, .slice none 0 0] := (((kR2).far (p := ⟨w.heap.size + 1 + 1, 1, none⟩) (by simp; try omega) _)).next hb3
  have kO3 : Blk w3 (w.heap.size + 1 + 1) 37 #[.slice t1.a t1.n t1.c, .slice (some ⟨g2, 0, none⟩) k.n k.n, .slice none 0 0] := ((kO2).set_ 1 (.slice (some ⟨g2, 0, none⟩) k.n k.n)).next hb3
  have HB3 := Lib.hid (below_at ((HB2.out.setCell (p := ⟨w.heap.size + 1 + 1, 1, none⟩) (by simp; omega) _)) (by simpa using HB2.out.size) hb3)
  clear cA2 cO2 fO2 kA2 kR2 kO2
  have cA3 := fun o => kA3.cell o
  have cO3 := fun o => kO3.cell o
  have fO3 := fun o => kO3.frozen o
  have z3 := kO3.lt
  have hfr : Frm w.heap.size (w.heap.size + 3) w2 w3 := Frm.next ((Frm.refl _ _ _).set_ (p := ⟨w.heap.size + 1 + 1, 1, none⟩) (by simp <;> omega) (by simp <;> omega) _) hb3
  have HOT := Lib.hid (HOT2.out.frm hfr (.inr (by simp)))
  have hhi : w1.heap.size ≤ w3.heap.size := Nat.le_trans hhi1 hfr.size
  have hlo : w.heap.size + 3 ≤ (((w.alloc (.cells #[.slice t.a t.n t.c, .slice k.a k.n k.c, .slice g.a g.n g.c] 25)).alloc (.cells #[.slice none 0 0, .slice none 0 0, .slice none 0 0] 37)).alloc (.cells #[.slice none 0 0, .slice none 0 0, .slice none 0 0] 37)).heap.size := by simp
  have h23 : g2 < g3 := by have h := hg3; have h2 := HK2.out.lt; simp at h; omega
  have HK3 := Lib.hid hk3
  clear hk3 hg3 hfr
  have HK2 := Lib.hid (((HK2.out.far (p := ⟨w.heap.size + 1 + 1, 1, none⟩) (by simp; omega) _)).next hb3)
  clear hb3
  go_upto_region 5 with (fail)
  refine into_world (fun wx => Blk wx (w.heap.size + 1) 37 #[.slice none 0 0, .slice none 0 0, .slice none 0 0] ∧ Blk wx (w.heap.size + 1 + 1) 37 #[.slice t1.a t1.n t1.c, .slice (some ⟨g2, 0, none⟩) k.n k.n, .slice (some ⟨g3, 0, none⟩) g.n g.n] ∧ Frm w.heap.size (w.heap.size + 3) w3 wx) ⟨((kR3).far (p := ⟨w.heap.size + 1 + 1, 2, none⟩) (by simp; try omega) _), (kO3).set_ 2 (.slice (some ⟨g3, 0, none⟩) g.n g.n), (Frm.refl _ _ _).set_ (p := ⟨w.heap.size + 1 + 1, 2, none⟩) (by simp <;> omega) (by simp <;> omega) _⟩ ?_
  rintro wx ⟨kR, kO, HFx⟩
  have cO := fun o => kO.cell o
  have cR := fun o => kR.cell o
  have fR := fun o => kR.frozen o
  have zO := kO.lt
  have zR := kR.lt
  clear kA3 kR3 kO3 cA3 cO3 fO3 kO kR
  go_wp2_with fail
  refine bodyPost_ret (v := .agg #[.slice t1.a t1.n t1.c, .slice (some ⟨g2, 0, none⟩) k.n k.n, .slice (some ⟨g3, 0, none⟩) g.n g.n]) (by simp [results, Tryz.results15, go_sem, cR]) rfl ?_
  have hs := HB3.out.size
  have hz := HFx.size
  refine toService_end (HYS.out.trans HXS.out) HOT.out hlo hhi HL2.out HL3.out hn2 hn3 HB3.out HK2.out HK3.out gz2 h23 (HFx.trans ?_)
  iterate 3 (refine Frm.set_ ?_ (by simp <;> omega) (by simp <;> omega) _)
  exact Frm.refl _ _ _

theorem ows_drew {lo hi : Nat} {w : World} {t k g : Sl} {S : Svc} (h : OwS lo hi w t k g S) : OwS lo hi w.drew t k g S := h
theorem rds_drew {w : World} {t k g : Sl} {S : Svc} (h : RdS w t k g S) : RdS w.drew t k g S := h
theorem below_undrew {W w' : World} (h : Below W.drew.heap.size W.drew w') : Below W.heap.size W w' := ⟨h.os, h.tape, h.output, h.size, h.block⟩
end Go.Proofs.YtepddbfafdfadaaGreat

/-
  l41Level of the reference: a level in new rows.
-/
import Derived.Test.YtepddbfafdfadaaGreatCp
namespace Go.Proofs.YtepddbfafdfadaaGreat
open Go.RowKit Go.Sort

set_option maxRecDepth 100000 in
set_option maxHeartbeats 4000000 in
theorem l41Level_any (l : Lvl) (ws gs : Sl) (w : World) (hr : RdL w l ws gs) :
    Calls Tryz.prog 48 #[lvlV l ws gs] w fun e w' => ∃ a b, e = .returned (lvlV l a b) ∧ OwL w.heap.size w'.heap.size w' l a b ∧ (blkOf a ++ blkOf b).Nodup ∧ Below w.heap.size w w' := by
  obtain ⟨i0, hi0, hz0, hz1, hz2⟩ := info_parts infoB
  have HI := Lib.hid hi0
  have HZ := Lib.hid hz0
  have HS := Lib.hid hz1
  have HBY := Lib.hid hz2
  clear hi0 hz0 hz1 hz2
  obtain ⟨hr1, hr2, ⟨_, hn1⟩, _, hn2⟩ := hr
  have HR1 := Lib.hid hr1
  have HR2 := Lib.hid hr2
  clear hr1 hr2
  go_enter Tryz.func48, Tryz.ntmps48
  go_upto_region 1 with (fail)
  refine into_world (fun W => Below w.heap.size w W ∧ W.heap.size = w.heap.size + 2 ∧ Blk W w.heap.size 46 #[.int .i64 l.id, .int .i64 l.ticks, .int .i64 l.sx, .int .i64 l.sy, .slice ws.a ws.n ws.c, .slice gs.a gs.n gs.c, .int .i64 l.f.1, .int .i64 l.f.2.1, .int .i64 l.f.2.2.1, .int .i64 l.f.2.2.2, .int .i64 l.bans] ∧ Blk W (w.heap.size + 1) 46 #[.int .i64 0, .int .i64 0, .int .i64 0, .int .i64 0, .slice none 0 0, .slice none 0 0, .int .i64 0, .int .i64 0, .int .i64 0, .int .i64 0, .int .i64 0]) ⟨by go_grown, by simp, (Blk.new _ _ _).alloc _, Blk.newAt _ _ _ _ (by simp)⟩ ?_
  rintro W ⟨hbw, hwz, hka, hkr⟩
  have HD1 := Lib.hid (show RdB W ws.a ws.n l.walls from HR1.out.below hbw)
  have HD2 := Lib.hid (show RdB W gs.a gs.n l.gates from HR2.out.below hbw)
  have HBW := Lib.hid hbw
  have ca := fun o => hka.cell o
  have za := hka.lt
  clear hbw
  go_upto_region 2 with (at_builtin; refine wpList_append_ow _ rfl (.tmp 3) (.tmp 5) _ rfl W.heap.size 44 i0 _ 4 32 Tryz.underlying42 HI.out HZ.out HS.out HBY.out rfl (by omega) _ 0 0 [] rfl (Ow.bare _ _ _ _ _) _ ws.n _ (cellsB l.walls) rfl (Src.rd encB_len (HD1.out.below (by go_grown))) (cellsX_oneCell encB_one _) (by unfold maxLen; omega) (by omega) (by simp) ?_; intro A1 c1 y2 hown2 hg2 _; rw [Nat.zero_add, List.nil_append] at hown2; have hbb := (Ow.bare W.heap.size _ 44 4 none).grown hg2 ((Below.refl W.heap.size W).alloc (Nat.le_refl _) _) (Nat.le_refl _) (by simp); have hka2 := hka.next hbb; have hkr2 := hkr.next hbb; have ca2 := fun o => hka2.cell o; have fa2 := fun o => hka2.frozen o; have za2 := hka2.lt)
  refine into_world (fun X => Below w.heap.size w X ∧ W.heap.size ≤ X.heap.size ∧ Blk X w.heap.size 46 #[.int .i64 l.id, .int .i64 l.ticks, .int .i64 l.sx, .int .i64 l.sy, .slice A1 ws.n c1, .slice gs.a gs.n gs.c, .int .i64 l.f.1, .int .i64 l.f.2.1, .int .i64 l.f.2.2.1, .int .i64 l.f.2.2.2, .int .i64 l.bans] ∧ Blk X (w.heap.size + 1) 46 #[.int .i64 0, .int .i64 0, .int .i64 0, .int .i64 0, .slice none 0 0, .slice none 0 0, .int .i64 0, .int .i64 0, .int .i64 0, .int .i64 0, .int .i64 0] ∧ Ow W.heap.size X 44 4 A1 ws.n c1 (cellsB l.walls)) ⟨(HBW.out.trans (hbb.mono (by omega))).setCell (Nat.le_refl _) _, by simpa using hbb.size, hka2.set_ 4 _, hkr2.far (by simp) _, hown2.onlyB (g := w.heap.size) (Only.set_ (Only.refl _ _) (.inl rfl) _) (by omega)⟩ ?_
  rintro X ⟨hbx, hsx, hka, hkr, hox⟩
  clear hown2 hg2 hbb hka2 hkr2 ca2 fa2 za2 ca za
  have HE2 := Lib.hid (show RdB X gs.a gs.n l.gates from HR2.out.below hbx)
  have HBX := Lib.hid hbx
  have HOX := Lib.hid hox
  have ca := fun o => hka.cell o
  have za := hka.lt
  clear hbx hox
  go_upto_region 3 with (at_builtin; refine wpList_append_ow _ rfl (.tmp 8) (.tmp 10) _ rfl X.heap.size 44 i0 _ 4 32 Tryz.underlying42 HI.out HZ.out HS.out HBY.out rfl (by omega) _ 0 0 [] rfl (Ow.bare _ _ _ _ _) _ gs.n _ (cellsB l.gates) rfl (Src.rd encB_len (HE2.out.below (by go_grown))) (cellsX_oneCell encB_one _) (by unfold maxLen; omega) (by omega) (by simp) ?_; intro A2 c2 y3 hown2 hg2 _; rw [Nat.zero_add, List.nil_append] at hown2; have hbb := (Ow.bare X.heap.size _ 44 4 none).grown hg2 ((Below.refl X.heap.size X).alloc (Nat.le_refl _) _) (Nat.le_refl _) (by simp); have hka2 := hka.next hbb; have hkr2 := hkr.next hbb; have ca2 := fun o => hka2.cell o; have fa2 := fun o => hka2.frozen o; have za2 := hka2.lt)
  have hBz : w.heap.size + 2 ≤ W.heap.size := by omega
  obtain ⟨r1, r2, r3, _⟩ := two_rows HOX.out hown2 hbb (B := w.heap.size + 2) (b := w.heap.size) hBz hsx (Frm.set_ (p := ⟨w.heap.size, 5, none⟩) (Frm.refl _ _ _) (Nat.le_refl _) (Nat.lt_succ_self _) (.slice A2 gs.n c2)) (by omega)
  refine into_world (fun Y => Below w.heap.size w Y ∧ Blk Y w.heap.size 46 #[.int .i64 l.id, .int .i64 l.ticks, .int .i64 l.sx, .int .i64 l.sy, .slice A1 ws.n c1, .slice A2 gs.n c2, .int .i64 l.f.1, .int .i64 l.f.2.1, .int .i64 l.f.2.2.1, .int .i64 l.f.2.2.2, .int .i64 l.bans] ∧ Blk Y (w.heap.size + 1) 46 #[.int .i64 0, .int .i64 0, .int .i64 0, .int .i64 0, .slice none 0 0, .slice none 0 0, .int .i64 0, .int .i64 0, .int .i64 0, .int .i64 0, .int .i64 0] ∧ Ow (w.heap.size + 2) Y 44 4 A1 ws.n c1 (cellsB l.walls) ∧ Ow (w.heap.size + 2) Y 44 4 A2 gs.n c2 (cellsB l.gates)) ⟨(HBX.out.trans (hbb.mono (by omega))).setCell (Nat.le_refl _) _, hka2.set_ 5 _, hkr2.far (by simp) _, r1, r2⟩ ?_
  rintro Y ⟨hby, hka, hkr, h1, h2⟩
  clear r1 r2 hown2 hg2 hbb hka2 hkr2 ca2 fa2 za2 ca za
  have ca := fun o => hka.cell o
  have za := hka.lt
  have cr := fun o => hkr.cell o
  have fr := fun o => hkr.frozen o
  have zr := hkr.lt
  have HB := Lib.hid hby
  have H1 := Lib.hid h1
  have H2 := Lib.hid h2
  clear h1 h2 hby
  go_wp2_with fail
  refine bodyPost_ret (v := lvlV l ⟨A1, ws.n, c1⟩ ⟨A2, gs.n, c2⟩) (by simp [results, Tryz.results48, go_sem, cr]) rfl ?_
  have hend : ∀ X : World, Frm (w.heap.size + 1) (w.heap.size + 2) Y X → ∃ a b, Ending.returned (lvlV l ⟨A1, ws.n, c1⟩ ⟨A2, gs.n, c2⟩) = .returned (lvlV l a b) ∧ OwL w.heap.size X.heap.size X l a b ∧ (blkOf a ++ blkOf b).Nodup ∧ Below w.heap.size w X := fun X hX =>
    ⟨⟨A1, ws.n, c1⟩, ⟨A2, gs.n, c2⟩, rfl, ⟨(((OwI.of H1.out).frm hX (.inr (by omega))).mono (by omega) hX.size), (((OwI.of H2.out).frm hX (.inr (by omega))).mono (by omega) hX.size), hn1, hn2⟩, r3, HB.out.trans (hX.below (by omega) HB.out.size)⟩
  refine hend _ ?_
  iterate 11 (refine Frm.set_ ?_ (by simp) (by simp) _)
  exact Frm.refl _ _ _
end Go.Proofs.YtepddbfafdfadaaGreat

/-
  Lemmas and contracts: Cp Cq Md Mt Mh Cr. No condition.
-/
import Derived.Deep.RegionWith
import Derived.Test.YtemnlheidghbmaaGreatKc8
import Derived.Test.YtemnlheidghbmaaGreatKc22
namespace Go.Proofs.YtemnlheidghbmaaGreat
open Go.RowKit Go.Sort

theorem two_rows {B b T1 T2 z1 z2 n1 n2 c1 c2 : Nat} {A1 A2 : Option Addr} {v1 v2 : List Value} {W x1 x2 X : World} (hO1 : Ow W.heap.size x1 T1 z1 A1 n1 c1 v1) (hO2 : Ow x1.heap.size x2 T2 z2 A2 n2 c2 v2) (hb2 : Below x1.heap.size x1 x2) (hB : B ≤ W.heap.size) (h1 : W.heap.size ≤ x1.heap.size) (hf : Frm b (b + 1) x2 X) (hb : b < B) :
    Ow B X T1 z1 A1 n1 c1 v1 ∧ Ow B X T2 z2 A2 n2 c2 v2 ∧ (blkOf ⟨A1, n1, c1⟩ ++ blkOf ⟨A2, n2, c2⟩).Nodup ∧ (blkOf ⟨A2, n2, c2⟩ ++ blkOf ⟨A1, n1, c1⟩).Nodup := by
  have i1 := ((OwI.of hO1).next hb2).frm hf (.inr (by omega))
  have i2 := (OwI.of hO2).frm hf (.inr (by omega))
  have hn : (blkOf ⟨A1, n1, c1⟩ ++ blkOf ⟨A2, n2, c2⟩).Nodup := nodup_app x1.heap.size (blkOf_nodup _) (blkOf_nodup _) (fun g hg => (OwI.mem (s := ⟨A1, n1, c1⟩) i1 g hg).2) (fun g hg => (OwI.mem (s := ⟨A2, n2, c2⟩) i2 g hg).1)
  obtain ⟨n1, n2, d⟩ := List.nodup_append.1 hn
  exact ⟨i1.ow.mono hB, i2.ow.mono (by omega), hn, List.nodup_append.2 ⟨n2, n1, fun a ha b hb e => d b hb a ha e.symm⟩⟩

set_option maxRecDepth 100000 in
set_option maxHeartbeats 4000000 in
theorem copyLevel_any (l : Lvl) (ws gs : Sl) (w : World) (hr : RdL w l ws gs) :
    Calls Tryz.prog 27 #[lvlV l ws gs] w fun e w' => ∃ a b, e = .returned (lvlV l a b) ∧ OwL w.heap.size w'.heap.size w' l a b ∧ (blkOf a ++ blkOf b).Nodup ∧ Below w.heap.size w w' := by
  obtain ⟨hr1, hr2, ⟨_, hn1⟩, _, hn2⟩ := hr
  have HR1 := Lib.hid hr1
  have HR2 := Lib.hid hr2
  clear hr1 hr2
  go_enter Tryz.func27, Tryz.ntmps27
  go_wp2_with fail
  obtain ⟨W, hW⟩ : ∃ W, W = ((w.alloc (.cells #[.int .i64 l.id, .int .i64 l.ticks, .int .i64 l.sx, .int .i64 l.sy, .slice ws.a ws.n ws.c, .slice gs.a gs.n gs.c, .int .i64 l.f.1, .int .i64 l.f.2.1, .int .i64 l.f.2.2.1, .int .i64 l.f.2.2.2, .int .i64 l.bans] 33)).alloc (.cells #[.int .i64 0, .int .i64 0, .int .i64 0, .int .i64 0, .slice none 0 0, .slice none 0 0, .int .i64 0, .int .i64 0, .int .i64 0, .int .i64 0, .int .i64 0] 33)) := ⟨_, rfl⟩
  have hbw : Below w.heap.size w W := by rw [hW]; go_grown
  have hwz : W.heap.size = w.heap.size + 2 := by rw [hW]; simp
  have hka : Blk W w.heap.size 33 #[.int .i64 l.id, .int .i64 l.ticks, .int .i64 l.sx, .int .i64 l.sy, .slice ws.a ws.n ws.c, .slice gs.a gs.n gs.c, .int .i64 l.f.1, .int .i64 l.f.2.1, .int .i64 l.f.2.2.1, .int .i64 l.f.2.2.2, .int .i64 l.bans] := by rw [hW]; exact (Blk.new _ _ _).alloc _
  have hkr : Blk W (w.heap.size + 1) 33 #[.int .i64 0, .int .i64 0, .int .i64 0, .int .i64 0, .slice none 0 0, .slice none 0 0, .int .i64 0, .int .i64 0, .int .i64 0, .int .i64 0, .int .i64 0] := by rw [hW]; exact Blk.newAt _ _ _ _ (by simp)
  have hd1 : RdB W ws.a ws.n l.walls := HR1.out.below hbw
  have hd2 : RdB W gs.a gs.n l.gates := HR2.out.below hbw
  have HD1 := Lib.hid (show RdB W.drew ws.a ws.n l.walls from hd1)
  have HD2 := Lib.hid (show RdB W.drew gs.a gs.n l.gates from hd2)
  have HBW := Lib.hid hbw
  have HWZ := Lib.hid hwz
  have HKA := Lib.hid hka
  have HKR := Lib.hid hkr
  have ca := fun o => hka.cell o
  have za := hka.lt
  rw [← hW]
  clear hW hbw hwz hka hkr hd1 hd2
  go_cut [3] (fun _ wx => ∃ A c A' c' m, Hid (Below w.heap.size w wx ∧ Blk wx w.heap.size 33 #[.int .i64 l.id, .int .i64 l.ticks, .int .i64 l.sx, .int .i64 l.sy, .slice A ws.n c, .slice A' gs.n c', .int .i64 l.f.1, .int .i64 l.f.2.1, .int .i64 l.f.2.2.1, .int .i64 l.f.2.2.2, .int .i64 l.bans] ∧ Blk wx (w.heap.size + 1) 33 #[.int .i64 0, .int .i64 0, .int .i64 0, .int .i64 0, .slice none 0 0, .slice none 0 0, .int .i64 0, .int .i64 0, .int .i64 0, .int .i64 0, .int .i64 0] ∧ Ow (w.heap.size + 2) wx 31 4 A ws.n c (cellsB l.walls) ∧ Ow (w.heap.size + 2) wx 31 4 A' gs.n c' (cellsB l.gates) ∧ (blkOf ⟨A, ws.n, c⟩ ++ blkOf ⟨A', gs.n, c'⟩).Nodup ∧ m = w.heap.size))
  case first =>
    go_region_with (first
      | (go_at_call 66; refine (cloneB_any ws.a ws.n ws.c l.walls _ HD1.out hn1).mono ?_; rintro e x1 ⟨A1, c1, rfl, hO1, hb1⟩; have hk1 := (HKA.out.drew).next hb1; have ca1 := fun o => hk1.cell o; have za1 := hk1.lt)
      | (go_at_call 66; refine (cloneB_any gs.a gs.n gs.c l.gates _ HD2.out hn2).mono ?_; rintro e x2 ⟨A2, c2, rfl, hO2, hb2⟩; have hk2 := (HKA.out.drew).next hb2; have ca2 := fun o => hk2.cell o; have za2 := hk2.lt)
      | (go_at_call 66; refine (cloneB_any ws.a ws.n ws.c l.walls _ (HD1.out.below hb2) hn1).mono ?_; rintro e x1 ⟨A1, c1, rfl, hO1, hb1⟩; have hk1 := hk2.next hb1; have ca1 := fun o => hk1.cell o; have za1 := hk1.lt; have fa1 := fun o => hk1.frozen o)
      | (go_at_call 66; refine (cloneB_any gs.a gs.n gs.c l.gates _ (HD2.out.below hb1) hn2).mono ?_; rintro e x2 ⟨A2, c2, rfl, hO2, hb2⟩; have hk2 := hk1.next hb2; have ca2 := fun o => hk2.cell o; have za2 := hk2.lt; have fa2 := fun o => hk2.frozen o))
    all_goals
      go_wp2_with fail
      go_meet
      first
        | (obtain ⟨r1, r2, r3, _⟩ := two_rows hO1 hO2 hb2 (B := w.heap.size + 2) (b := w.heap.size) (by rw [← HWZ.out]; exact Nat.le_refl _) hb1.size (Frm.set_ (p := ⟨w.heap.size, 5, none⟩) (Frm.set_ (p := ⟨w.heap.size, 4, none⟩) (Frm.refl _ _ _) (Nat.le_refl _) (Nat.lt_succ_self _) (.slice A1 ws.n c1)) (Nat.le_refl _) (Nat.lt_succ_self _) (.slice A2 gs.n c2)) (by omega)
           exact ⟨A1, c1, A2, c2, _, ((HBW.out.trans ((below_undrew hb1).mono (by have := HWZ.out; omega))).trans (hb2.mono (by have := hb1.size; have := HWZ.out; simp at *; omega))).setCell (Nat.le_refl _) _ |>.setCell (Nat.le_refl _) _, (hk2.set_ 4 _).set_ 5 _, ((((HKR.out.drew).next hb1).next hb2).far (by simp) _).far (by simp) _, r1, r2, r3, rfl⟩)
        | (obtain ⟨r2, r1, _, r3⟩ := two_rows hO2 hO1 hb1 (B := w.heap.size + 2) (b := w.heap.size) (by rw [← HWZ.out]; exact Nat.le_refl _) hb2.size (Frm.set_ (p := ⟨w.heap.size, 5, none⟩) (Frm.set_ (p := ⟨w.heap.size, 4, none⟩) (Frm.refl _ _ _) (Nat.le_refl _) (Nat.lt_succ_self _) (.slice A1 ws.n c1)) (Nat.le_refl _) (Nat.lt_succ_self _) (.slice A2 gs.n c2)) (by omega)
           exact ⟨A1, c1, A2, c2, _, ((HBW.out.trans ((below_undrew hb2).mono (by have := HWZ.out; omega))).trans (hb1.mono (by have := hb2.size; have := HWZ.out; simp at *; omega))).setCell (Nat.le_refl _) _ |>.setCell (Nat.le_refl _) _, (hk1.set_ 4 _).set_ 5 _, ((((HKR.out.drew).next hb2).next hb1).far (by simp) _).far (by simp) _, r1, r2, r3, rfl⟩)
  case rest =>
    obtain ⟨A, c, A', c', m, HH⟩ := hcut
    have HB := Lib.hid HH.out.1
    have HA := Lib.hid HH.out.2.1
    have HRR := Lib.hid HH.out.2.2.1
    have HO := Lib.hid HH.out.2.2.2
    have ca := fun o => HA.out.cell o
    have za := HA.out.lt
    have cr := fun o => HRR.out.cell o
    have fr := fun o => HRR.out.frozen o
    have zr := HRR.out.lt
    clear HH
    go_wp2_with fail
    refine bodyPost_ret (v := lvlV l ⟨A, ws.n, c⟩ ⟨A', gs.n, c'⟩) (by simp [results, Tryz.results27, go_sem, cr]) rfl ?_
    obtain ⟨h1, h2, h3, _⟩ := HO.out
    have hend : ∀ X : World, Frm (w.heap.size + 1) (w.heap.size + 2) wc X → ∃ a b, Ending.returned (lvlV l ⟨A, ws.n, c⟩ ⟨A', gs.n, c'⟩) = .returned (lvlV l a b) ∧ OwL w.heap.size X.heap.size X l a b ∧ (blkOf a ++ blkOf b).Nodup ∧ Below w.heap.size w X := fun X hX =>
      ⟨⟨A, ws.n, c⟩, ⟨A', gs.n, c'⟩, rfl, ⟨(((OwI.of h1).frm hX (.inr (by omega))).mono (by omega) hX.size), (((OwI.of h2).frm hX (.inr (by omega))).mono (by omega) hX.size), hn1, hn2⟩, h3, HB.out.trans (hX.below (by omega) HB.out.size)⟩
    refine hend _ ?_
    iterate 11 (refine Frm.set_ ?_ (by simp) (by simp) _)
    exact Frm.refl _ _ _
end Go.Proofs.YtemnlheidghbmaaGreat
namespace Go.Proofs.YtemnlheidghbmaaGreat
open Go.RowKit Go.Sort
set_option maxRecDepth 100000 in
set_option maxHeartbeats 4000000 in
theorem l41Level_any (l : Lvl) (ws gs : Sl) (w : World) (hr : RdL w l ws gs) :
  Calls Tryz.prog 31 #[lvlV l ws gs] w fun e w' => ∃ a b, e = .returned (lvlV l a b) ∧ OwL w.heap.size w'.heap.size w' l a b ∧ (blkOf a ++ blkOf b).Nodup ∧ Below w.heap.size w w' := by
 obtain ⟨i0, hi0, hz0, hz1, hz2⟩ := info_parts infoB
 have HI := Lib.hid hi0
 have HZ := Lib.hid hz0
 have HS := Lib.hid hz1
 have HBY := Lib.hid hz2
 clear hi0 hz0 hz1 hz2
 obtain ⟨hr1, hr2, ⟨_, hn1⟩, _, hn2⟩ := hr
 have HR1 := Lib.hid hr1
 have HR2 := Lib.hid hr2
 clear hr1 hr2
 go_enter Tryz.func31, Tryz.ntmps31
 go_upto_region 1 with (fail)
 refine into_world (fun W => Below w.heap.size w W ∧ W.heap.size = w.heap.size + 2 ∧ Blk W w.heap.size 33 #[.int .i64 l.id, .int .i64 l.ticks, .int .i64 l.sx, .int .i64 l.sy, .slice ws.a ws.n ws.c, .slice gs.a gs.n gs.c, .int .i64 l.f.1, .int .i64 l.f.2.1, .int .i64 l.f.2.2.1, .int .i64 l.f.2.2.2, .int .i64 l.bans] ∧ Blk W (w.heap.size + 1) 33 #[.int .i64 0, .int .i64 0, .int .i64 0, .int .i64 0, .slice none 0 0, .slice none 0 0, .int .i64 0, .int .i64 0, .int .i64 0, .int .i64 0, .int .i64 0]) ⟨by go_grown, by simp, (Blk.new _ _ _).alloc _, Blk.newAt _ _ _ _ (by simp)⟩ ?_
 rintro W ⟨hbw, hwz, hka, hkr⟩
 have HD1 := Lib.hid (show RdB W ws.a ws.n l.walls from HR1.out.below hbw)
 have HD2 := Lib.hid (show RdB W gs.a gs.n l.gates from HR2.out.below hbw)
 have HBW := Lib.hid hbw
 have ca := fun o => hka.cell o
 have za := hka.lt
 clear hbw
 go_upto_region 2 with (at_builtin; refine wpList_append_ow _ rfl (.tmp 3) (.tmp 5) _ rfl W.heap.size 31 i0 _ 4 32 Tryz.underlying29 HI.out HZ.out HS.out HBY.out rfl (by omega) _ 0 0 [] rfl (Ow.bare _ _ _ _ _) _ ws.n _ (cellsB l.walls) rfl (Src.rd encB_len (HD1.out.below (by go_grown))) (cellsX_oneCell encB_one _) (by unfold maxLen; omega) (by omega) (by simp) ?_; intro A1 c1 y2 hown2 hg2 _; rw [Nat.zero_add, List.nil_append] at hown2; have hbb := (Ow.bare W.heap.size _ 31 4 none).grown hg2 ((Below.refl W.heap.size W).alloc (Nat.le_refl _) _) (Nat.le_refl _) (by simp); have hka2 := hka.next hbb; have hkr2 := hkr.next hbb; have ca2 := fun o => hka2.cell o; have fa2 := fun o => hka2.frozen o; have za2 := hka2.lt)
 refine into_world (fun X => Below w.heap.size w X ∧ W.heap.size ≤ X.heap.size ∧ Blk X w.heap.size 33 #[.int .i64 l.id, .int .i64 l.ticks, .int .i64 l.sx, .int .i64 l.sy, .slice A1 ws.n c1, .slice gs.a gs.n gs.c, .int .i64 l.f.1, .int .i64 l.f.2.1, .int .i64 l.f.2.2.1, .int .i64 l.f.2.2.2, .int .i64 l.bans] ∧ Blk X (w.heap.size + 1) 33 #[.int .i64 0, .int .i64 0, .int .i64 0, .int .i64 0, .slice none 0 0, .slice none 0 0, .int .i64 0, .int .i64 0, .int .i64 0, .int .i64 0, .int .i64 0] ∧ Ow W.heap.size X 31 4 A1 ws.n c1 (cellsB l.walls)) ⟨(HBW.out.trans (hbb.mono (by omega))).setCell (Nat.le_refl _) _, by simpa using hbb.size, hka2.set_ 4 _, hkr2.far (by simp) _, hown2.onlyB (g := w.heap.size) (Only.set_ (Only.refl _ _) (.inl rfl) _) (by omega)⟩ ?_
 rintro X ⟨hbx, hsx, hka, hkr, hox⟩
 clear hown2 hg2 hbb hka2 hkr2 ca2 fa2 za2 ca za
 have HE2 := Lib.hid (show RdB X gs.a gs.n l.gates from HR2.out.below hbx)
 have HBX := Lib.hid hbx
 have HOX := Lib.hid hox
 have ca := fun o => hka.cell o
 have za := hka.lt
 clear hbx hox
 go_upto_region 3 with (at_builtin; refine wpList_append_ow _ rfl (.tmp 8) (.tmp 10) _ rfl X.heap.size 31 i0 _ 4 32 Tryz.underlying29 HI.out HZ.out HS.out HBY.out rfl (by omega) _ 0 0 [] rfl (Ow.bare _ _ _ _ _) _ gs.n _ (cellsB l.gates) rfl (Src.rd encB_len (HE2.out.below (by go_grown))) (cellsX_oneCell encB_one _) (by unfold maxLen; omega) (by omega) (by simp) ?_; intro A2 c2 y3 hown2 hg2 _; rw [Nat.zero_add, List.nil_append] at hown2; have hbb := (Ow.bare X.heap.size _ 31 4 none).grown hg2 ((Below.refl X.heap.size X).alloc (Nat.le_refl _) _) (Nat.le_refl _) (by simp); have hka2 := hka.next hbb; have hkr2 := hkr.next hbb; have ca2 := fun o => hka2.cell o; have fa2 := fun o => hka2.frozen o; have za2 := hka2.lt)
 have hBz : w.heap.size + 2 ≤ W.heap.size := by omega
 obtain ⟨r1, r2, r3, _⟩ := two_rows HOX.out hown2 hbb (B := w.heap.size + 2) (b := w.heap.size) hBz hsx (Frm.set_ (p := ⟨w.heap.size, 5, none⟩) (Frm.refl _ _ _) (Nat.le_refl _) (Nat.lt_succ_self _) (.slice A2 gs.n c2)) (by omega)
 refine into_world (fun Y => Below w.heap.size w Y ∧ Blk Y w.heap.size 33 #[.int .i64 l.id, .int .i64 l.ticks, .int .i64 l.sx, .int .i64 l.sy, .slice A1 ws.n c1, .slice A2 gs.n c2, .int .i64 l.f.1, .int .i64 l.f.2.1, .int .i64 l.f.2.2.1, .int .i64 l.f.2.2.2, .int .i64 l.bans] ∧ Blk Y (w.heap.size + 1) 33 #[.int .i64 0, .int .i64 0, .int .i64 0, .int .i64 0, .slice none 0 0, .slice none 0 0, .int .i64 0, .int .i64 0, .int .i64 0, .int .i64 0, .int .i64 0] ∧ Ow (w.heap.size + 2) Y 31 4 A1 ws.n c1 (cellsB l.walls) ∧ Ow (w.heap.size + 2) Y 31 4 A2 gs.n c2 (cellsB l.gates)) ⟨(HBX.out.trans (hbb.mono (by omega))).setCell (Nat.le_refl _) _, hka2.set_ 5 _, hkr2.far (by simp) _, r1, r2⟩ ?_
 rintro Y ⟨hby, hka, hkr, h1, h2⟩
 clear r1 r2 hown2 hg2 hbb hka2 hkr2 ca2 fa2 za2 ca za
 have ca := fun o => hka.cell o
 have za := hka.lt
 have cr := fun o => hkr.cell o
 have fr := fun o => hkr.frozen o
 have zr := hkr.lt
 have HB := Lib.hid hby
 have H1 := Lib.hid h1
 have H2 := Lib.hid h2
 clear h1 h2 hby
 go_wp2_with fail
 refine bodyPost_ret (v := lvlV l ⟨A1, ws.n, c1⟩ ⟨A2, gs.n, c2⟩) (by simp [results, Tryz.results31, go_sem, cr]) rfl ?_
 have hend : ∀ X : World, Frm (w.heap.size + 1) (w.heap.size + 2) Y X → ∃ a b, Ending.returned (lvlV l ⟨A1, ws.n, c1⟩ ⟨A2, gs.n, c2⟩) = .returned (lvlV l a b) ∧ OwL w.heap.size X.heap.size X l a b ∧ (blkOf a ++ blkOf b).Nodup ∧ Below w.heap.size w X := fun X hX =>
  ⟨⟨A1, ws.n, c1⟩, ⟨A2, gs.n, c2⟩, rfl, ⟨(((OwI.of H1.out).frm hX (.inr (by omega))).mono (by omega) hX.size), (((OwI.of H2.out).frm hX (.inr (by omega))).mono (by omega) hX.size), hn1, hn2⟩, r3, HB.out.trans (hX.below (by omega) HB.out.size)⟩
 refine hend _ ?_
 iterate 11 (refine Frm.set_ ?_ (by simp) (by simp) _)
 exact Frm.refl _ _ _
end Go.Proofs.YtemnlheidghbmaaGreat
namespace Go.Proofs.YtemnlheidghbmaaGreat
open Go.RowKit Go.Sort
def markB (k : Int) (n : Nat) : List Bx := (List.range n).map fun i : Nat => (k + 4 * (i : Int), k + 4 * (i : Int) + 1, k + 4 * (i : Int) + 1 + 1, k + 4 * (i : Int) + 1 + 1 + 1)
theorem ownB_some {g c : Nat} (h : 0 < c) : ownB (some (⟨g, 0, none⟩ : Addr)) c = some g := by unfold ownB; rw [if_neg (by omega)]; rfl
end Go.Proofs.YtemnlheidghbmaaGreat
namespace Go.Proofs.YtemnlheidghbmaaGreat
open Go.RowKit Go.Sort
def KeepI (w w' : World) : Prop := ∀ x cs, Blk w x 3 cs → w'.heap[x]? = w.heap[x]?
theorem KeepI.refl (w : World) : KeepI w w := fun _ _ _ => rfl
theorem KeepI.trans {a b c : World} (h : KeepI a b) (k : KeepI b c) : KeepI a c := fun x cs hx => (k x cs ((h x cs hx).trans hx)).trans (h x cs hx)
theorem KeepI.only {g T : Nat} {a b : World} {cur : Array Value} (h : Blk a g T cur) (hne : 3 ≠ T) (ho : Only g a b) : KeepI a b := fun x cs hx => ho.block x hx.lt (by
 intro e
 injection e with e
 exact Blk.ne_ hx h hne e)
theorem KeepI.own {lo hi T sz n c : Nat} {A : Option Addr} {a b : World} {vs : List Value} (h : OwI lo hi a T sz A n c vs) (hne : 3 ≠ T) (hg : a.grownBy b (ownB A c)) : KeepI a b := fun x cs hx => hg.block x hx.lt (by
 intro e
 rcases Nat.eq_zero_or_pos c with h0 | h0
 ·rw [h0] at e; simp [ownB] at e
 ·obtain ⟨g2, _, e2, _, hb2, _⟩ := h.ow.blk h0
  unfold ownB at e
  rw [if_neg (by omega), e2] at e
  injection e with e
  simp only at e
  exact Blk.ne_ hx hb2 hne e)
theorem OwTs.at12 {lo hi n c g k : Nat} {w : World} {a b : List Row} {x : Row} (h : OwTs lo hi w ⟨some ⟨g, 0, none⟩, n, c⟩ (a ++ x :: b)) (hk : a.length = k) (p : TP) (hp : x.1 = p) :
  ∃ cur z0 z1 z2 z3 z6 z7 z8 z9 z10, Blk w g 44 cur ∧ w.cell? ⟨g, k * 12, none⟩ = some (z0) ∧ w.cell? ⟨g, k * 12 + 1, none⟩ = some (z1) ∧ w.cell? ⟨g, k * 12 + 2, none⟩ = some (z2) ∧ w.cell? ⟨g, k * 12 + 3, none⟩ = some (z3) ∧ w.cell? ⟨g, k * 12 + 4, none⟩ = some (.slice p.w.a p.w.n p.w.c) ∧ w.cell? ⟨g, k * 12 + 5, none⟩ = some (.slice p.g.a p.g.n p.g.c) ∧ w.cell? ⟨g, k * 12 + 6, none⟩ = some (z6) ∧ w.cell? ⟨g, k * 12 + 7, none⟩ = some (z7) ∧ w.cell? ⟨g, k * 12 + 8, none⟩ = some (z8) ∧ w.cell? ⟨g, k * 12 + 9, none⟩ = some (z9) ∧ w.cell? ⟨g, k * 12 + 10, none⟩ = some (z10) ∧ w.cell? ⟨g, k * 12 + 11, none⟩ = some (.slice p.b.a p.b.n p.b.c) := by
 subst hp
 obtain ⟨h1, _, _, _, _⟩ := h
 have hO : Ow lo w 44 12 (some ⟨g, 0, none⟩) n c (cellsT (a ++ x :: b)) := h1.ow
 have hlen := hO.len
 rw [cellsT_len, List.length_append, List.length_cons] at hlen
 have hle := hO.le
 obtain ⟨g', cur, hg, hB, hb, hnc, hcm, hcs, htk⟩ := hO.blk (by omega)
 injection hg with hg
 injection hg with hg
 subst hg
 have hc : ∀ j v, (encT x)[j]? = some v → w.cell? ⟨g, k * 12 + j, none⟩ = some v := by
  intro j v hv
  have hj : j < 12 := (List.getElem?_eq_some_iff.1 hv).1
  have h2 : (cellsT (a ++ x :: b))[k * 12 + j]? = some v := cellsX_get encT_len (a ++ x :: b) k x (by rw [← hk]; simp) j v hv
  rw [hb.cell, ← Array.getElem?_toList]
  rw [← htk, List.getElem?_take] at h2
  split at h2
  ·exact h2
  ·cases h2
 exact ⟨cur, _, _, _, _, _, _, _, _, _, hb, hc 0 _ rfl, hc 1 _ rfl, hc 2 _ rfl, hc 3 _ rfl, hc 4 _ rfl, hc 5 _ rfl, hc 6 _ rfl, hc 7 _ rfl, hc 8 _ rfl, hc 9 _ rfl, hc 10 _ rfl, hc 11 _ rfl⟩
def MkT (k : Int) (x : Trk) (k' : Int) : Prop :=
 ∃ p q : Int, p = k + 1 + 1 + 1 + 1 + 4 * (x.l.walls.length : Int) ∧ q = p + 4 * (x.l.gates.length : Int) ∧ x.l.id = k ∧ x.l.ticks = k + 1 ∧ x.l.sx = k + 1 + 1 ∧ x.l.sy = k + 1 + 1 + 1 ∧
  x.l.walls = markB (k + 1 + 1 + 1 + 1) x.l.walls.length ∧ x.l.gates = markB p x.l.gates.length ∧ x.l.f = (q, q + 1, q + 1 + 1, q + 1 + 1 + 1) ∧ x.l.bans = q + 1 + 1 + 1 + 1 ∧
  x.b = markL (q + 1 + 1 + 1 + 1 + 1) x.b.length ∧ k' = q + 1 + 1 + 1 + 1 + 1 + 2 * (x.b.length : Int)
def MkTs : Int → List Trk → Int → Prop
 | k, [], k' => k' = k
 | k, x :: r, k' => ∃ k1, MkT k x k1 ∧ MkTs k1 r k'
theorem MkT.le {k k' : Int} {x : Trk} (h : MkT k x k') : k ≤ k' := by
 obtain ⟨p, q, h1, h2, _, _, _, _, _, _, _, _, _, h3⟩ := h
 omega
theorem MkTs.le : ∀ {xs : List Trk} {k k' : Int}, MkTs k xs k' → k ≤ k'
 | [], _, _, h => by rw [show _ = _ from h]; exact Int.le_refl _
 | _ :: _, _, _, ⟨_, h1, h2⟩ => Int.le_trans h1.le h2.le
theorem MkTs.app : ∀ {xs : List Trk} {k K K' : Int} {x : Trk}, MkTs k xs K → MkT K x K' → MkTs k (xs ++ [x]) K'
 |[], _, _, _, _, h, h' => by
  have : _ = _ := h
  subst this
  exact ⟨_, h', rfl⟩
 | _ :: _, _, _, _, _, ⟨_, h1, h2⟩, h' => ⟨_, h1, h2.app h'⟩
end Go.Proofs.YtemnlheidghbmaaGreat
namespace Go.Proofs.YtemnlheidghbmaaGreat
open Go.RowKit Go.Sort
theorem OwTs.apartI {lo hi B n c : Nat} {A : Option Addr} {w w' : World} {t : Sl} {xs : List Row} {vs : List Value} (h : OwTs lo hi w t xs) (k : Ow B w 3 1 A n c vs) (hg : w.grownBy w' (ownB A c)) : OwTs lo hi w' t xs :=
 ⟨h.1.apart k (by decide) hg, fun x hx => by
  obtain ⟨⟨h1, h2, h3⟩, h4, h5⟩ := h.2.1 x hx
  exact ⟨⟨h1.apart k (by decide) hg, h2.apart k (by decide) hg, h3⟩, h4.apart k (by decide) hg, h5⟩, h.2.2⟩
theorem keepZ {lo hi : Nat} {w w' : World} {s : Sl} {zs : List Int} (h : OwZ lo hi w s zs) (hk : KeepI w w') : OwZ lo hi w' s zs :=
 OwI.keep h fun g hg hc => by
  obtain ⟨g', cur, hA, _, hb, _⟩ := h.ow.blk hc
  rw [hA] at hg
  injection hg with hg
  simp only at hg
  subst hg
  exact hk _ _ hb
end Go.Proofs.YtemnlheidghbmaaGreat
namespace Go.Proofs.YtemnlheidghbmaaGreat
open Go.RowKit Go.Sort
theorem t12 {w : World} {b : Nat} {x : Row} (h : Blk w b 44 #[.int .i64 x.2.l.id, .int .i64 x.2.l.ticks, .int .i64 x.2.l.sx, .int .i64 x.2.l.sy, .slice x.1.w.a x.1.w.n x.1.w.c, .slice x.1.g.a x.1.g.n x.1.g.c, .int .i64 x.2.l.f.1, .int .i64 x.2.l.f.2.1, .int .i64 x.2.l.f.2.2.1, .int .i64 x.2.l.f.2.2.2, .int .i64 x.2.l.bans, .slice x.1.b.a x.1.b.n x.1.b.c]) : w.cell? ⟨b, 0, none⟩ = some (.int .i64 x.2.l.id) ∧ w.cell? ⟨b, 1, none⟩ = some (.int .i64 x.2.l.ticks) ∧ w.cell? ⟨b, 2, none⟩ = some (.int .i64 x.2.l.sx) ∧ w.cell? ⟨b, 3, none⟩ = some (.int .i64 x.2.l.sy) ∧ w.cell? ⟨b, 4, none⟩ = some (.slice x.1.w.a x.1.w.n x.1.w.c) ∧ w.cell? ⟨b, 5, none⟩ = some (.slice x.1.g.a x.1.g.n x.1.g.c) ∧ w.cell? ⟨b, 6, none⟩ = some (.int .i64 x.2.l.f.1) ∧ w.cell? ⟨b, 7, none⟩ = some (.int .i64 x.2.l.f.2.1) ∧ w.cell? ⟨b, 8, none⟩ = some (.int .i64 x.2.l.f.2.2.1) ∧ w.cell? ⟨b, 9, none⟩ = some (.int .i64 x.2.l.f.2.2.2) ∧ w.cell? ⟨b, 10, none⟩ = some (.int .i64 x.2.l.bans) ∧ w.cell? ⟨b, 11, none⟩ = some (.slice x.1.b.a x.1.b.n x.1.b.c) :=
 ⟨h.cell 0, h.cell 1, h.cell 2, h.cell 3, h.cell 4, h.cell 5, h.cell 6, h.cell 7, h.cell 8, h.cell 9, h.cell 10, h.cell 11⟩
theorem blk_t {lo hi T T' sz n c x : Nat} {A : Option Addr} {w0 w w' : World} {cs : Array Value} {vs : List Value} (h : Blk w x T cs) (k : OwI lo hi w0 T' sz A n c vs) (hg : w.grownBy w' (ownB A c)) (hx : hi ≤ x) : Blk w' x T cs :=
 (hg.block x h.lt (by
  intro e
  unfold ownB at e
  split at e
  ·cases e
  ·have := (k.lt e.symm (by omega)).2.1
   omega)).trans h
theorem blk_apart' {B T T' sz n c x : Nat} {A : Option Addr} {w w' : World} {cs : Array Value} {vs : List Value} (h : Blk w x T cs) (k : Ow B w T' sz A n c vs) (hne : T ≠ T') (hg : w.grownBy w' (ownB A c)) : Blk w' x T cs :=
 (hg.block x h.lt (by
  intro e
  rcases Nat.eq_zero_or_pos c with h0 | h0
  ·rw [h0] at e; simp [ownB] at e
  ·obtain ⟨g2, _, e2, _, hb2, _⟩ := k.blk h0
   unfold ownB at e
   rw [if_neg (by omega), e2] at e
   injection e with e
   simp only at e
   exact Blk.ne_ h hb2 hne e)).trans h
theorem keepI_frm {o T : Nat} {w w' : World} {cs : Array Value} (hf : Frm o (o + 1) w w') (h : Blk w o T cs) (hne : 3 ≠ T) : KeepI w w' := fun x _ hx => hf.block x hx.lt (by
 have : x ≠ o := by rintro rfl; exact Blk.ne_ hx h hne rfl
 omega)
theorem OwR.apart {lo hi B n c : Nat} {A : Option Addr} {w w' : World} {xs : List Row} {vs : List Value} (h : OwR lo hi w xs) (k : Ow B w 44 12 A n c vs) (hg : w.grownBy w' (ownB A c)) : OwR lo hi w' xs :=
 ⟨fun x hx => by
  obtain ⟨⟨h1, h2, h3⟩, h4, h5⟩ := h.own x hx
  exact ⟨⟨h1.apart k (by decide) hg, h2.apart k (by decide) hg, h3⟩, h4.apart k (by decide) hg, h5⟩, h.box, h.ent⟩
theorem copy_round {o p c' c4 M : Nat} {A' A4 : Option Addr} {ys : List Row} {y : Row} {wr xl w3 X : World} {ob : Obj} (ho : o < M) (hM : M ≤ wr.heap.size) (hp : p < 1048576)
  (hT : OwTs M wr.heap.size wr ⟨A', p, c'⟩ ys) (hb : Below wr.heap.size wr xl)
  (hL : OwL wr.heap.size xl.heap.size xl y.2.l y.1.w y.1.g) (hnd : (blkOf y.1.w ++ blkOf y.1.g).Nodup) (hE : OwEn wr.heap.size xl.heap.size xl y.1.b y.2.b) (hEn : y.1.b.n ≤ 1048576)
  (hO4 : Ow M w3 44 12 A4 (p + 1) c4 (cellsT ys ++ encT y)) (hg4 : (xl.alloc ob).grownBy w3 (ownB A' c')) (hX : Frm o (o + 1) w3 X) :
  OwTs M X.heap.size X ⟨A4, p + 1, c4⟩ (ys ++ [y]) := by
 have ha : Below xl.heap.size xl (xl.alloc ob) := (Below.refl _ _).alloc (Nat.le_refl _) _
 have hk : Ow M (xl.alloc ob) 44 12 A' p c' (cellsT ys) := ((hT.1.next hb).next ha).ow
 have r1 : OwR M wr.heap.size X ys := (((hT.rows.next hb).next ha).apart hk hg4).frm hX (.inr ho)
 have hL' := hL.next ha
 have hE' : OwEn wr.heap.size xl.heap.size (xl.alloc ob) y.1.b y.2.b := OwI.next hE ha
 have ry : OwR wr.heap.size xl.heap.size (xl.alloc ob) [y] := ⟨fun z hz => by
  obtain rfl : z = y := List.mem_singleton.1 hz
  exact ⟨hL', hE', hEn⟩, by rw [boxBlks_one]; exact hnd, by rw [entBlks_one]; exact blkOf_nodup _⟩
 have r2 : OwR wr.heap.size xl.heap.size X [y] := (ry.apart hk hg4).frm hX (.inr (by omega))
 have s1 : xl.heap.size ≤ X.heap.size := Nat.le_trans (Nat.le_trans ha.size hg4.size) hX.size
 have hR := (r1.app r2 hM hb.size).mono (lo' := M) (Nat.le_refl _) s1
 refine OwTs.mk_ ?_ hR (by show p + 1 ≤ 1048576; omega)
 have h5 := (OwI.of hO4).frm hX (.inr ho)
 have h6 := h5.mono (lo' := M) (Nat.le_refl _) hX.size
 show OwI M _ _ _ 12 _ _ _ (cellsX encT (ys ++ [y]))
 rw [cellsX_append, cellsX_one]
 exact h6
theorem copy_frm {o M c' : Nat} {A' : Option Addr} {wr xl w3 X : World} {ob : Obj} {p : Nat} {vs : List Value} {wc : World} (hwc : wc.heap.size = M) (h0 : Frm o (o + 1) wc wr) (hT : OwI M wr.heap.size wr 44 12 A' p c' vs) (hb : Below wr.heap.size wr xl) (hg4 : (xl.alloc ob).grownBy w3 (ownB A' c')) (hX : Frm o (o + 1) w3 X) : Frm o (o + 1) wc X := by
 have ha : Below xl.heap.size xl (xl.alloc ob) := (Below.refl _ _).alloc (Nat.le_refl _) _
 have h1 := ((h0.next hb).next ha)
 refine Frm.trans ⟨hg4.os.trans h1.os, hg4.tape.trans h1.tape, hg4.output.trans h1.output, Nat.le_trans h1.size hg4.size, fun i hi ho => ?_⟩ hX
 rw [hg4.block i (Nat.lt_of_lt_of_le hi h1.size) ?_]
 ·exact h1.block i hi ho
 ·intro e
  unfold ownB at e
  split at e
  ·cases e
  ·have := (hT.lt e.symm (by omega)).1
   omega
end Go.Proofs.YtemnlheidghbmaaGreat

/-
  The laws' own copies: toVec, toBox, toBoxS, toIntS, toLevel, toTrack, toTrackS, toService: what they return lies in new rows, no row twice. Slices of at most 2^20 elements.
-/
import Derived.Test.YtepddbfafdfadaaGreatOw
namespace Go.Proofs.YtepddbfafdfadaaGreat
open Go.RowKit Go.Sort

set_option maxHeartbeats 400000 in
theorem toVec_any (x y : Int) (w : World) :
    Calls Tryz.prog 51 #[.agg #[.int .i64 x, .int .i64 y]] w fun e w' => e = .returned (.agg #[.int .i64 x, .int .i64 y]) ∧ Below w.heap.size w w' := by
  go_enter Tryz.func51, Tryz.ntmps51
  go_wp2
  refine bodyPost_ret (v := .agg #[.int .i64 x, .int .i64 y]) (by simp [results, Tryz.results51, go_sem]) rfl ⟨rfl, ?_⟩
  go_grown

set_option maxHeartbeats 1000000 in
theorem toBox_any (b : Bx) (w : World) :
    Calls Tryz.prog 53 #[.agg #[.int .i64 b.1, .int .i64 b.2.1, .int .i64 b.2.2.1, .int .i64 b.2.2.2]] w fun e w' => e = .returned (.agg #[.int .i64 b.1, .int .i64 b.2.1, .int .i64 b.2.2.1, .int .i64 b.2.2.2]) ∧ Below w.heap.size w w' := by
  go_enter Tryz.func53, Tryz.ntmps53
  go_wp2_with fail
  refine (toVec_any _ _ _).mono ?_
  rintro e w1 ⟨rfl, hb1⟩
  have kA1 : Blk w1 (w.heap.size) 30 #[.int .i64 b.1, .int .i64 b.2.1, .int .i64 b.2.2.1, .int .i64 b.2.2.2] := ((((Blk.new w 30 #[.int .i64 b.1, .int .i64 b.2.1, .int .i64 b.2.2.1, .int .i64 b.2.2.2]).alloc _).alloc _)).next hb1
  have kR1 : Blk w1 (w.heap.size + 1) 44 #[.int .i64 0, .int .i64 0, .int .i64 0, .int .i64 0] := (((Blk.newAt _ 44 #[.int .i64 0, .int .i64 0, .int .i64 0, .int .i64 0] (w.heap.size + 1) (by simp)).alloc _)).next hb1
  have kO1 : Blk w1 (w.heap.size + 1 + 1) 44 #[.int .i64 0, .int .i64 0, .int .i64 0, .int .i64 0] := (Blk.newAt _ 44 #[.int .i64 0, .int .i64 0, .int .i64 0, .int .i64 0] (w.heap.size + 1 + 1) (by simp)).next hb1
  have HB1 := Lib.hid (ba (ba (ba hb1)))
  have cA1 := fun o => kA1.cell o
  have cO1 := fun o => kO1.cell o
  have fO1 := fun o => kO1.frozen o
  have z1 := kO1.lt
  clear hb1
  go_wp2_with fail
  refine (toVec_any _ _ _).mono ?_
  rintro e w2 ⟨rfl, hb2⟩
  have kA2 : Blk w2 (w.heap.size) 30 #[.int .i64 b.1, .int .i64 b.2.1, .int .i64 b.2.2.1, .int .i64 b.2.2.2] := ((((kA1).far (p := ⟨w.heap.size + 1 + 1, 0, none⟩) (by simp; try omega) _).far (p := ⟨w.heap.size + 1 + 1, 1, none⟩) (by simp; try omega) _)).next hb2
  have kR2 : Blk w2 (w.heap.size + 1) 44 #[.int .i64 0, .int .i64 0, .int .i64 0, .int .i64 0] := ((((kR1).far (p := ⟨w.heap.size + 1 + 1, 0, none⟩) (by simp; try omega) _).far (p := ⟨w.heap.size + 1 + 1, 1, none⟩) (by simp; try omega) _)).next hb2
  have kO2 : Blk w2 (w.heap.size + 1 + 1) 44 #[.int .i64 b.1, .int .i64 b.2.1, .int .i64 0, .int .i64 0] := (((kO1).set_ 0 (.int .i64 b.1)).set_ 1 (.int .i64 b.2.1)).next hb2
  have HB2 := Lib.hid (below_at (((HB1.out.setCell (p := ⟨w.heap.size + 1 + 1, 0, none⟩) (by simp; omega) _).setCell (p := ⟨w.heap.size + 1 + 1, 1, none⟩) (by simp; omega) _)) (by simpa using HB1.out.size) hb2)
  clear cA1 cO1 fO1 kA1 kR1 kO1
  have cA2 := fun o => kA2.cell o
  have cO2 := fun o => kO2.cell o
  have fO2 := fun o => kO2.frozen o
  have z2 := kO2.lt
  clear hb2
  go_upto_region 4 with (fail)
  refine into_world (fun wx => Blk wx (w.heap.size + 1) 44 #[.int .i64 0, .int .i64 0, .int .i64 0, .int .i64 0] ∧ Blk wx (w.heap.size + 1 + 1) 44 #[.int .i64 b.1, .int .i64 b.2.1, .int .i64 b.2.2.1, .int .i64 b.2.2.2] ∧ Frm w.heap.size (w.heap.size + 3) w2 wx) ⟨(((kR2).far (p := ⟨w.heap.size + 1 + 1, 2, none⟩) (by simp; try omega) _).far (p := ⟨w.heap.size + 1 + 1, 3, none⟩) (by simp; try omega) _), ((kO2).set_ 2 (.int .i64 b.2.2.1)).set_ 3 (.int .i64 b.2.2.2), ((Frm.refl _ _ _).set_ (p := ⟨w.heap.size + 1 + 1, 2, none⟩) (by simp <;> omega) (by simp <;> omega) _).set_ (p := ⟨w.heap.size + 1 + 1, 3, none⟩) (by simp <;> omega) (by simp <;> omega) _⟩ ?_
  rintro wx ⟨kR, kO, HFx⟩
  have cO := fun o => kO.cell o
  have cR := fun o => kR.cell o
  have fR := fun o => kR.frozen o
  have zO := kO.lt
  have zR := kR.lt
  clear kA2 kR2 kO2 cA2 cO2 fO2 kO kR
  go_wp2_with fail
  refine bodyPost_ret (v := .agg #[.int .i64 b.1, .int .i64 b.2.1, .int .i64 b.2.2.1, .int .i64 b.2.2.2]) (by simp [results, Tryz.results53, go_sem, cR]) rfl ⟨rfl, ?_⟩
  have hs := HB2.out.size
  have hx : Below w.heap.size w wx := HB2.out.trans (HFx.below (Nat.le_refl _) HB2.out.size)
  have hz := HFx.size
  iterate 4 (refine Below.setCell ?_ (by simp <;> omega) _)
  exact hx

set_option maxHeartbeats 1000000 in
theorem toIntS_any (A : Option Addr) (n c : Nat) (zs : List Int) (w : World) (hr : RdI .i64 w A n zs) (hn : n ≤ 1048576) :
    Calls Tryz.prog 50 #[.slice A n c] w fun e w' => ∃ g, e = .returned (.slice (some ⟨g, 0, none⟩) n n) ∧ w.heap.size ≤ g ∧ Blk w' g 3 (cellsI zs).toArray ∧ Below w.heap.size w w' := by
  have HR := Lib.hid hr; clear hr
  obtain ⟨i0, hi0, hz0, hz1, hz2⟩ := info_parts infoZ
  have hmk := fun W => run_make_rowN (P := Tryz.prog) 23 3 i0 _ Tryz.underlying23 hi0 hz0 .i64 .i64 n n (Nat.le_refl _) (by rw [hz2]; omega) (by omega) W
  rw [hz1] at hmk
  have hl := HR.out.len
  have HL := Lib.hid hl
  clear hi0 hz0 hz1 hz2 hl
  go_enter Tryz.func50, Tryz.ntmps50
  go_wp2
  generalize hcs : madeCells _ n = cs0
  have hsz : cs0.size = n := by rw [← hcs, size_madeCells]
  have HSZ := Lib.hid hsz
  clear hcs hsz hmk
  go_loopw [4] (fun i wr => ∃ k : Nat, k ≤ n ∧ i = .int .i64 k ∧ Hid (Below w.heap.size w wr ∧ ∃ cur, Blk wr w.heap.size 3 cur ∧ cur.size = n ∧ cur.toList.take k = cellsI (zs.take k))) (fun i _ => n - (intOf i).toNat)
  case atStart => exact ⟨0, Nat.zero_le _, rfl, (Below.refl _ _).alloc (Nat.le_refl _) _, cs0, Blk.new _ _ _, HSZ.out, by simp⟩
  case round =>
    obtain ⟨k, hk, rfl, HB⟩ := hrel
    by_cases hlt : k < n
    · obtain ⟨b, off, z, rfl, hb, hz, h0⟩ := (HR.out.below HB.out.1).at_ hlt
      obtain ⟨cur, hblk, hcs, hfill⟩ := HB.out.2
      have hk0 : k < cur.size := by omega
      have hc0 : wr.cell? ⟨w.heap.size, k, none⟩ = some cur[k] := (hblk.cell k).trans (Array.getElem?_eq_getElem hk0)
      have hf0 := hblk.frozen k
      have hglt := hblk.lt
      have HBK := Lib.hid hblk
      have HFL := Lib.hid hfill
      have HCS := Lib.hid hcs
      have HZ := Lib.hid hz
      generalize cur[k] = cv at hc0
      clear hz hblk hfill hcs hk0
      go_wp2
      have hsr := setRun_take [.int .i64 z] cur k (by rw [HCS.out]; simp; omega)
      refine ⟨⟨k + 1, by omega, by go_num, HB.out.1.setCell (Nat.le_refl _) _, _, HBK.out.set_ _ _, hsr.1.trans HCS.out, ?_⟩, by simp [intOf]; omega⟩
      have := hsr.2
      rw [HFL.out] at this
      rw [show zs.take (k + 1) = zs.take k ++ [z] by rw [List.take_add_one, HZ.out]; rfl]
      simpa [setRun] using this
    · go_wp2
      go_ret
      obtain ⟨cur, hblk, hcs, hfill⟩ := HB.out.2
      have hkn : k = n := by omega
      rw [List.take_of_length_le (by simp [hcs]; omega), List.take_of_length_le (by rw [HL.out]; omega)] at hfill
      have : cur = (cellsI zs).toArray := by rw [← hfill]
      rw [this] at hblk
      exact ⟨_, rfl, Nat.le_refl _, hblk, HB.out.1⟩
set_option maxHeartbeats 2000000 in
theorem toBoxS_any (A : Option Addr) (n c : Nat) (bs : List Bx) (w : World) (hr : RdB w A n bs) (hn : n ≤ 1048576) :
    Calls Tryz.prog 52 #[.slice A n c] w fun e w' => ∃ g, e = .returned (.slice (some ⟨g, 0, none⟩) n n) ∧ w.heap.size ≤ g ∧ Blk w' g 44 (cellsB bs).toArray ∧ Below w.heap.size w w' := by
  have HR := Lib.hid hr
  obtain ⟨i0, hi0, hz0, hz1, hz2⟩ := info_parts infoB
  have hmk := fun W => run_make_rowN (P := Tryz.prog) 42 44 i0 _ Tryz.underlying42 hi0 hz0 .i64 .i64 n n (Nat.le_refl _) (by rw [hz2]; omega) (by omega) W
  rw [hz1] at hmk
  have hl := hr.len
  have HL := Lib.hid hl
  clear hi0 hz0 hz1 hz2 hl hr
  go_enter Tryz.func52, Tryz.ntmps52
  go_wp2
  generalize hcs : madeCells _ (n * 4) = cs0
  have hsz : cs0.size = n * 4 := by rw [← hcs, size_madeCells]
  have HSZ := Lib.hid hsz
  clear hcs hsz hmk
  go_loopw [4] (fun i wr => ∃ k : Nat, k ≤ n ∧ i = .int .i64 k ∧ Hid (Below w.heap.size w wr ∧ ∃ cur, Blk wr w.heap.size 44 cur ∧ cur.size = n * 4 ∧ cur.toList.take (k * 4) = cellsB (bs.take k))) (fun i _ => n - (intOf i).toNat)
  case atStart => exact ⟨0, Nat.zero_le _, rfl, (Below.refl _ _).alloc (Nat.le_refl _) _, cs0, Blk.new _ _ _, HSZ.out, by simp [cellsX]⟩
  case round =>
    obtain ⟨k, hk, rfl, HB⟩ := hrel
    by_cases hlt : k < n
    · obtain ⟨b, off, x, hA, hb, hx, e0, e1, e2, e3⟩ := RdB.cells (HR.out.below HB.out.1) hlt
      subst hA
      obtain ⟨cur, hblk, hcs, hfill⟩ := HB.out.2
      have HBK := Lib.hid hblk
      have HFL := Lib.hid hfill
      have HCS := Lib.hid hcs
      have HX := Lib.hid hx
      clear hx hblk hfill hcs
      go_wp2_with fail
      refine (toBox_any x wr).mono ?_
      rintro e w1 ⟨rfl, hb1⟩
      have HB1 := Lib.hid (below_next HB.out.1 hb1)
      have hbk := HBK.out.next hb1
      have HBK1 := Lib.hid hbk
      have hglt := hbk.lt
      have q0 : k * 4 < cur.size := by rw [HCS.out]; omega
      have q1 : k * 4 + 1 < cur.size := by rw [HCS.out]; omega
      have q2 : k * 4 + 2 < cur.size := by rw [HCS.out]; omega
      have q3 : k * 4 + 3 < cur.size := by rw [HCS.out]; omega
      obtain ⟨v0, c0⟩ : ∃ v, w1.cell? ⟨w.heap.size, k * 4, none⟩ = some v := ⟨_, (hbk.cell _).trans (Array.getElem?_eq_getElem q0)⟩
      obtain ⟨v1, c1⟩ : ∃ v, w1.cell? ⟨w.heap.size, k * 4 + 1, none⟩ = some v := ⟨_, (hbk.cell _).trans (Array.getElem?_eq_getElem q1)⟩
      obtain ⟨v2, c2⟩ : ∃ v, w1.cell? ⟨w.heap.size, k * 4 + 2, none⟩ = some v := ⟨_, (hbk.cell _).trans (Array.getElem?_eq_getElem q2)⟩
      obtain ⟨v3, c3⟩ : ∃ v, w1.cell? ⟨w.heap.size, k * 4 + 3, none⟩ = some v := ⟨_, (hbk.cell _).trans (Array.getElem?_eq_getElem q3)⟩
      have hf := fun o => hbk.frozen o
      clear hb1 hbk q0 q1 q2 q3
      go_wp2_with fail
      have hsr := setRun_take (encB x) cur (k * 4) (by rw [HCS.out, encB_len]; omega)
      refine ⟨⟨k + 1, by omega, by go_num, (((HB1.out.setCell (Nat.le_refl _) _).setCell (Nat.le_refl _) _).setCell (Nat.le_refl _) _).setCell (Nat.le_refl _) _, setRun cur (k * 4) (encB x), (((HBK1.out.set_ _ _).set_ _ _).set_ _ _).set_ _ _, hsr.1.trans HCS.out, ?_⟩, by simp [intOf]; omega⟩
      have := hsr.2
      rw [HFL.out] at this
      show List.take _ _ = cellsX encB _
      rw [show bs.take (k + 1) = bs.take k ++ [x] by rw [List.take_add_one, HX.out]; rfl, cellsX_append, cellsX_one, show (k + 1) * 4 = k * 4 + (encB x).length by rw [encB_len]; omega]
      exact this
    · go_wp2
      go_ret
      obtain ⟨cur, hblk, hcs, hfill⟩ := HB.out.2
      have hkn : k = n := by omega
      subst hkn
      rw [List.take_of_length_le (by simp [hcs]), List.take_of_length_le (by rw [HL.out]; omega)] at hfill
      have : cur = (cellsB bs).toArray := by rw [← hfill]
      rw [this] at hblk
      exact ⟨_, rfl, Nat.le_refl _, hblk, HB.out.1⟩

theorem toLevel_end {l : Lvl} {w w4 W : World} {g2 g3 n2 n3 : Nat} (hl1 : l.walls.length = n2) (hl2 : l.gates.length = n3) (hn1 : n2 ≤ 1048576) (hn2 : n3 ≤ 1048576) (hb : Below w.heap.size w w4)
    (k2 : Blk w4 g2 44 (cellsB l.walls).toArray) (k3 : Blk w4 g3 44 (cellsB l.gates).toArray) (gz2 : w.heap.size + 1 + 1 < g2) (h23 : g2 < g3) (hf : Frm w.heap.size (w.heap.size + 3) w4 W) :
    ∃ a b, Ending.returned (.agg #[.int .i64 l.id, .int .i64 l.ticks, .int .i64 l.sx, .int .i64 l.sy, .slice (some ⟨g2, 0, none⟩) n2 n2, .slice (some ⟨g3, 0, none⟩) n3 n3, .int .i64 l.f.1, .int .i64 l.f.2.1, .int .i64 l.f.2.2.1, .int .i64 l.f.2.2.2, .int .i64 l.bans]) = .returned (lvlV l a b) ∧
      OwL w.heap.size W.heap.size W l a b ∧ (blkOf a ++ blkOf b).Nodup ∧ Below w.heap.size w W := by
  have k2' := k2.frm hf (.inr (by omega))
  have k3' := k3.frm hf (.inr (by omega))
  have hO2 : Ow w.heap.size W 44 4 (some ⟨g2, 0, none⟩) n2 n2 (cellsB l.walls) := Ow.of_blk k2' (by rw [cellsB_len, hl1]) hn1 (by omega)
  have hO3 : Ow w.heap.size W 44 4 (some ⟨g3, 0, none⟩) n3 n3 (cellsB l.gates) := Ow.of_blk k3' (by rw [cellsB_len, hl2]) hn2 (by omega)
  refine ⟨⟨some ⟨g2, 0, none⟩, n2, n2⟩, ⟨some ⟨g3, 0, none⟩, n3, n3⟩, rfl, ⟨OwI.of hO2, OwI.of hO3, hn1, hn2⟩, ?_, hb.trans (hf.below (Nat.le_refl _) hb.size)⟩
  refine nodup_app g3 (blkOf_nodup _) (blkOf_nodup _) (fun b hb => ?_) (fun b hb => ?_)
  · have h := (mem_blkOf.1 hb).2
    simp at h
    omega
  · have h := (mem_blkOf.1 hb).2
    simp at h
    omega

set_option maxRecDepth 100000 in
set_option maxHeartbeats 8000000 in
theorem toLevel_any (l : Lvl) (ws gs : Sl) (w : World) (hr : RdL w l ws gs) :
    Calls Tryz.prog 16 #[lvlV l ws gs] w fun e w' => ∃ a b, e = .returned (lvlV l a b) ∧ OwL w.heap.size w'.heap.size w' l a b ∧ (blkOf a ++ blkOf b).Nodup ∧ Below w.heap.size w w' := by
  obtain ⟨hr1, hr2, ⟨_, hn1⟩, _, hn2⟩ := hr
  have HR1 := Lib.hid hr1
  have HR2 := Lib.hid hr2
  have hl1 := hr1.len
  have hl2 := hr2.len
  have HL1 := Lib.hid hl1
  have HL2 := Lib.hid hl2
  clear hr1 hr2 hl1 hl2
  go_enter Tryz.func16, Tryz.ntmps16
  go_wp2_with fail
  refine (toVec_any _ _ _).mono ?_
  rintro e w1 ⟨rfl, hb1⟩
  have kA1 : Blk w1 (w.heap.size) 32 #[.int .i64 l.id, .int .i64 l.ticks, .int .i64 l.sx, .int .i64 l.sy, .slice ws.a ws.n ws.c, .slice gs.a gs.n gs.c, .int .i64 l.f.1, .int .i64 l.f.2.1, .int .i64 l.f.2.2.1, .int .i64 l.f.2.2.2, .int .i64 l.bans] := ((((Blk.new w 32 #[.int .i64 l.id, .int .i64 l.ticks, .int .i64 l.sx, .int .i64 l.sy, .slice ws.a ws.n ws.c, .slice gs.a gs.n gs.c, .int .i64 l.f.1, .int .i64 l.f.2.1, .int .i64 l.f.2.2.1, .int .i64 l.f.2.2.2, .int .i64 l.bans]).alloc _).alloc _)).next hb1
  have kR1 : Blk w1 (w.heap.size + 1) 46 #[.int .i64 0, .int .i64 0, .int .i64 0, .int .i64 0, .slice none 0 0, .slice none 0 0, .int .i64 0, .int .i64 0, .int .i64 0, .int .i64 0, .int .i64 0] := (((Blk.newAt _ 46 #[.int .i64 0, .int .i64 0, .int .i64 0, .int .i64 0, .slice none 0 0, .slice none 0 0, .int .i64 0, .int .i64 0, .int .i64 0, .int .i64 0, .int .i64 0] (w.heap.size + 1) (by simp)).alloc _)).next hb1
  have kO1 : Blk w1 (w.heap.size + 1 + 1) 46 #[.int .i64 l.id, .int .i64 l.ticks, .int .i64 0, .int .i64 0, .slice none 0 0, .slice none 0 0, .int .i64 0, .int .i64 0, .int .i64 0, .int .i64 0, .int .i64 0] := (Blk.newAt _ 46 #[.int .i64 l.id, .int .i64 l.ticks, .int .i64 0, .int .i64 0, .slice none 0 0, .slice none 0 0, .int .i64 0, .int .i64 0, .int .i64 0, .int .i64 0, .int .i64 0] (w.heap.size + 1 + 1) (by simp)).next hb1
  have HB1 := Lib.hid (ba (ba (ba hb1)))
  have cA1 := fun o => kA1.cell o
  have cO1 := fun o => kO1.cell o
  have fO1 := fun o => kO1.frozen o
  have z1 := kO1.lt
  clear hb1
  go_wp2_with fail
  refine (toBoxS_any _ _ ws.c l.walls _ (HR1.out.below ((HB1.out.setCell (p := ⟨w.heap.size + 1 + 1, 2, none⟩) (by simp; omega) _).setCell (p := ⟨w.heap.size + 1 + 1, 3, none⟩) (by simp; omega) _)) (by omega)).mono ?_
  rintro e w2 ⟨g2, rfl, hg2, hk2, hb2⟩
  have kA2 : Blk w2 (w.heap.size) 32 #[.int .i64 l.id, .int .i64 l.ticks, .int .i64 l.sx, .int .i64 l.sy, .slice ws.a ws.n ws.c, .slice gs.a gs.n gs.c, .int .i64 l.f.1, .int .i64 l.f.2.1, .int .i64 l.f.2.2.1, .int .i64 l.f.2.2.2, .int .i64 l.bans] := ((((kA1).far (p := ⟨w.heap.size + 1 + 1, 2, none⟩) (by simp; try omega) _).far (p := ⟨w.heap.size + 1 + 1, 3, none⟩) (by simp; try omega) _)).next hb2
  have kR2 : Blk w2 (w.heap.size + 1) 46 #[.int .i64 0, .int .i64 0, .int .i64 0, .int .i64 0, .slice none 0 0, .slice none 0 0, .int .i64 0, .int .i64 0, .int .i64 0, .int .i64 0, .int .i64 0] := ((((kR1).far (p := ⟨w.heap.size + 1 + 1, 2, none⟩) (by simp; try omega) _).far (p := ⟨w.heap.size + 1 + 1, 3, none⟩) (by simp; try omega) _)).next hb2
  have kO2 : Blk w2 (w.heap.size + 1 + 1) 46 #[.int .i64 l.id, .int .i64 l.ticks, .int .i64 l.sx, .int .i64 l.sy, .slice none 0 0, .slice none 0 0, .int .i64 0, .int .i64 0, .int .i64 0, .int .i64 0, .int .i64 0] := (((kO1).set_ 2 (.int .i64 l.sx)).set_ 3 (.int .i64 l.sy)).next hb2
  have HB2 := Lib.hid (below_at (((HB1.out.setCell (p := ⟨w.heap.size + 1 + 1, 2, none⟩) (by simp; omega) _).setCell (p := ⟨w.heap.size + 1 + 1, 3, none⟩) (by simp; omega) _)) (by simpa using HB1.out.size) hb2)
  clear cA1 cO1 fO1 kA1 kR1 kO1
  have cA2 := fun o => kA2.cell o
  have cO2 := fun o => kO2.cell o
  have fO2 := fun o => kO2.frozen o
  have z2 := kO2.lt
  have gz2 : w.heap.size + 1 + 1 < g2 := by have h := hg2; simp at h; omega
  have HK2 := Lib.hid hk2
  clear hk2 hg2
  clear hb2
  go_wp2_with fail
  refine (toBoxS_any _ _ gs.c l.gates _ (HR2.out.below (HB2.out.setCell (p := ⟨w.heap.size + 1 + 1, 4, none⟩) (by simp; omega) _)) (by omega)).mono ?_
  rintro e w3 ⟨g3, rfl, hg3, hk3, hb3⟩
  have kA3 : Blk w3 (w.heap.size) 32 #[.int .i64 l.id, .int .i64 l.ticks, .int .i64 l.sx, .int .i64 l.sy, .slice ws.a ws.n ws.c, .slice gs.a gs.n gs.c, .int .i64 l.f.1, .int .i64 l.f.2.1, .int .i64 l.f.2.2.1, .int .i64 l.f.2.2.2, .int .i64 l.bans] := (((kA2).far (p := ⟨w.heap.size + 1 + 1, 4, none⟩) (by simp; try omega) _)).next hb3
  have kR3 : Blk w3 (w.heap.size + 1) 46 #[.int .i64 0, .int .i64 0, .int .i64 0, .int .i64 0, .slice none 0 0, .slice none 0 0, .int .i64 0, .int .i64 0, .int .i64 0, .int .i64 0, .int .i64 0] := (((kR2).far (p := ⟨w.heap.size + 1 + 1, 4, none⟩) (by simp; try omega) _)).next hb3
  have kO3 : Blk w3 (w.heap.size + 1 + 1) 46 #[.int .i64 l.id, .int .i64 l.ticks, .int .i64 l.sx, .int .i64 l.sy, .slice (some ⟨g2, 0, none⟩) ws.n ws.n, .slice none 0 0, .int .i64 0, .int .i64 0, .int .i64 0, .int .i64 0, .int .i64 0] := ((kO2).set_ 4 (.slice (some ⟨g2, 0, none⟩) ws.n ws.n)).next hb3
  have HB3 := Lib.hid (below_at ((HB2.out.setCell (p := ⟨w.heap.size + 1 + 1, 4, none⟩) (by simp; omega) _)) (by simpa using HB2.out.size) hb3)
  clear cA2 cO2 fO2 kA2 kR2 kO2
  have cA3 := fun o => kA3.cell o
  have cO3 := fun o => kO3.cell o
  have fO3 := fun o => kO3.frozen o
  have z3 := kO3.lt
  have h23 : g2 < g3 := by have h := hg3; have h2 := HK2.out.lt; simp at h; omega
  have gz3 : w.heap.size + 1 + 1 < g3 := by omega
  have HK3 := Lib.hid hk3
  clear hk3 hg3
  have HK2 := Lib.hid (((HK2.out.far (p := ⟨w.heap.size + 1 + 1, 4, none⟩) (by simp; omega) _)).next hb3)
  clear hb3
  go_wp2_with fail
  refine (toBox_any l.f _).mono ?_
  rintro e w4 ⟨rfl, hb4⟩
  have kA4 : Blk w4 (w.heap.size) 32 #[.int .i64 l.id, .int .i64 l.ticks, .int .i64 l.sx, .int .i64 l.sy, .slice ws.a ws.n ws.c, .slice gs.a gs.n gs.c, .int .i64 l.f.1, .int .i64 l.f.2.1, .int .i64 l.f.2.2.1, .int .i64 l.f.2.2.2, .int .i64 l.bans] := (((kA3).far (p := ⟨w.heap.size + 1 + 1, 5, none⟩) (by simp; try omega) _)).next hb4
  have kR4 : Blk w4 (w.heap.size + 1) 46 #[.int .i64 0, .int .i64 0, .int .i64 0, .int .i64 0, .slice none 0 0, .slice none 0 0, .int .i64 0, .int .i64 0, .int .i64 0, .int .i64 0, .int .i64 0] := (((kR3).far (p := ⟨w.heap.size + 1 + 1, 5, none⟩) (by simp; try omega) _)).next hb4
  have kO4 : Blk w4 (w.heap.size + 1 + 1) 46 #[.int .i64 l.id, .int .i64 l.ticks, .int .i64 l.sx, .int .i64 l.sy, .slice (some ⟨g2, 0, none⟩) ws.n ws.n, .slice (some ⟨g3, 0, none⟩) gs.n gs.n, .int .i64 0, .int .i64 0, .int .i64 0, .int .i64 0, .int .i64 0] := ((kO3).set_ 5 (.slice (some ⟨g3, 0, none⟩) gs.n gs.n)).next hb4
  have HB4 := Lib.hid (below_at ((HB3.out.setCell (p := ⟨w.heap.size + 1 + 1, 5, none⟩) (by simp; omega) _)) (by simpa using HB3.out.size) hb4)
  clear cA3 cO3 fO3 kA3 kR3 kO3
  have cA4 := fun o => kA4.cell o
  have cO4 := fun o => kO4.cell o
  have fO4 := fun o => kO4.frozen o
  have z4 := kO4.lt
  have HK2 := Lib.hid (((HK2.out.far (p := ⟨w.heap.size + 1 + 1, 5, none⟩) (by simp; omega) _)).next hb4)
  have HK3 := Lib.hid (((HK3.out.far (p := ⟨w.heap.size + 1 + 1, 5, none⟩) (by simp; omega) _)).next hb4)
  clear hb4
  go_upto_region 9 with (fail)
  refine into_world (fun wx => Blk wx (w.heap.size + 1) 46 #[.int .i64 0, .int .i64 0, .int .i64 0, .int .i64 0, .slice none 0 0, .slice none 0 0, .int .i64 0, .int .i64 0, .int .i64 0, .int .i64 0, .int .i64 0] ∧ Blk wx (w.heap.size + 1 + 1) 46 #[.int .i64 l.id, .int .i64 l.ticks, .int .i64 l.sx, .int .i64 l.sy, .slice (some ⟨g2, 0, none⟩) ws.n ws.n, .slice (some ⟨g3, 0, none⟩) gs.n gs.n, .int .i64 l.f.1, .int .i64 l.f.2.1, .int .i64 l.f.2.2.1, .int .i64 l.f.2.2.2, .int .i64 l.bans] ∧ Frm w.heap.size (w.heap.size + 3) w4 wx) ⟨((((((kR4).far (p := ⟨w.heap.size + 1 + 1, 6, none⟩) (by simp; try omega) _).far (p := ⟨w.heap.size + 1 + 1, 7, none⟩) (by simp; try omega) _).far (p := ⟨w.heap.size + 1 + 1, 8, none⟩) (by simp; try omega) _).far (p := ⟨w.heap.size + 1 + 1, 9, none⟩) (by simp; try omega) _).far (p := ⟨w.heap.size + 1 + 1, 10, none⟩) (by simp; try omega) _), (((((kO4).set_ 6 (.int .i64 l.f.1)).set_ 7 (.int .i64 l.f.2.1)).set_ 8 (.int .i64 l.f.2.2.1)).set_ 9 (.int .i64 l.f.2.2.2)).set_ 10 (.int .i64 l.bans), (((((Frm.refl _ _ _).set_ (p := ⟨w.heap.size + 1 + 1, 6, none⟩) (by simp <;> omega) (by simp <;> omega) _).set_ (p := ⟨w.heap.size + 1 + 1, 7, none⟩) (by simp <;> omega) (by simp <;> omega) _).set_ (p := ⟨w.heap.size + 1 + 1, 8, none⟩) (by simp <;> omega) (by simp <;> omega) _).set_ (p := ⟨w.heap.size + 1 + 1, 9, none⟩) (by simp <;> omega) (by simp <;> omega) _).set_ (p := ⟨w.heap.size + 1 + 1, 10, none⟩) (by simp <;> omega) (by simp <;> omega) _⟩ ?_
  rintro wx ⟨kR, kO, HFx⟩
  have cO := fun o => kO.cell o
  have cR := fun o => kR.cell o
  have fR := fun o => kR.frozen o
  have zO := kO.lt
  have zR := kR.lt
  clear kA4 kR4 kO4 cA4 cO4 fO4 kO kR
  go_wp2_with fail
  refine bodyPost_ret (v := .agg #[.int .i64 l.id, .int .i64 l.ticks, .int .i64 l.sx, .int .i64 l.sy, .slice (some ⟨g2, 0, none⟩) ws.n ws.n, .slice (some ⟨g3, 0, none⟩) gs.n gs.n, .int .i64 l.f.1, .int .i64 l.f.2.1, .int .i64 l.f.2.2.1, .int .i64 l.f.2.2.2, .int .i64 l.bans]) (by simp [results, Tryz.results16, go_sem, cR]) rfl ?_
  have hs := HB4.out.size
  have hz := HFx.size
  refine toLevel_end HL1.out HL2.out hn1 hn2 HB4.out HK2.out HK3.out gz2 h23 (HFx.trans ?_)
  iterate 11 (refine Frm.set_ ?_ (by simp <;> omega) (by simp <;> omega) _)
  exact Frm.refl _ _ _
end Go.Proofs.YtepddbfafdfadaaGreat

/-
  laws.toTrackS: what it returns lies in new rows, no row twice.
-/
import Derived.Test.YtepddbfafdfadaaGreatTk
import Derived.Test.YtepddbfafdfadaaGreatSt
namespace Go.Proofs.YtepddbfafdfadaaGreat
open Go.RowKit Go.Sort

/-- toTrackS -/
theorem OwR.frm {lo hi lo' hi' : Nat} {w w' : World} {xs : List Row} (h : OwR lo hi w xs) (hf : Frm lo' hi' w w') (hd : hi ≤ lo' ∨ hi' ≤ lo) : OwR lo hi w' xs := ⟨fun x hx => (h.own x hx).frm hf hd, h.box, h.ent⟩
theorem OwR.step {g m : Nat} {w w1 W : World} {ys : List Row} {y : Row} (h : OwR (g + 1) m w ys) (h' : OwR m w1.heap.size w1 [y]) (hb : Below w.heap.size w w1) (hg : g + 1 ≤ m) (hm : m ≤ w1.heap.size) (hf : Frm g (g + 1) w1 W) : OwR (g + 1) W.heap.size W (ys ++ [y]) :=
  ((((h.next hb).frm hf (.inr (Nat.le_refl _))).app (h'.frm hf (.inr hg)) hg hm)).mono (Nat.le_refl _) hf.size

set_option maxRecDepth 100000 in
set_option maxHeartbeats 8000000 in
theorem toTrackS_any (A : Option Addr) (n c : Nat) (xs : List Row) (w : World) (hr : RdTs w A n xs) (hn : n ≤ 1048576) :
    Calls Tryz.prog 49 #[.slice A n c] w fun e w' => ∃ t ys, e = .returned (.slice t.a t.n t.c) ∧ ys.map (·.2) = xs.map (·.2) ∧ OwTs w.heap.size w'.heap.size w' t ys ∧ Below w.heap.size w w' := by
  have HR := Lib.hid hr
  obtain ⟨i0, hi0, hz0, hz1, hz2⟩ := info_parts infoT
  have hmk := fun W => run_make_rowN (P := Tryz.prog) 35 62 i0 _ Tryz.underlying35 hi0 hz0 .i64 .i64 n n (Nat.le_refl _) (by rw [hz2]; omega) (by omega) W
  rw [hz1] at hmk
  have hl := hr.1.len
  have HL := Lib.hid hl
  clear hi0 hz0 hz1 hz2 hl hr
  go_enter Tryz.func49, Tryz.ntmps49
  go_wp2
  generalize hcs : madeCells _ (n * 12) = cs0
  have hsz : cs0.size = n * 12 := by rw [← hcs, size_madeCells]
  have HSZ := Lib.hid hsz
  clear hcs hsz hmk
  go_loopw [4] (fun i wr => ∃ k : Nat, k ≤ n ∧ i = .int .i64 k ∧ Hid (Below w.heap.size w wr ∧ ∃ cur ys, Blk wr w.heap.size 62 cur ∧ cur.size = n * 12 ∧ ys.map (·.2) = (xs.take k).map (·.2) ∧ cur.toList.take (k * 12) = cellsT ys ∧ OwR (w.heap.size + 1) wr.heap.size wr ys)) (fun i _ => n - (intOf i).toNat)
  case atStart => exact ⟨0, Nat.zero_le _, rfl, (Below.refl _ _).alloc (Nat.le_refl _) _, cs0, [], Blk.new _ _ _, HSZ.out, by simp, by simp [cellsX], OwR.nil _ _ _⟩
  case round =>
    obtain ⟨k, hk, rfl, HB⟩ := hrel
    by_cases hlt : k < n
    · obtain ⟨b, off, x, hA, hb, hx, hrt, e0, e1, e2, e3, e4, e5, e6, e7, e8, e9, e10, e11⟩ := RdTs.cells (HR.out.below HB.out.1) hlt
      subst hA
      obtain ⟨cur, ys, hblk, hcs, hys, hfill, hown⟩ := HB.out.2
      have HBK := Lib.hid hblk
      have HFL := Lib.hid hfill
      have HCS := Lib.hid hcs
      have HX := Lib.hid hx
      have HYS := Lib.hid hys
      have HOW := Lib.hid hown
      have HT := Lib.hid hrt
      clear hx hblk hfill hcs hys hown hrt
      go_wp2_with fail
      refine (toTrack_any x wr HT.out).mono ?_
      rintro e w1 ⟨y, rfl, hy, howy, hb1⟩
      have HB1 := Lib.hid (below_next HB.out.1 hb1)
      have HY := Lib.hid hy
      have HOY := Lib.hid howy
      have HW1 := Lib.hid hb1
      have hbk := HBK.out.next hb1
      have HBK1 := Lib.hid hbk
      have hglt := hbk.lt
      have q0 : k * 12 < cur.size := by rw [HCS.out]; omega
      have q1 : k * 12 + 1 < cur.size := by rw [HCS.out]; omega
      have q2 : k * 12 + 2 < cur.size := by rw [HCS.out]; omega
      have q3 : k * 12 + 3 < cur.size := by rw [HCS.out]; omega
      have q4 : k * 12 + 4 < cur.size := by rw [HCS.out]; omega
      have q5 : k * 12 + 5 < cur.size := by rw [HCS.out]; omega
      have q6 : k * 12 + 6 < cur.size := by rw [HCS.out]; omega
      have q7 : k * 12 + 7 < cur.size := by rw [HCS.out]; omega
      have q8 : k * 12 + 8 < cur.size := by rw [HCS.out]; omega
      have q9 : k * 12 + 9 < cur.size := by rw [HCS.out]; omega
      have q10 : k * 12 + 10 < cur.size := by rw [HCS.out]; omega
      have q11 : k * 12 + 11 < cur.size := by rw [HCS.out]; omega
      obtain ⟨v0, c0⟩ : ∃ v, w1.cell? ⟨w.heap.size, k * 12, none⟩ = some v := ⟨_, (hbk.cell _).trans (Array.getElem?_eq_getElem q0)⟩
      obtain ⟨v1, c1⟩ : ∃ v, w1.cell? ⟨w.heap.size, k * 12 + 1, none⟩ = some v := ⟨_, (hbk.cell _).trans (Array.getElem?_eq_getElem q1)⟩
      obtain ⟨v2, c2⟩ : ∃ v, w1.cell? ⟨w.heap.size, k * 12 + 2, none⟩ = some v := ⟨_, (hbk.cell _).trans (Array.getElem?_eq_getElem q2)⟩
      obtain ⟨v3, c3⟩ : ∃ v, w1.cell? ⟨w.heap.size, k * 12 + 3, none⟩ = some v := ⟨_, (hbk.cell _).trans (Array.getElem?_eq_getElem q3)⟩
      obtain ⟨v4, c4⟩ : ∃ v, w1.cell? ⟨w.heap.size, k * 12 + 4, none⟩ = some v := ⟨_, (hbk.cell _).trans (Array.getElem?_eq_getElem q4)⟩
      obtain ⟨v5, c5⟩ : ∃ v, w1.cell? ⟨w.heap.size, k * 12 + 5, none⟩ = some v := ⟨_, (hbk.cell _).trans (Array.getElem?_eq_getElem q5)⟩
      obtain ⟨v6, c6⟩ : ∃ v, w1.cell? ⟨w.heap.size, k * 12 + 6, none⟩ = some v := ⟨_, (hbk.cell _).trans (Array.getElem?_eq_getElem q6)⟩
      obtain ⟨v7, c7⟩ : ∃ v, w1.cell? ⟨w.heap.size, k * 12 + 7, none⟩ = some v := ⟨_, (hbk.cell _).trans (Array.getElem?_eq_getElem q7)⟩
      obtain ⟨v8, c8⟩ : ∃ v, w1.cell? ⟨w.heap.size, k * 12 + 8, none⟩ = some v := ⟨_, (hbk.cell _).trans (Array.getElem?_eq_getElem q8)⟩
      obtain ⟨v9, c9⟩ : ∃ v, w1.cell? ⟨w.heap.size, k * 12 + 9, none⟩ = some v := ⟨_, (hbk.cell _).trans (Array.getElem?_eq_getElem q9)⟩
      obtain ⟨v10, c10⟩ : ∃ v, w1.cell? ⟨w.heap.size, k * 12 + 10, none⟩ = some v := ⟨_, (hbk.cell _).trans (Array.getElem?_eq_getElem q10)⟩
      obtain ⟨v11, c11⟩ : ∃ v, w1.cell? ⟨w.heap.size, k * 12 + 11, none⟩ = some v := ⟨_, (hbk.cell _).trans (Array.getElem?_eq_getElem q11)⟩
      have hf := fun o => hbk.frozen o
      clear hb1 hbk q0 q1 q2 q3 q4 q5 q6 q7 q8 q9 q10 q11 hy howy
      clear e0 e1 e2 e3 e4 e5 e6 e7 e8 e9 e10 e11
      simp only [encT]
      go_wp2_with fail
      have hsr := setRun_take (encT y) cur (k * 12) (by rw [HCS.out, encT_len]; omega)
      refine ⟨⟨k + 1, by omega, by go_num, below_set12 HB1.out (Nat.le_refl _) (k * 12) _ _ _ _ _ _ _ _ _ _ _ _, setRun cur (k * 12) (encT y), ys ++ [y], HBK1.out.set12 (k * 12) _ _ _ _ _ _ _ _ _ _ _ _, hsr.1.trans HCS.out, ?_, ?_, ?_⟩, by simp [intOf]; omega⟩
      · rw [show xs.take (k + 1) = xs.take k ++ [x] by rw [List.take_add_one, HX.out]; rfl]
        simp [HYS.out, HY.out]
      · have := hsr.2
        rw [HFL.out] at this
        show List.take _ _ = cellsX encT _
        rw [cellsX_append, cellsX_one, show (k + 1) * 12 = k * 12 + (encT y).length by rw [encT_len]; omega]
        exact this
      · refine OwR.step HOW.out HOY.out HW1.out HBK.out.lt HW1.out.size ?_
        exact (Frm.refl _ _ _).set12 (Nat.le_refl _) (Nat.lt_succ_self _) (k * 12) _ _ _ _ _ _ _ _ _ _ _ _
    · go_wp2
      go_ret
      obtain ⟨cur, ys, hblk, hcs, hys, hfill, hown⟩ := HB.out.2
      have hkn : k = n := by omega
      subst hkn
      rw [List.take_of_length_le (by simp [hcs])] at hfill
      rw [List.take_of_length_le (by rw [HL.out]; omega)] at hys
      have : cur = (cellsT ys).toArray := by rw [← hfill]
      rw [this] at hblk
      have hyl : ys.length = k := by have := congrArg List.length hys; simpa [HL.out] using this
      refine ⟨⟨some ⟨w.heap.size, 0, none⟩, k, k⟩, rfl, ys, hys, OwTs.mk_ (OwI.of (Ow.of_blk hblk (by rw [cellsT_len, hyl]) (by omega) (Nat.le_refl _))) (hown.mono (by omega) (Nat.le_refl _)) (by omega), HB.out.1⟩
end Go.Proofs.YtepddbfafdfadaaGreat

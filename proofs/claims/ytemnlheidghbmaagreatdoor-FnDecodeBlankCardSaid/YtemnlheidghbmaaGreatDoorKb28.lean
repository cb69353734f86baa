/-
  Lemmas and contracts: If. No condition.
-/
import Derived.Test.YtemnlheidghbmaaGreatDoorKb26
namespace Go.Proofs.YtemnlheidghbmaaGreatDoor
open Go.RowKit Go.Sort
def endI (s : ByteArray) (q : Rep × Bool) : Rep × Bool := if (q.2 && ((textW q.1).toList == s.toList)) = true then (q.1, true) else (rep0, false)
def decI (s : ByteArray) : Rep × Bool :=
 if (cutW s 10).length = 5 then endI s (readGo (readI (atS (cutW s 10) 0)) (readI (atS (cutW s 10) 1)) (readI (atS (cutW s 10) 2)) (readI (atS (cutW s 10) 3))) else (rep0, false)
theorem readGo_len : ∀ (ws : List ByteArray) (acc : List Int), (readGo' ws acc).1.length ≤ acc.length + ws.length
 | [], acc => Nat.le_refl _
 |b :: r, acc => by
  rw [readGo']
  split
  ·rename_i v _
   have := readGo_len r (acc ++ [v])
   refine Nat.le_trans this ?_
   simp
   omega
  ·exact Nat.zero_le _
theorem readI_len (s : ByteArray) : (readI s).1.length ≤ s.size := by
 have h1 := readGo_len ((cutW s 32).drop 1) []
 have h2 := (cutW_len s 32).1
 unfold readI
 rw [List.length_drop] at h1
 simp only [List.length_nil] at h1
 omega
def sel4 (s0 s1 s2 s3 : Sl) (j : Nat) : Sl := match j with | 0 => s0 | 1 => s1 | 2 => s2 | _ => s3
abbrev nilS : Sl := ⟨none, 0, 0⟩
abbrev slV (s : Sl) : Value := .slice s.a s.n s.c
set_option maxRecDepth 100000 in
set_option maxHeartbeats 4000000 in
theorem implReplayDecode_any (s : ByteArray) (w : World) (hg : Gds w) (hn : s.size ≤ 1048576) :
  Calls Tryz.prog 31 #[.string s] w (RepPost w.heap.size (decI s) w) := by
 have HG := Lib.hid hg
 clear hg
 go_enter Tryz.func31, Tryz.ntmps31
 go_wp2_with fail
 refine (split_nl s _ (HG.out.next ((Below.refl _ _).alloc (Nat.le_refl _) _)) (by omega)).mono ?_
 rintro e w1 ⟨rfl, hbk, hb⟩
 have KR := Lib.hid ((Blk.new w 33 (repC rep0 ⟨none, 0, 0⟩ ⟨none, 0, 0⟩)).next hb)
 have HB := Lib.hid (ba hb)
 obtain ⟨L, hL⟩ : ∃ L, (cutW s 10).length = L := ⟨_, rfl⟩
 rw [hL]
 have HL := Lib.hid hL
 have HBK := Lib.hid hbk
 have HSZ := Lib.hid (cutW_size s 10)
 clear hbk hb hL
 by_cases h5 : L = 5
 rotate_left
 ·have h5' : ((L : Int) == 5) = false := by simp; omega
  have h5n : ¬ (L : Int) = 5 := by omega
  have HF := Lib.hid (show decI s = (rep0, false) by unfold decI; rw [if_neg (by rw [HL.out]; exact h5)])
  have cr := fun o => KR.out.cell o
  have fr := fun o => KR.out.frozen o
  have zr := KR.out.lt
  go_wp2_with fail
  refine bodyPost_ret (v := .tuple #[repV rep0 ⟨none, 0, 0⟩ ⟨none, 0, 0⟩, .bool false]) (by simp [results, Tryz.results31, go_sem, cr, rep0]) rfl ?_
  unfold RepPost
  rw [HF.out]
  exact ⟨_, _, rfl, rdR_zero _, by have hb := HB.out; go_grown⟩
 subst h5
 have HD := Lib.hid (show decI s = endI s (readGo (readI (atS (cutW s 10) 0)) (readI (atS (cutW s 10) 1)) (readI (atS (cutW s 10) 2)) (readI (atS (cutW s 10) 3))) by unfold decI; rw [if_pos HL.out])
 have HQ := Lib.hid (show ∀ j, j < 4 → (cutW s 10)[j]? = some (atS (cutW s 10) j) ∧ (atS (cutW s 10) j).size ≤ 1048576 by
  intro j hj
  have h := List.getElem?_eq_getElem (l := cutW s 10) (i := j) (by rw [HL.out]; omega)
  have h2 : atS (cutW s 10) j = (cutW s 10)[j]'(by rw [HL.out]; omega) := by unfold atS; rw [h]; rfl
  rw [h2]
  exact ⟨h, Nat.le_trans (HSZ.out _ (List.getElem_mem _)) hn⟩)
 generalize cutW s 10 = ls at *
 have hlt0 : w.heap.size < w1.heap.size := KR.out.lt
 have hne0 : ¬ w.heap.size = w1.heap.size := by omega
 go_wp2_with fail
 go_loopw [22] (fun i wr => ∃ (k : Nat) (s0 s1 s2 s3 : Sl), i = .int .i64 k ∧ k ≤ 4 ∧ Hid (Below w.heap.size w wr ∧ w1.heap.size < wr.heap.size ∧ Blk wr w.heap.size 33 (repC rep0 ⟨none, 0, 0⟩ ⟨none, 0, 0⟩) ∧ Blk wr (w.heap.size + 1) 9 (cellsX encTx ls).toArray ∧ Blk wr w1.heap.size 104 #[slV s0, slV s1, slV s2, slV s3] ∧ ∀ j, j < k → (readI (atS ls j)).2 = true ∧ (sel4 s0 s1 s2 s3 j).n = (readI (atS ls j)).1.length ∧ Ow w1.heap.size wr 3 1 (sel4 s0 s1 s2 s3 j).a (sel4 s0 s1 s2 s3 j).n (sel4 s0 s1 s2 s3 j).c (cellsI (readI (atS ls j)).1))) (fun i _ => 4 - (intOf i).toNat)
 case atStart => exact ⟨0, nilS, nilS, nilS, nilS, rfl, Nat.zero_le _, HB.out.alloc HB.out.size _, by simp, KR.out.alloc _, by have h := HBK.out; simp at h; exact h.alloc _, Blk.new _ _ _, fun j hj => absurd hj (Nat.not_lt_zero _)⟩
 case round =>
  obtain ⟨k, s0, s1, s2, s3, rfl, hk, HX⟩ := hrel
  obtain ⟨hB, hsz, hK, hLn, hN, hrows⟩ := HX.out
  rcases (by omega : k = 0 ∨ k = 1 ∨ k = 2 ∨ k = 3 ∨ k = 4) with rfl | rfl | rfl | rfl | rfl
  ·obtain ⟨hlk, hls⟩ := HQ.out 0 (by omega)
   have hc := txt_cell hLn hlk
   have HKR := Lib.hid hK
   have HBB := Lib.hid hB
   have HLN := Lib.hid hLn
   have HNN := Lib.hid hN
   have HRW := Lib.hid hrows
   clear hB hK hLn hN hrows HX hlk
   go_wp2_with fail
   refine (readNumbers_any (atS ls 0) _ (HG.out.next HBB.out) (by omega)).mono ?_
   rintro e w2 ⟨A, c, rfl, hO, hb⟩
   replace HKR := Lib.hid (HKR.out.next hb)
   replace HBB := Lib.hid (below_next HBB.out hb)
   replace HLN := Lib.hid (HLN.out.next hb)
   replace HNN := Lib.hid (HNN.out.next hb)
   replace HRW := Lib.hid (fun j hj => (⟨(HRW.out j hj).1, (HRW.out j hj).2.1, (HRW.out j hj).2.2.next hb⟩ : _ ∧ _ ∧ _))
   have HO := Lib.hid (hO.mono (Nat.le_of_lt hsz))
   have hsz2 : w1.heap.size < w2.heap.size := Nat.lt_of_lt_of_le hsz hb.size
   clear hO hb hc
   have HQK := Lib.hid (show readI (atS ls 0) = readI (atS ls 0) from rfl)
   generalize hqk : readI (atS ls 0) = qk at HO ⊢
   have HQE := Lib.hid hqk
   obtain ⟨zs, okb⟩ := qk
   clear hqk
   cases okb
   ·have KR := HKR
    have HB := HBB
    have cr := fun o => KR.out.cell o
    have fr := fun o => KR.out.frozen o
    have zr := KR.out.lt
    have cn := fun o => HNN.out.cell o
    have fn := fun o => HNN.out.frozen o
    have zn := HNN.out.lt
    have HF := Lib.hid (show decI s = (rep0, false) by rw [HD.out]; have h := HQE.out; simp [endI, readGo, h])
    go_wp2_with fail
    refine bodyPost_ret (v := .tuple #[repV rep0 ⟨none, 0, 0⟩ ⟨none, 0, 0⟩, .bool false]) (by simp [results, Tryz.results31, go_sem, cr, rep0]) rfl ?_
    unfold RepPost
    rw [HF.out]
    exact ⟨_, _, rfl, rdR_zero _, by have hb := HB.out; go_grown⟩
   ·have cn := fun o => HNN.out.cell o
    have fn := fun o => HNN.out.frozen o
    have zn := HNN.out.lt
    go_wp2_with fail
    have hon : Only w1.heap.size w2 (w2.setCell ⟨w1.heap.size, 0, none⟩ (.slice A zs.length c)) := (Only.refl _ _).set_ (p := ⟨w1.heap.size, 0, none⟩) (.inl rfl) _
    refine ⟨⟨0 + 1, ⟨A, zs.length, c⟩, s1, s2, s3, by go_num, by omega, HBB.out.trans (hon.below (by have := HB.out.size; omega) HBB.out.size), by have := hon.size; omega, HKR.out.only hon (by have := KR.out.lt; omega), HLN.out.only hon (by have := HBK.out.lt; simp at this; omega), HNN.out.set_ 0 _, ?_⟩, by simp [intOf]⟩
    intro j hj
    rcases (by omega : j = 0) with rfl
    exact ⟨by rw [HQE.out], by rw [HQE.out]; rfl, by rw [HQE.out]; exact HO.out.onlyT HNN.out (by decide) hon⟩
  ·obtain ⟨hlk, hls⟩ := HQ.out 1 (by omega)
   have hc := txt_cell hLn hlk
   have HKR := Lib.hid hK
   have HBB := Lib.hid hB
   have HLN := Lib.hid hLn
   have HNN := Lib.hid hN
   have HRW := Lib.hid hrows
   clear hB hK hLn hN hrows HX hlk
   go_wp2_with fail
   refine (readNumbers_any (atS ls 1) _ (HG.out.next HBB.out) (by omega)).mono ?_
   rintro e w2 ⟨A, c, rfl, hO, hb⟩
   replace HKR := Lib.hid (HKR.out.next hb)
   replace HBB := Lib.hid (below_next HBB.out hb)
   replace HLN := Lib.hid (HLN.out.next hb)
   replace HNN := Lib.hid (HNN.out.next hb)
   replace HRW := Lib.hid (fun j hj => (⟨(HRW.out j hj).1, (HRW.out j hj).2.1, (HRW.out j hj).2.2.next hb⟩ : _ ∧ _ ∧ _))
   have HO := Lib.hid (hO.mono (Nat.le_of_lt hsz))
   have hsz2 : w1.heap.size < w2.heap.size := Nat.lt_of_lt_of_le hsz hb.size
   clear hO hb hc
   have HQK := Lib.hid (show readI (atS ls 1) = readI (atS ls 1) from rfl)
   generalize hqk : readI (atS ls 1) = qk at HO ⊢
   have HQE := Lib.hid hqk
   obtain ⟨zs, okb⟩ := qk
   clear hqk
   cases okb
   ·have KR := HKR
    have HB := HBB
    have cr := fun o => KR.out.cell o
    have fr := fun o => KR.out.frozen o
    have zr := KR.out.lt
    have cn := fun o => HNN.out.cell o
    have fn := fun o => HNN.out.frozen o
    have zn := HNN.out.lt
    have HF := Lib.hid (show decI s = (rep0, false) by rw [HD.out]; have h := HQE.out; simp [endI, readGo, h])
    go_wp2_with fail
    refine bodyPost_ret (v := .tuple #[repV rep0 ⟨none, 0, 0⟩ ⟨none, 0, 0⟩, .bool false]) (by simp [results, Tryz.results31, go_sem, cr, rep0]) rfl ?_
    unfold RepPost
    rw [HF.out]
    exact ⟨_, _, rfl, rdR_zero _, by have hb := HB.out; go_grown⟩
   ·have cn := fun o => HNN.out.cell o
    have fn := fun o => HNN.out.frozen o
    have zn := HNN.out.lt
    go_wp2_with fail
    have hon : Only w1.heap.size w2 (w2.setCell ⟨w1.heap.size, 1, none⟩ (.slice A zs.length c)) := (Only.refl _ _).set_ (p := ⟨w1.heap.size, 1, none⟩) (.inl rfl) _
    refine ⟨⟨1 + 1, s0, ⟨A, zs.length, c⟩, s2, s3, by go_num, by omega, HBB.out.trans (hon.below (by have := HB.out.size; omega) HBB.out.size), by have := hon.size; omega, HKR.out.only hon (by have := KR.out.lt; omega), HLN.out.only hon (by have := HBK.out.lt; simp at this; omega), HNN.out.set_ 1 _, ?_⟩, by simp [intOf]⟩
    intro j hj
    rcases (by omega : j = 0 ∨ j = 1) with rfl | rfl
    all_goals first | exact ⟨(HRW.out 0 (by omega)).1, (HRW.out 0 (by omega)).2.1, (HRW.out 0 (by omega)).2.2.onlyT HNN.out (by decide) hon⟩ | exact ⟨by rw [HQE.out], by rw [HQE.out]; rfl, by rw [HQE.out]; exact HO.out.onlyT HNN.out (by decide) hon⟩
  ·obtain ⟨hlk, hls⟩ := HQ.out 2 (by omega)
   have hc := txt_cell hLn hlk
   have HKR := Lib.hid hK
   have HBB := Lib.hid hB
   have HLN := Lib.hid hLn
   have HNN := Lib.hid hN
   have HRW := Lib.hid hrows
   clear hB hK hLn hN hrows HX hlk
   go_wp2_with fail
   refine (readNumbers_any (atS ls 2) _ (HG.out.next HBB.out) (by omega)).mono ?_
   rintro e w2 ⟨A, c, rfl, hO, hb⟩
   replace HKR := Lib.hid (HKR.out.next hb)
   replace HBB := Lib.hid (below_next HBB.out hb)
   replace HLN := Lib.hid (HLN.out.next hb)
   replace HNN := Lib.hid (HNN.out.next hb)
   replace HRW := Lib.hid (fun j hj => (⟨(HRW.out j hj).1, (HRW.out j hj).2.1, (HRW.out j hj).2.2.next hb⟩ : _ ∧ _ ∧ _))
   have HO := Lib.hid (hO.mono (Nat.le_of_lt hsz))
   have hsz2 : w1.heap.size < w2.heap.size := Nat.lt_of_lt_of_le hsz hb.size
   clear hO hb hc
   have HQK := Lib.hid (show readI (atS ls 2) = readI (atS ls 2) from rfl)
   generalize hqk : readI (atS ls 2) = qk at HO ⊢
   have HQE := Lib.hid hqk
   obtain ⟨zs, okb⟩ := qk
   clear hqk
   cases okb
   ·have KR := HKR
    have HB := HBB
    have cr := fun o => KR.out.cell o
    have fr := fun o => KR.out.frozen o
    have zr := KR.out.lt
    have cn := fun o => HNN.out.cell o
    have fn := fun o => HNN.out.frozen o
    have zn := HNN.out.lt
    have HF := Lib.hid (show decI s = (rep0, false) by rw [HD.out]; have h := HQE.out; simp [endI, readGo, h])
    go_wp2_with fail
    refine bodyPost_ret (v := .tuple #[repV rep0 ⟨none, 0, 0⟩ ⟨none, 0, 0⟩, .bool false]) (by simp [results, Tryz.results31, go_sem, cr, rep0]) rfl ?_
    unfold RepPost
    rw [HF.out]
    exact ⟨_, _, rfl, rdR_zero _, by have hb := HB.out; go_grown⟩
   ·have cn := fun o => HNN.out.cell o
    have fn := fun o => HNN.out.frozen o
    have zn := HNN.out.lt
    go_wp2_with fail
    have hon : Only w1.heap.size w2 (w2.setCell ⟨w1.heap.size, 2, none⟩ (.slice A zs.length c)) := (Only.refl _ _).set_ (p := ⟨w1.heap.size, 2, none⟩) (.inl rfl) _
    refine ⟨⟨2 + 1, s0, s1, ⟨A, zs.length, c⟩, s3, by go_num, by omega, HBB.out.trans (hon.below (by have := HB.out.size; omega) HBB.out.size), by have := hon.size; omega, HKR.out.only hon (by have := KR.out.lt; omega), HLN.out.only hon (by have := HBK.out.lt; simp at this; omega), HNN.out.set_ 2 _, ?_⟩, by simp [intOf]⟩
    intro j hj
    rcases (by omega : j = 0 ∨ j = 1 ∨ j = 2) with rfl | rfl | rfl
    all_goals first | exact ⟨(HRW.out 0 (by omega)).1, (HRW.out 0 (by omega)).2.1, (HRW.out 0 (by omega)).2.2.onlyT HNN.out (by decide) hon⟩ | exact ⟨(HRW.out 1 (by omega)).1, (HRW.out 1 (by omega)).2.1, (HRW.out 1 (by omega)).2.2.onlyT HNN.out (by decide) hon⟩ | exact ⟨by rw [HQE.out], by rw [HQE.out]; rfl, by rw [HQE.out]; exact HO.out.onlyT HNN.out (by decide) hon⟩
  ·obtain ⟨hlk, hls⟩ := HQ.out 3 (by omega)
   have hc := txt_cell hLn hlk
   have HKR := Lib.hid hK
   have HBB := Lib.hid hB
   have HLN := Lib.hid hLn
   have HNN := Lib.hid hN
   have HRW := Lib.hid hrows
   clear hB hK hLn hN hrows HX hlk
   go_wp2_with fail
   refine (readNumbers_any (atS ls 3) _ (HG.out.next HBB.out) (by omega)).mono ?_
   rintro e w2 ⟨A, c, rfl, hO, hb⟩
   replace HKR := Lib.hid (HKR.out.next hb)
   replace HBB := Lib.hid (below_next HBB.out hb)
   replace HLN := Lib.hid (HLN.out.next hb)
   replace HNN := Lib.hid (HNN.out.next hb)
   replace HRW := Lib.hid (fun j hj => (⟨(HRW.out j hj).1, (HRW.out j hj).2.1, (HRW.out j hj).2.2.next hb⟩ : _ ∧ _ ∧ _))
   have HO := Lib.hid (hO.mono (Nat.le_of_lt hsz))
   have hsz2 : w1.heap.size < w2.heap.size := Nat.lt_of_lt_of_le hsz hb.size
   clear hO hb hc
   have HQK := Lib.hid (show readI (atS ls 3) = readI (atS ls 3) from rfl)
   generalize hqk : readI (atS ls 3) = qk at HO ⊢
   have HQE := Lib.hid hqk
   obtain ⟨zs, okb⟩ := qk
   clear hqk
   cases okb
   ·have KR := HKR
    have HB := HBB
    have cr := fun o => KR.out.cell o
    have fr := fun o => KR.out.frozen o
    have zr := KR.out.lt
    have cn := fun o => HNN.out.cell o
    have fn := fun o => HNN.out.frozen o
    have zn := HNN.out.lt
    have HF := Lib.hid (show decI s = (rep0, false) by rw [HD.out]; have h := HQE.out; simp [endI, readGo, h])
    go_wp2_with fail
    refine bodyPost_ret (v := .tuple #[repV rep0 ⟨none, 0, 0⟩ ⟨none, 0, 0⟩, .bool false]) (by simp [results, Tryz.results31, go_sem, cr, rep0]) rfl ?_
    unfold RepPost
    rw [HF.out]
    exact ⟨_, _, rfl, rdR_zero _, by have hb := HB.out; go_grown⟩
   ·have cn := fun o => HNN.out.cell o
    have fn := fun o => HNN.out.frozen o
    have zn := HNN.out.lt
    go_wp2_with fail
    have hon : Only w1.heap.size w2 (w2.setCell ⟨w1.heap.size, 3, none⟩ (.slice A zs.length c)) := (Only.refl _ _).set_ (p := ⟨w1.heap.size, 3, none⟩) (.inl rfl) _
    refine ⟨⟨3 + 1, s0, s1, s2, ⟨A, zs.length, c⟩, by go_num, by omega, HBB.out.trans (hon.below (by have := HB.out.size; omega) HBB.out.size), by have := hon.size; omega, HKR.out.only hon (by have := KR.out.lt; omega), HLN.out.only hon (by have := HBK.out.lt; simp at this; omega), HNN.out.set_ 3 _, ?_⟩, by simp [intOf]⟩
    intro j hj
    rcases (by omega : j = 0 ∨ j = 1 ∨ j = 2 ∨ j = 3) with rfl | rfl | rfl | rfl
    all_goals first | exact ⟨(HRW.out 0 (by omega)).1, (HRW.out 0 (by omega)).2.1, (HRW.out 0 (by omega)).2.2.onlyT HNN.out (by decide) hon⟩ | exact ⟨(HRW.out 1 (by omega)).1, (HRW.out 1 (by omega)).2.1, (HRW.out 1 (by omega)).2.2.onlyT HNN.out (by decide) hon⟩ | exact ⟨(HRW.out 2 (by omega)).1, (HRW.out 2 (by omega)).2.1, (HRW.out 2 (by omega)).2.2.onlyT HNN.out (by decide) hon⟩ | exact ⟨by rw [HQE.out], by rw [HQE.out]; rfl, by rw [HQE.out]; exact HO.out.onlyT HNN.out (by decide) hon⟩
  ·have h0 := hrows 0 (by omega)
   have h1 := hrows 1 (by omega)
   have h2 := hrows 2 (by omega)
   have h3 := hrows 3 (by omega)
   simp only [sel4] at h0 h1 h2 h3
   obtain ⟨t0, n0, o0⟩ := h0
   obtain ⟨t1, n1, o1⟩ := h1
   obtain ⟨t2, n2, o2⟩ := h2
   obtain ⟨t3, n3, o3⟩ := h3
   have l0 := readI_len (atS ls 0)
   have l1 := readI_len (atS ls 1)
   have l2 := readI_len (atS ls 2)
   have l3 := readI_len (atS ls 3)
   have b0 := (HQ.out 0 (by omega)).2
   have b1 := (HQ.out 1 (by omega)).2
   have b2 := (HQ.out 2 (by omega)).2
   have b3 := (HQ.out 3 (by omega)).2
   have HD2 := Lib.hid (show decI s = endI s (readGo (readI (atS ls 0)) (readI (atS ls 1)) (readI (atS ls 2)) (readI (atS ls 3))) from HD.out)
   generalize readI (atS ls 0) = q0 at *
   generalize readI (atS ls 1) = q1 at *
   generalize readI (atS ls 2) = q2 at *
   generalize readI (atS ls 3) = q3 at *
   obtain ⟨z0, y0⟩ := q0
   obtain ⟨z1, y1⟩ := q1
   obtain ⟨z2, y2⟩ := q2
   obtain ⟨z3, y3⟩ := q3
   simp only at t0 t1 t2 t3 n0 n1 n2 n3 o0 o1 o2 o3 l0 l1 l2 l3
   subst t0 t1 t2 t3
   obtain ⟨A0, m0, c0⟩ := s0
   obtain ⟨A1, m1, c1⟩ := s1
   obtain ⟨A2, m2, c2⟩ := s2
   obtain ⟨A3, m3, c3⟩ := s3
   simp only at n0 n1 n2 n3 o0 o1 o2 o3
   have HN0 := Lib.hid n0
   have HN1 := Lib.hid n1
   have HN2 := Lib.hid n2
   have HN3 := Lib.hid n3
   have hm0 : m0 ≤ 1048576 := by omega
   have hm1 : m1 ≤ 1048576 := by omega
   have hm2 : m2 ≤ 1048576 := by omega
   have hm3 : m3 ≤ 1048576 := by omega
   have HO0 := Lib.hid o0
   have HO1 := Lib.hid o1
   have HO2 := Lib.hid o2
   have HO3 := Lib.hid o3
   replace KR := Lib.hid hK
   replace HB := Lib.hid hB
   have KN := Lib.hid (show Blk wr w1.heap.size 104 #[.slice A0 m0 c0, .slice A1 m1 c1, .slice A2 m2 c2, .slice A3 m3 c3] from hN)
   clear hrows hB hK hLn hN HX n0 n1 n2 n3 o0 o1 o2 o3 l0 l1 l2 l3 b0 b1 b2 b3 HQ HD HL HBK HSZ
   have r0 := fun d os => cell_regrown (KN.out.cell 0) d os
   have r1 := fun d os => cell_regrown (KN.out.cell 1) d os
   have r3 := fun d os => cell_regrown (KN.out.cell 3) d os
   go_upto_region 13 with (fail)
   refine wp_region_qb (by kernel_rfl) (by kernel_rfl) ?_
   repeat (go_big_quiet_step ((fail)))
   refine wpQuiet_nil ?_
   intro w4 hb
   replace KR := Lib.hid (KR.out.next hb)
   replace KN := Lib.hid (KN.out.next hb)
   replace HO0 := Lib.hid (Ow.next HO0.out hb)
   replace HO1 := Lib.hid (Ow.next HO1.out hb)
   replace HO2 := Lib.hid (Ow.next HO2.out hb)
   replace HO3 := Lib.hid (Ow.next HO3.out hb)
   replace HB := Lib.hid (below_next HB.out hb)
   have hs4 : w1.heap.size < w4.heap.size := Nat.lt_of_lt_of_le hsz hb.size
   clear hb r0 r1 r3
   by_cases h3 : m0 = 3
   rotate_left
   ·have h3' : ((m0 : Int) == 3) = false := by simp; omega
    have h3n : ¬ (m0 : Int) = 3 := by omega
    have HF := Lib.hid (show decI s = (rep0, false) by rw [HD2.out]; simp [endI, readGo, ← HN0.out, h3])
    have cr := fun o => KR.out.cell o
    have fr := fun o => KR.out.frozen o
    have zr := KR.out.lt
    go_wp2_with fail
    refine bodyPost_ret (v := .tuple #[repV rep0 ⟨none, 0, 0⟩ ⟨none, 0, 0⟩, .bool false]) (by simp [results, Tryz.results31, go_sem, cr, rep0]) rfl ?_
    unfold RepPost
    rw [HF.out]
    exact ⟨_, _, rfl, rdR_zero _, by have hb := HB.out; go_grown⟩
   have h3' : ((m0 : Int) == 3) = true := by simp; omega
   have h3n : (m0 : Int) = 3 := by omega
   by_cases h2 : m1 % 2 = 0
   rotate_left
   ·have h2' : (m1 : Int) % 2 = 1 := by omega
    have h2n : (m1 : Int).tmod 2 = 1 := by rw [Int.tmod_eq_emod_of_nonneg (by omega)]; exact h2'
    have HF := Lib.hid (show decI s = (rep0, false) by rw [HD2.out]; simp [endI, readGo, ← HN1.out, h2])
    have cr := fun o => KR.out.cell o
    have fr := fun o => KR.out.frozen o
    have zr := KR.out.lt
    go_wp2_with fail
    refine bodyPost_ret (v := .tuple #[repV rep0 ⟨none, 0, 0⟩ ⟨none, 0, 0⟩, .bool false]) (by simp [results, Tryz.results31, go_sem, cr, rep0]) rfl ?_
    unfold RepPost
    rw [HF.out]
    exact ⟨_, _, rfl, rdR_zero _, by have hb := HB.out; go_grown⟩
   have h2' : (m1 : Int) % 2 = 0 := by omega
   have h2n : (m1 : Int).tmod 2 = 0 := by rw [Int.tmod_eq_emod_of_nonneg (by omega)]; exact h2'
   by_cases h4 : m3 = 1
   rotate_left
   ·have h4' : ((m3 : Int) == 1) = false := by simp; omega
    have h4n : ¬ (m3 : Int) = 1 := by omega
    have HF := Lib.hid (show decI s = (rep0, false) by rw [HD2.out]; simp [endI, readGo, ← HN3.out, h4])
    have cr := fun o => KR.out.cell o
    have fr := fun o => KR.out.frozen o
    have zr := KR.out.lt
    go_wp2_with fail
    refine bodyPost_ret (v := .tuple #[repV rep0 ⟨none, 0, 0⟩ ⟨none, 0, 0⟩, .bool false]) (by simp [results, Tryz.results31, go_sem, cr, rep0]) rfl ?_
    unfold RepPost
    rw [HF.out]
    exact ⟨_, _, rfl, rdR_zero _, by have hb := HB.out; go_grown⟩
   have h4' : ((m3 : Int) == 1) = true := by simp; omega
   have h4n : (m3 : Int) = 1 := by omega
   have HF := Lib.hid (show decI s = endI s (readR z0 z1 z2 z3) by rw [HD2.out]; simp [readGo, ← HN0.out, ← HN1.out, ← HN3.out, h3, h2, h4])
   obtain ⟨m, hm⟩ : ∃ m, m1 = 2 * m := ⟨m1 / 2, by omega⟩
   have HM := Lib.hid hm
   have H3 := Lib.hid h3
   have H4 := Lib.hid h4
   clear h3 h4 h2 hm
   obtain ⟨i0, hi0, hy0, hy1, hy2⟩ := info_parts infoP
   have HI := Lib.hid hi0
   have HZ := Lib.hid hy0
   have HS := Lib.hid hy1
   have HBY := Lib.hid hy2
   clear hi0 hy0 hy1 hy2
   have HI2 := Lib.hid HO1.out.rdI
   go_wp2_with fail
   go_loopw [11, 12] (fun out i wr => ∃ (k K2 : Nat) (A' : Option Addr) (c' : Nat), K2 ≤ m1 ∧ k ≤ 1048576 ∧ i = .int .i64 K2 ∧ out = .slice A' k c' ∧ Hid (K2 = 2 * k ∧ Below w4.heap.size w4 wr ∧ Ow w4.heap.size wr 100 2 A' k c' (cellsE (pairsK z1 k)))) (fun _ i _ => m1 - (intOf i).toNat)
   case atStart => exact ⟨0, 0, none, 0, Nat.zero_le _, Nat.zero_le _, rfl, rfl, rfl, Below.refl _ _, Ow.bare _ _ _ _ _⟩
   case round =>
    obtain ⟨k, K2, A', c', hk, hk20, rfl, rfl, HQ⟩ := hrel
    obtain ⟨HK2, HB2, HOW⟩ := HQ.out
    replace HK2 := Lib.hid HK2
    replace HB2 := Lib.hid HB2
    replace HOW := Lib.hid HOW
    clear HQ
    have hw5 := HB2.out.size
    by_cases hlt : K2 < m1
    ·have hlt1 : K2 + 1 < m1 := by have h1 := HM.out; have h2 := HK2.out; omega
     have hlti : (K2 : Int) + 1 < m1 := by omega
     obtain ⟨g, og, za, hAg, hgl, hza, hca⟩ := (HI2.out.below HB2.out).at_ hlt
     obtain ⟨g', og', zb, hAg', hgl', hzb, hcb⟩ := (HI2.out.below HB2.out).at_ hlt1
     obtain ⟨rfl, rfl⟩ : g = g' ∧ og = og' := by rw [hAg] at hAg'; simpa using hAg'
     subst hAg
     have HPS := Lib.hid (show pairsK z1 (k + 1) = pairsK z1 k ++ [(za, zb)] by rw [pairsK_succ, ← HK2.out, hza, hzb]; rfl)
     have hca' : wr.cell? ⟨g, og + K2, none⟩ = some (.int .i64 za) := hca
     have hcb' : wr.cell? ⟨g, og + (K2 + 1), none⟩ = some (.int .i64 zb) := hcb
     clear hza hzb hAg' hca hcb
     have hw1 : IntKind.i64.wrap ((K2 : Int) + 1) = (K2 : Int) + 1 := IntWalk.i64_in _ (by omega)
     have hw2 : ((K2 : Int) + 1).toNat = K2 + 1 := by omega
     have hw3 : (0 : Int) ≤ (K2 : Int) + 1 := by omega
     have hw6 : ¬ (K2 : Int) + 1 < 0 := by omega
     go_upto_region 20 with (fail)
     refine wp_region_grow 12 (by kernel_rfl) (by kernel_rfl) (by kernel_rfl) (fun a b => Below a.heap.size a b) (fun mq w' => Below wr.heap.size wr w') (fun iq v w' => match iq with | 0 => (v = .slice A' k c') | 1 => (v = .slice (some ⟨g, og, none⟩) m1 c1) | 2 => (v = .int .i64 (K2 : Int)) | 3 => (v = .pointer (some ⟨g, og + K2, none⟩)) | 4 => (v = .int .i64 za) | 5 => (v = .slice (some ⟨g, og, none⟩) m1 c1) | 6 => (v = .int .i64 (K2 : Int)) | 7 => (v = .int .i64 ((K2 : Int) + 1)) | 8 => (v = .pointer (some ⟨g, og + (K2 + 1), none⟩)) | 9 => (v = .int .i64 zb) | 10 => (v = .agg #[.int .i64 za, .int .i64 zb]) | 11 => (∃ g2, v = .slice (some ⟨g2, 0, none⟩) 1 1 ∧ Blk w' g2 100 #[.int .i64 za, .int .i64 zb]) | _ => True) (fun sq => { tmps := #[Value.string s, undef, Value.pointer (some (⟨w.heap.size, 0, none⟩ : Addr)), u3, Value.slice (some (⟨w.heap.size + 1, 0, none⟩ : Addr)) 5 5, Value.pointer (some (⟨w1.heap.size, 0, none⟩ : Addr)), u6, u7, Value.slice A0 m0 c0, Value.slice (some (⟨g, og, none⟩ : Addr)) m1 c1, Value.slice A3 m3 c3, Value.slice A' k c', Value.int .i64 (K2 : Int), undef, undef, undef, Value.string s, Value.slice (some (⟨w.heap.size + 1, 0, none⟩ : Addr)) 5 5, Value.slice (some (⟨w.heap.size + 1, 0, none⟩ : Addr)) 5 5, Value.int .i64 5, Value.bool false, undef, Value.int .i64 (4 : Int), Value.bool false, u24, u25, u26, u27, u28, u29, u30, u31, u32, u33, u34, u35, u36, u37, u38, Value.pointer (some (⟨w1.heap.size, 0, none⟩ : Addr)), Value.slice A0 m0 c0, Value.pointer (some (⟨w1.heap.size, 1, none⟩ : Addr)), Value.slice (some (⟨g, og, none⟩ : Addr)) m1 c1, Value.pointer (some (⟨w1.heap.size, 3, none⟩ : Addr)), Value.slice A3 m3 c3, Value.slice A0 m0 c0, Value.int .i64 3, Value.bool false, Value.bool false, Value.slice (some (⟨g, og, none⟩ : Addr)) m1 c1, Value.int .i64 (m1 : Int), Value.int .i64 0, Value.bool false, Value.bool false, Value.bool false, Value.slice A3 m3 c3, Value.int .i64 1, Value.bool false, Value.bool false, undef, Value.int .i64 (K2 : Int), Value.slice (some (⟨g, og, none⟩ : Addr)) m1 c1, Value.int .i64 (m1 : Int), Value.bool true, u64, u65, sq 0, sq 1, sq 2, sq 3, sq 4, sq 5, sq 6, sq 7, sq 8, sq 9, sq 10, sq 11, u78, undef, undef, undef, undef, undef, undef, undef, undef, undef, undef, undef, undef, undef, undef, undef, undef, undef, undef, undef, undef, undef, undef, undef, undef, undef, undef, undef, undef, undef, undef, undef, undef, undef, undef, undef, undef], defers := [] }) (fun j => match j with | 0 => u66 | 1 => u67 | 2 => u68 | 3 => u69 | 4 => u70 | 5 => u71 | 6 => u72 | 7 => u73 | 8 => u74 | 9 => u75 | 10 => u76 | 11 => u77 | _ => undef) ?_ ?_ ?_ ?_
     ·rintro iq v a b hg h
      match iq, h with
      | 0, h => exact h
      | 1, h => exact h
      | 2, h => exact h
      | 3, h => exact h
      | 4, h => exact h
      | 5, h => exact h
      | 6, h => exact h
      | 7, h => exact h
      | 8, h => exact h
      | 9, h => exact h
      | 10, h => exact h
      | 11, h => exact (by obtain ⟨g2, rfl, h2⟩ := h; exact ⟨g2, rfl, h2.next hg⟩)
      | (kq + 12), _ => exact trivial
     ·exact ⟨rfl, rfl, rfl, Nat.le_refl _, fun _ _ => rfl⟩
     ·intro mq sq w' iq oq hmq hiq hoq hJ hd Kq hK
      have hiq' : iq = 0 ∨ iq = 1 ∨ iq = 2 ∨ iq = 3 ∨ iq = 4 ∨ iq = 5 ∨ iq = 6 ∨ iq = 7 ∨ iq = 8 ∨ iq = 9 ∨ iq = 10 ∨ iq = 11 := by omega
      rcases hiq' with rfl | rfl | rfl | rfl | rfl | rfl | rfl | rfl | rfl | rfl | rfl | rfl
      ·cases (show some _ = some oq from hoq)
       have hK' := hK
       simp only [updV, Nat.reduceEqDiff, ↓reduceIte] at hK'
       clear hK hd
       generalize sq 0 = x0 at *
       generalize sq 1 = x1 at *
       generalize sq 2 = x2 at *
       generalize sq 3 = x3 at *
       generalize sq 4 = x4 at *
       generalize sq 5 = x5 at *
       generalize sq 6 = x6 at *
       generalize sq 7 = x7 at *
       generalize sq 8 = x8 at *
       generalize sq 9 = x9 at *
       generalize sq 10 = x10 at *
       generalize sq 11 = x11 at *
       go_simp
       exact hK' _ _ (Below.refl _ _) hJ rfl
      ·cases (show some _ = some oq from hoq)
       have hK' := hK
       simp only [updV, Nat.reduceEqDiff, ↓reduceIte] at hK'
       clear hK hd
       generalize sq 0 = x0 at *
       generalize sq 1 = x1 at *
       generalize sq 2 = x2 at *
       generalize sq 3 = x3 at *
       generalize sq 4 = x4 at *
       generalize sq 5 = x5 at *
       generalize sq 6 = x6 at *
       generalize sq 7 = x7 at *
       generalize sq 8 = x8 at *
       generalize sq 9 = x9 at *
       generalize sq 10 = x10 at *
       generalize sq 11 = x11 at *
       go_simp
       exact hK' _ _ (Below.refl _ _) hJ rfl
      ·cases (show some _ = some oq from hoq)
       have hK' := hK
       simp only [updV, Nat.reduceEqDiff, ↓reduceIte] at hK'
       clear hK hd
       generalize sq 0 = x0 at *
       generalize sq 1 = x1 at *
       generalize sq 2 = x2 at *
       generalize sq 3 = x3 at *
       generalize sq 4 = x4 at *
       generalize sq 5 = x5 at *
       generalize sq 6 = x6 at *
       generalize sq 7 = x7 at *
       generalize sq 8 = x8 at *
       generalize sq 9 = x9 at *
       generalize sq 10 = x10 at *
       generalize sq 11 = x11 at *
       go_simp
       exact hK' _ _ (Below.refl _ _) hJ rfl
      ·cases (show some _ = some oq from hoq)
       have d1 := hd 1 (by kernel_rfl) (by decide)
       have d2 := hd 2 (by kernel_rfl) (by decide)
       have hK' := hK
       simp only [updV, Nat.reduceEqDiff, ↓reduceIte] at hK'
       clear hK hd
       generalize sq 0 = x0 at *
       generalize sq 1 = x1 at *
       generalize sq 2 = x2 at *
       generalize sq 3 = x3 at *
       generalize sq 4 = x4 at *
       generalize sq 5 = x5 at *
       generalize sq 6 = x6 at *
       generalize sq 7 = x7 at *
       generalize sq 8 = x8 at *
       generalize sq 9 = x9 at *
       generalize sq 10 = x10 at *
       generalize sq 11 = x11 at *
       obtain rfl := d1
       obtain rfl := d2
       go_simp
       exact hK' _ _ (Below.refl _ _) hJ rfl
      ·cases (show some _ = some oq from hoq)
       have d3 := hd 3 (by kernel_rfl) (by decide)
       have hK' := hK
       simp only [updV, Nat.reduceEqDiff, ↓reduceIte] at hK'
       clear hK hd
       generalize sq 0 = x0 at *
       generalize sq 1 = x1 at *
       generalize sq 2 = x2 at *
       generalize sq 3 = x3 at *
       generalize sq 4 = x4 at *
       generalize sq 5 = x5 at *
       generalize sq 6 = x6 at *
       generalize sq 7 = x7 at *
       generalize sq 8 = x8 at *
       generalize sq 9 = x9 at *
       generalize sq 10 = x10 at *
       generalize sq 11 = x11 at *
       obtain rfl := d3
       have hcc := ((bcell hJ).1 g _ hgl).trans hca'
       go_simp
       exact hK' _ _ (Below.refl _ _) hJ rfl
      ·cases (show some _ = some oq from hoq)
       have hK' := hK
       simp only [updV, Nat.reduceEqDiff, ↓reduceIte] at hK'
       clear hK hd
       generalize sq 0 = x0 at *
       generalize sq 1 = x1 at *
       generalize sq 2 = x2 at *
       generalize sq 3 = x3 at *
       generalize sq 4 = x4 at *
       generalize sq 5 = x5 at *
       generalize sq 6 = x6 at *
       generalize sq 7 = x7 at *
       generalize sq 8 = x8 at *
       generalize sq 9 = x9 at *
       generalize sq 10 = x10 at *
       generalize sq 11 = x11 at *
       go_simp
       exact hK' _ _ (Below.refl _ _) hJ rfl
      ·cases (show some _ = some oq from hoq)
       have hK' := hK
       simp only [updV, Nat.reduceEqDiff, ↓reduceIte] at hK'
       clear hK hd
       generalize sq 0 = x0 at *
       generalize sq 1 = x1 at *
       generalize sq 2 = x2 at *
       generalize sq 3 = x3 at *
       generalize sq 4 = x4 at *
       generalize sq 5 = x5 at *
       generalize sq 6 = x6 at *
       generalize sq 7 = x7 at *
       generalize sq 8 = x8 at *
       generalize sq 9 = x9 at *
       generalize sq 10 = x10 at *
       generalize sq 11 = x11 at *
       go_simp
       exact hK' _ _ (Below.refl _ _) hJ rfl
      ·cases (show some _ = some oq from hoq)
       have d6 := hd 6 (by kernel_rfl) (by decide)
       have hK' := hK
       simp only [updV, Nat.reduceEqDiff, ↓reduceIte] at hK'
       clear hK hd
       generalize sq 0 = x0 at *
       generalize sq 1 = x1 at *
       generalize sq 2 = x2 at *
       generalize sq 3 = x3 at *
       generalize sq 4 = x4 at *
       generalize sq 5 = x5 at *
       generalize sq 6 = x6 at *
       generalize sq 7 = x7 at *
       generalize sq 8 = x8 at *
       generalize sq 9 = x9 at *
       generalize sq 10 = x10 at *
       generalize sq 11 = x11 at *
       obtain rfl := d6
       go_simp
       exact hK' _ _ (Below.refl _ _) hJ rfl
      ·cases (show some _ = some oq from hoq)
       have d5 := hd 5 (by kernel_rfl) (by decide)
       have d7 := hd 7 (by kernel_rfl) (by decide)
       have hK' := hK
       simp only [updV, Nat.reduceEqDiff, ↓reduceIte] at hK'
       clear hK hd
       generalize sq 0 = x0 at *
       generalize sq 1 = x1 at *
       generalize sq 2 = x2 at *
       generalize sq 3 = x3 at *
       generalize sq 4 = x4 at *
       generalize sq 5 = x5 at *
       generalize sq 6 = x6 at *
       generalize sq 7 = x7 at *
       generalize sq 8 = x8 at *
       generalize sq 9 = x9 at *
       generalize sq 10 = x10 at *
       generalize sq 11 = x11 at *
       obtain rfl := d5
       obtain rfl := d7
       go_simp
       exact hK' _ _ (Below.refl _ _) hJ rfl
      ·cases (show some _ = some oq from hoq)
       have d8 := hd 8 (by kernel_rfl) (by decide)
       have hK' := hK
       simp only [updV, Nat.reduceEqDiff, ↓reduceIte] at hK'
       clear hK hd
       generalize sq 0 = x0 at *
       generalize sq 1 = x1 at *
       generalize sq 2 = x2 at *
       generalize sq 3 = x3 at *
       generalize sq 4 = x4 at *
       generalize sq 5 = x5 at *
       generalize sq 6 = x6 at *
       generalize sq 7 = x7 at *
       generalize sq 8 = x8 at *
       generalize sq 9 = x9 at *
       generalize sq 10 = x10 at *
       generalize sq 11 = x11 at *
       obtain rfl := d8
       have hcc := ((bcell hJ).1 g _ hgl).trans hcb'
       go_simp
       exact hK' _ _ (Below.refl _ _) hJ rfl
      ·cases (show some _ = some oq from hoq)
       have d4 := hd 4 (by kernel_rfl) (by decide)
       have d9 := hd 9 (by kernel_rfl) (by decide)
       have hK' := hK
       simp only [updV, Nat.reduceEqDiff, ↓reduceIte] at hK'
       clear hK hd
       generalize sq 0 = x0 at *
       generalize sq 1 = x1 at *
       generalize sq 2 = x2 at *
       generalize sq 3 = x3 at *
       generalize sq 4 = x4 at *
       generalize sq 5 = x5 at *
       generalize sq 6 = x6 at *
       generalize sq 7 = x7 at *
       generalize sq 8 = x8 at *
       generalize sq 9 = x9 at *
       generalize sq 10 = x10 at *
       generalize sq 11 = x11 at *
       obtain rfl := d4
       obtain rfl := d9
       go_simp
       exact hK' _ _ (Below.refl _ _) hJ rfl
      ·cases (show some _ = some oq from hoq)
       have d10 := hd 10 (by kernel_rfl) (by decide)
       have hK' := hK
       simp only [updV, Nat.reduceEqDiff, ↓reduceIte] at hK'
       clear hK hd
       generalize sq 0 = x0 at *
       generalize sq 1 = x1 at *
       generalize sq 2 = x2 at *
       generalize sq 3 = x3 at *
       generalize sq 4 = x4 at *
       generalize sq 5 = x5 at *
       generalize sq 6 = x6 at *
       generalize sq 7 = x7 at *
       generalize sq 8 = x8 at *
       generalize sq 9 = x9 at *
       generalize sq 10 = x10 at *
       generalize sq 11 = x11 at *
       obtain rfl := d10
       go_simp
       exact hK' _ _ (ba (Below.refl _ _)) (hJ.alloc hJ.size _) ⟨_, rfl, Blk.new _ _ _⟩
     ·intro sq w' hJ hφ
      simp only [List.drop_succ_cons, List.drop_zero]
      have d0 := hφ 0 (by decide)
      have d11 := hφ 11 (by decide)
      clear hφ
      generalize sq 0 = x0 at *
      generalize sq 1 = x1 at *
      generalize sq 2 = x2 at *
      generalize sq 3 = x3 at *
      generalize sq 4 = x4 at *
      generalize sq 5 = x5 at *
      generalize sq 6 = x6 at *
      generalize sq 7 = x7 at *
      generalize sq 8 = x8 at *
      generalize sq 9 = x9 at *
      generalize sq 10 = x10 at *
      generalize sq 11 = x11 at *
      obtain rfl := d0
      obtain ⟨g2, rfl, hb2⟩ := d11
      have hrow := Ow.next HOW.out hJ
      have hsj := hJ.size
      replace HB2 := Lib.hid (below_next HB2.out hJ)
      refine wpList_append_ow _ rfl (.tmp 66) (.tmp 77) _ rfl w4.heap.size 100 i0 _ 2 16 Tryz.underlying97 HI.out HZ.out HS.out HBY.out rfl (by omega) _ k c' _ rfl hrow _ 1 1 (cellsE [(za, zb)]) rfl (Src.blk hb2 rfl) (cellsE_one _) (by unfold maxLen; omega) (by omega) (by omega) ?_
      intro A5 c5 w5 hown5 hg5 _
      have HO5 := Lib.hid hown5
      have HG5 := Lib.hid hg5
      have HROW := Lib.hid hrow
      clear hown5 hg5 hrow hJ hb2 hca' hcb'
      go_wp2_with fail
      refine ⟨⟨k + 1, K2 + 2, by have h1 := HM.out; have h2 := HK2.out; omega, by have h1 := HM.out; have h2 := HK2.out; omega, by omega, A5, c5, ⟨rfl, rfl, rfl⟩, by have h2 := HK2.out; omega, HROW.out.grown HG5.out HB2.out (Nat.le_refl _) HB2.out.size, ?_⟩, by simp [intOf]; omega⟩
      rw [HPS.out, cellsE_append]
      exact HO5.out
    ·have hkm : k = m := by have h1 := HM.out; have h2 := HK2.out; omega
     subst hkm
     go_wp2_with fail
     refine (implReplayInputs_any A' k c' (pairsK z1 k) _ HOW.out.rdE (by omega)).mono ?_
     rintro e w6 ⟨Ai, ci, rfl, hO, hb⟩
     have HMB := Lib.hid (show z1.length / 2 = k by rw [← HN1.out]; have := HM.out; omega)
     have hbe := below_next (below_next HB.out HB2.out) hb
     have hb4 := below_next HB2.out hb
     have I0 := Lib.hid (HO0.out.rdI.below hb4)
     replace HO2 := Lib.hid (Ow.next HO2.out hb4)
     have I3 := Lib.hid (HO3.out.rdI.below hb4)
     have hle2 := HO2.out.le
     replace KR := Lib.hid (KR.out.next hb4)
     replace KN := Lib.hid (KN.out.next hb4)
     have HBE := Lib.hid hbe
     have HKW := Lib.hid KR.out.lt
     have HP := Lib.hid (insW_len (pairsK z1 k))
     clear hbe hb4 hb
     obtain ⟨pr, hpr⟩ : ∃ p, insW (pairsK z1 k) = p := ⟨_, rfl⟩
     rw [hpr] at hO HP ⊢
     obtain ⟨pi, po⟩ := pr
     obtain ⟨np, hnp⟩ : ∃ np, pi.length = np := ⟨_, rfl⟩
     simp only [hnp] at hO HP ⊢
     have hle4 := hO.le
     have HOI := Lib.hid hO
     have HPR := Lib.hid hpr
     have hnp60 : np ≤ 60 := HP.out
     have hkr := HBE.out.size
     clear hpr hO hnp
     obtain ⟨b1, o1, v1, hA1, hl1, hv1, q1⟩ := I0.out.at_ (j := 0) (by have := H3.out; omega)
     obtain ⟨b2, o2, v2, hA2, hl2, hv2, q2⟩ := I0.out.at_ (j := 1) (by have := H3.out; omega)
     obtain ⟨b3, o3, v3, hA3, hl3, hv3, q3⟩ := I0.out.at_ (j := 2) (by have := H3.out; omega)
     obtain ⟨b4, o4, v4, hA4, hl4, hv4, q4⟩ := I3.out.at_ (j := 0) (by have := H4.out; omega)
     obtain ⟨rfl, rfl⟩ : b1 = b2 ∧ o1 = o2 := by rw [hA1] at hA2; simpa using hA2
     obtain ⟨rfl, rfl⟩ : b1 = b3 ∧ o1 = o3 := by rw [hA1] at hA3; simpa using hA3
     subst hA1 hA4
     rw [Nat.add_zero] at q1 q4
     have HA1 := Lib.hid (show atI z0 0 = v1 by simp [atI, hv1])
     have HA2 := Lib.hid (show atI z0 1 = v2 by simp [atI, hv2])
     have HA3 := Lib.hid (show atI z0 2 = v3 by simp [atI, hv3])
     have HA4 := Lib.hid (show atI z3 0 = v4 by simp [atI, hv4])
     have Q1 := Lib.hid q1
     have Q2 := Lib.hid q2
     have Q3 := Lib.hid q3
     have Q4 := Lib.hid q4
     clear hv1 hv2 hv3 hv4 hA2 hA3 q1 q2 q3 q4
     go_upto_region 22 with (fail)
     refine wp_region_grow 17 (by kernel_rfl) (by kernel_rfl) (by kernel_rfl) (fun a b => Below a.heap.size a b) (fun mq w' => Below w6.heap.size w6 w') (fun iq v w' => match iq with | 0 => (v = .slice (some ⟨b1, o1, none⟩) m0 c0) | 1 => (v = .pointer (some ⟨b1, o1, none⟩)) | 2 => (v = .int .i64 v1) | 3 => (v = .slice (some ⟨b1, o1, none⟩) m0 c0) | 4 => (v = .pointer (some ⟨b1, o1 + 1, none⟩)) | 5 => (v = .int .i64 v2) | 6 => (v = .slice (some ⟨b1, o1, none⟩) m0 c0) | 7 => (v = .pointer (some ⟨b1, o1 + 2, none⟩)) | 8 => (v = .int .i64 v3) | 9 => (v = .slice Ai np ci) | 10 => (v = .pointer (some ⟨w1.heap.size, 2, none⟩)) | 11 => (v = .slice A2 m2 c2) | 12 => (v = .slice (some ⟨b4, o4, none⟩) m3 c3) | 13 => (v = .pointer (some ⟨b4, o4, none⟩)) | 14 => (v = .int .i64 v4) | 15 => (v = .agg #[.int .i64 v1, .int .i64 v2, .int .i64 v3, .slice Ai np ci, .slice A2 m2 c2, .int .i64 v4]) | 16 => (∃ o, v = .pointer (some ⟨o, 0, none⟩) ∧ w6.heap.size ≤ o ∧ Blk w' o 33 (repC rep0 ⟨none, 0, 0⟩ ⟨none, 0, 0⟩)) | _ => True) (fun sq => { tmps := #[Value.string s, undef, Value.pointer (some (⟨w.heap.size, 0, none⟩ : Addr)), u3, Value.slice (some (⟨w.heap.size + 1, 0, none⟩ : Addr)) 5 5, Value.pointer (some (⟨w1.heap.size, 0, none⟩ : Addr)), u6, u7, Value.slice (some (⟨b1, o1, none⟩ : Addr)) m0 c0, Value.slice A1 m1 c1, Value.slice (some (⟨b4, o4, none⟩ : Addr)) m3 c3, Value.slice A' k c', Value.int .i64 (K2 : Int), Value.slice Ai np ci, Value.bool po, sq 16, Value.string s, Value.slice (some (⟨w.heap.size + 1, 0, none⟩ : Addr)) 5 5, Value.slice (some (⟨w.heap.size + 1, 0, none⟩ : Addr)) 5 5, Value.int .i64 5, Value.bool false, undef, Value.int .i64 (4 : Int), Value.bool false, u24, u25, u26, u27, u28, u29, u30, u31, u32, u33, u34, u35, u36, u37, u38, Value.pointer (some (⟨w1.heap.size, 0, none⟩ : Addr)), Value.slice (some (⟨b1, o1, none⟩ : Addr)) m0 c0, Value.pointer (some (⟨w1.heap.size, 1, none⟩ : Addr)), Value.slice A1 m1 c1, Value.pointer (some (⟨w1.heap.size, 3, none⟩ : Addr)), Value.slice (some (⟨b4, o4, none⟩ : Addr)) m3 c3, Value.slice (some (⟨b1, o1, none⟩ : Addr)) m0 c0, Value.int .i64 3, Value.bool false, Value.bool false, Value.slice A1 m1 c1, Value.int .i64 (m1 : Int), Value.int .i64 0, Value.bool false, Value.bool false, Value.bool false, Value.slice (some (⟨b4, o4, none⟩ : Addr)) m3 c3, Value.int .i64 1, Value.bool false, Value.bool false, undef, Value.int .i64 (K2 : Int), Value.slice A1 m1 c1, Value.int .i64 (m1 : Int), Value.bool false, u64, u65, u66, u67, u68, u69, u70, u71, u72, u73, u74, u75, u76, u77, u78, Value.tuple #[Value.slice Ai np ci, Value.bool po], Value.slice A' k c', Value.tuple #[Value.slice Ai np ci, Value.bool po], Value.slice Ai np ci, Value.bool po, sq 0, sq 1, sq 2, sq 3, sq 4, sq 5, sq 6, sq 7, sq 8, sq 9, sq 10, sq 11, sq 12, sq 13, sq 14, sq 15, undef, undef, undef, undef, undef, undef, undef, undef, undef, undef, undef, undef, undef, undef, undef], defers := [] }) (fun _ => undef) ?_ ?_ ?_ ?_
     ·rintro iq v a b hg h
      match iq, h with
      | 0, h => exact h
      | 1, h => exact h
      | 2, h => exact h
      | 3, h => exact h
      | 4, h => exact h
      | 5, h => exact h
      | 6, h => exact h
      | 7, h => exact h
      | 8, h => exact h
      | 9, h => exact h
      | 10, h => exact h
      | 11, h => exact h
      | 12, h => exact h
      | 13, h => exact h
      | 14, h => exact h
      | 15, h => exact h
      | 16, h => exact (by obtain ⟨o, rfl, h1, h2⟩ := h; exact ⟨o, rfl, h1, h2.next hg⟩)
      | (kq + 17), _ => exact trivial
     ·exact ⟨rfl, rfl, rfl, Nat.le_refl _, fun _ _ => rfl⟩
     ·intro mq sq w' iq oq hmq hiq hoq hJ hd Kq hK
      have hiq' : iq = 0 ∨ iq = 1 ∨ iq = 2 ∨ iq = 3 ∨ iq = 4 ∨ iq = 5 ∨ iq = 6 ∨ iq = 7 ∨ iq = 8 ∨ iq = 9 ∨ iq = 10 ∨ iq = 11 ∨ iq = 12 ∨ iq = 13 ∨ iq = 14 ∨ iq = 15 ∨ iq = 16 := by omega
      rcases hiq' with rfl | rfl | rfl | rfl | rfl | rfl | rfl | rfl | rfl | rfl | rfl | rfl | rfl | rfl | rfl | rfl | rfl
      ·cases (show some _ = some oq from hoq)
       have hK' := hK
       simp only [updV, Nat.reduceEqDiff, ↓reduceIte] at hK'
       clear hK hd
       generalize sq 0 = x0 at *
       generalize sq 1 = x1 at *
       generalize sq 2 = x2 at *
       generalize sq 3 = x3 at *
       generalize sq 4 = x4 at *
       generalize sq 5 = x5 at *
       generalize sq 6 = x6 at *
       generalize sq 7 = x7 at *
       generalize sq 8 = x8 at *
       generalize sq 9 = x9 at *
       generalize sq 10 = x10 at *
       generalize sq 11 = x11 at *
       generalize sq 12 = x12 at *
       generalize sq 13 = x13 at *
       generalize sq 14 = x14 at *
       generalize sq 15 = x15 at *
       generalize sq 16 = x16 at *
       go_simp
       exact hK' _ _ (Below.refl _ _) hJ rfl
      ·cases (show some _ = some oq from hoq)
       have d0 := hd 0 (by kernel_rfl) (by decide)
       have hK' := hK
       simp only [updV, Nat.reduceEqDiff, ↓reduceIte] at hK'
       clear hK hd
       generalize sq 0 = x0 at *
       generalize sq 1 = x1 at *
       generalize sq 2 = x2 at *
       generalize sq 3 = x3 at *
       generalize sq 4 = x4 at *
       generalize sq 5 = x5 at *
       generalize sq 6 = x6 at *
       generalize sq 7 = x7 at *
       generalize sq 8 = x8 at *
       generalize sq 9 = x9 at *
       generalize sq 10 = x10 at *
       generalize sq 11 = x11 at *
       generalize sq 12 = x12 at *
       generalize sq 13 = x13 at *
       generalize sq 14 = x14 at *
       generalize sq 15 = x15 at *
       generalize sq 16 = x16 at *
       obtain rfl := d0
       go_simp
       exact hK' _ _ (Below.refl _ _) hJ rfl
      ·cases (show some _ = some oq from hoq)
       have d1 := hd 1 (by kernel_rfl) (by decide)
       have hK' := hK
       simp only [updV, Nat.reduceEqDiff, ↓reduceIte] at hK'
       clear hK hd
       generalize sq 0 = x0 at *
       generalize sq 1 = x1 at *
       generalize sq 2 = x2 at *
       generalize sq 3 = x3 at *
       generalize sq 4 = x4 at *
       generalize sq 5 = x5 at *
       generalize sq 6 = x6 at *
       generalize sq 7 = x7 at *
       generalize sq 8 = x8 at *
       generalize sq 9 = x9 at *
       generalize sq 10 = x10 at *
       generalize sq 11 = x11 at *
       generalize sq 12 = x12 at *
       generalize sq 13 = x13 at *
       generalize sq 14 = x14 at *
       generalize sq 15 = x15 at *
       generalize sq 16 = x16 at *
       obtain rfl := d1
       have hcc := ((bcell hJ).1 _ _ hl1).trans Q1.out
       go_simp
       exact hK' _ _ (Below.refl _ _) hJ rfl
      ·cases (show some _ = some oq from hoq)
       have hK' := hK
       simp only [updV, Nat.reduceEqDiff, ↓reduceIte] at hK'
       clear hK hd
       generalize sq 0 = x0 at *
       generalize sq 1 = x1 at *
       generalize sq 2 = x2 at *
       generalize sq 3 = x3 at *
       generalize sq 4 = x4 at *
       generalize sq 5 = x5 at *
       generalize sq 6 = x6 at *
       generalize sq 7 = x7 at *
       generalize sq 8 = x8 at *
       generalize sq 9 = x9 at *
       generalize sq 10 = x10 at *
       generalize sq 11 = x11 at *
       generalize sq 12 = x12 at *
       generalize sq 13 = x13 at *
       generalize sq 14 = x14 at *
       generalize sq 15 = x15 at *
       generalize sq 16 = x16 at *
       go_simp
       exact hK' _ _ (Below.refl _ _) hJ rfl
      ·cases (show some _ = some oq from hoq)
       have d3 := hd 3 (by kernel_rfl) (by decide)
       have hK' := hK
       simp only [updV, Nat.reduceEqDiff, ↓reduceIte] at hK'
       clear hK hd
       generalize sq 0 = x0 at *
       generalize sq 1 = x1 at *
       generalize sq 2 = x2 at *
       generalize sq 3 = x3 at *
       generalize sq 4 = x4 at *
       generalize sq 5 = x5 at *
       generalize sq 6 = x6 at *
       generalize sq 7 = x7 at *
       generalize sq 8 = x8 at *
       generalize sq 9 = x9 at *
       generalize sq 10 = x10 at *
       generalize sq 11 = x11 at *
       generalize sq 12 = x12 at *
       generalize sq 13 = x13 at *
       generalize sq 14 = x14 at *
       generalize sq 15 = x15 at *
       generalize sq 16 = x16 at *
       obtain rfl := d3
       go_simp
       exact hK' _ _ (Below.refl _ _) hJ rfl
      ·cases (show some _ = some oq from hoq)
       have d4 := hd 4 (by kernel_rfl) (by decide)
       have hK' := hK
       simp only [updV, Nat.reduceEqDiff, ↓reduceIte] at hK'
       clear hK hd
       generalize sq 0 = x0 at *
       generalize sq 1 = x1 at *
       generalize sq 2 = x2 at *
       generalize sq 3 = x3 at *
       generalize sq 4 = x4 at *
       generalize sq 5 = x5 at *
       generalize sq 6 = x6 at *
       generalize sq 7 = x7 at *
       generalize sq 8 = x8 at *
       generalize sq 9 = x9 at *
       generalize sq 10 = x10 at *
       generalize sq 11 = x11 at *
       generalize sq 12 = x12 at *
       generalize sq 13 = x13 at *
       generalize sq 14 = x14 at *
       generalize sq 15 = x15 at *
       generalize sq 16 = x16 at *
       obtain rfl := d4
       have hcc := ((bcell hJ).1 _ _ hl1).trans Q2.out
       go_simp
       exact hK' _ _ (Below.refl _ _) hJ rfl
      ·cases (show some _ = some oq from hoq)
       have hK' := hK
       simp only [updV, Nat.reduceEqDiff, ↓reduceIte] at hK'
       clear hK hd
       generalize sq 0 = x0 at *
       generalize sq 1 = x1 at *
       generalize sq 2 = x2 at *
       generalize sq 3 = x3 at *
       generalize sq 4 = x4 at *
       generalize sq 5 = x5 at *
       generalize sq 6 = x6 at *
       generalize sq 7 = x7 at *
       generalize sq 8 = x8 at *
       generalize sq 9 = x9 at *
       generalize sq 10 = x10 at *
       generalize sq 11 = x11 at *
       generalize sq 12 = x12 at *
       generalize sq 13 = x13 at *
       generalize sq 14 = x14 at *
       generalize sq 15 = x15 at *
       generalize sq 16 = x16 at *
       go_simp
       exact hK' _ _ (Below.refl _ _) hJ rfl
      ·cases (show some _ = some oq from hoq)
       have d6 := hd 6 (by kernel_rfl) (by decide)
       have hK' := hK
       simp only [updV, Nat.reduceEqDiff, ↓reduceIte] at hK'
       clear hK hd
       generalize sq 0 = x0 at *
       generalize sq 1 = x1 at *
       generalize sq 2 = x2 at *
       generalize sq 3 = x3 at *
       generalize sq 4 = x4 at *
       generalize sq 5 = x5 at *
       generalize sq 6 = x6 at *
       generalize sq 7 = x7 at *
       generalize sq 8 = x8 at *
       generalize sq 9 = x9 at *
       generalize sq 10 = x10 at *
       generalize sq 11 = x11 at *
       generalize sq 12 = x12 at *
       generalize sq 13 = x13 at *
       generalize sq 14 = x14 at *
       generalize sq 15 = x15 at *
       generalize sq 16 = x16 at *
       obtain rfl := d6
       go_simp
       exact hK' _ _ (Below.refl _ _) hJ rfl
      ·cases (show some _ = some oq from hoq)
       have d7 := hd 7 (by kernel_rfl) (by decide)
       have hK' := hK
       simp only [updV, Nat.reduceEqDiff, ↓reduceIte] at hK'
       clear hK hd
       generalize sq 0 = x0 at *
       generalize sq 1 = x1 at *
       generalize sq 2 = x2 at *
       generalize sq 3 = x3 at *
       generalize sq 4 = x4 at *
       generalize sq 5 = x5 at *
       generalize sq 6 = x6 at *
       generalize sq 7 = x7 at *
       generalize sq 8 = x8 at *
       generalize sq 9 = x9 at *
       generalize sq 10 = x10 at *
       generalize sq 11 = x11 at *
       generalize sq 12 = x12 at *
       generalize sq 13 = x13 at *
       generalize sq 14 = x14 at *
       generalize sq 15 = x15 at *
       generalize sq 16 = x16 at *
       obtain rfl := d7
       have hcc := ((bcell hJ).1 _ _ hl1).trans Q3.out
       go_simp
       exact hK' _ _ (Below.refl _ _) hJ rfl
      ·cases (show some _ = some oq from hoq)
       have hK' := hK
       simp only [updV, Nat.reduceEqDiff, ↓reduceIte] at hK'
       clear hK hd
       generalize sq 0 = x0 at *
       generalize sq 1 = x1 at *
       generalize sq 2 = x2 at *
       generalize sq 3 = x3 at *
       generalize sq 4 = x4 at *
       generalize sq 5 = x5 at *
       generalize sq 6 = x6 at *
       generalize sq 7 = x7 at *
       generalize sq 8 = x8 at *
       generalize sq 9 = x9 at *
       generalize sq 10 = x10 at *
       generalize sq 11 = x11 at *
       generalize sq 12 = x12 at *
       generalize sq 13 = x13 at *
       generalize sq 14 = x14 at *
       generalize sq 15 = x15 at *
       generalize sq 16 = x16 at *
       go_simp
       exact hK' _ _ (Below.refl _ _) hJ rfl
      ·cases (show some _ = some oq from hoq)
       have hK' := hK
       simp only [updV, Nat.reduceEqDiff, ↓reduceIte] at hK'
       clear hK hd
       generalize sq 0 = x0 at *
       generalize sq 1 = x1 at *
       generalize sq 2 = x2 at *
       generalize sq 3 = x3 at *
       generalize sq 4 = x4 at *
       generalize sq 5 = x5 at *
       generalize sq 6 = x6 at *
       generalize sq 7 = x7 at *
       generalize sq 8 = x8 at *
       generalize sq 9 = x9 at *
       generalize sq 10 = x10 at *
       generalize sq 11 = x11 at *
       generalize sq 12 = x12 at *
       generalize sq 13 = x13 at *
       generalize sq 14 = x14 at *
       generalize sq 15 = x15 at *
       generalize sq 16 = x16 at *
       go_simp
       exact hK' _ _ (Below.refl _ _) hJ rfl
      ·cases (show some _ = some oq from hoq)
       have d10 := hd 10 (by kernel_rfl) (by decide)
       have hK' := hK
       simp only [updV, Nat.reduceEqDiff, ↓reduceIte] at hK'
       clear hK hd
       generalize sq 0 = x0 at *
       generalize sq 1 = x1 at *
       generalize sq 2 = x2 at *
       generalize sq 3 = x3 at *
       generalize sq 4 = x4 at *
       generalize sq 5 = x5 at *
       generalize sq 6 = x6 at *
       generalize sq 7 = x7 at *
       generalize sq 8 = x8 at *
       generalize sq 9 = x9 at *
       generalize sq 10 = x10 at *
       generalize sq 11 = x11 at *
       generalize sq 12 = x12 at *
       generalize sq 13 = x13 at *
       generalize sq 14 = x14 at *
       generalize sq 15 = x15 at *
       generalize sq 16 = x16 at *
       obtain rfl := d10
       have hcc := (KN.out.next hJ).cell 2
       go_simp
       exact hK' _ _ (Below.refl _ _) hJ rfl
      ·cases (show some _ = some oq from hoq)
       have hK' := hK
       simp only [updV, Nat.reduceEqDiff, ↓reduceIte] at hK'
       clear hK hd
       generalize sq 0 = x0 at *
       generalize sq 1 = x1 at *
       generalize sq 2 = x2 at *
       generalize sq 3 = x3 at *
       generalize sq 4 = x4 at *
       generalize sq 5 = x5 at *
       generalize sq 6 = x6 at *
       generalize sq 7 = x7 at *
       generalize sq 8 = x8 at *
       generalize sq 9 = x9 at *
       generalize sq 10 = x10 at *
       generalize sq 11 = x11 at *
       generalize sq 12 = x12 at *
       generalize sq 13 = x13 at *
       generalize sq 14 = x14 at *
       generalize sq 15 = x15 at *
       generalize sq 16 = x16 at *
       go_simp
       exact hK' _ _ (Below.refl _ _) hJ rfl
      ·cases (show some _ = some oq from hoq)
       have d12 := hd 12 (by kernel_rfl) (by decide)
       have hK' := hK
       simp only [updV, Nat.reduceEqDiff, ↓reduceIte] at hK'
       clear hK hd
       generalize sq 0 = x0 at *
       generalize sq 1 = x1 at *
       generalize sq 2 = x2 at *
       generalize sq 3 = x3 at *
       generalize sq 4 = x4 at *
       generalize sq 5 = x5 at *
       generalize sq 6 = x6 at *
       generalize sq 7 = x7 at *
       generalize sq 8 = x8 at *
       generalize sq 9 = x9 at *
       generalize sq 10 = x10 at *
       generalize sq 11 = x11 at *
       generalize sq 12 = x12 at *
       generalize sq 13 = x13 at *
       generalize sq 14 = x14 at *
       generalize sq 15 = x15 at *
       generalize sq 16 = x16 at *
       obtain rfl := d12
       go_simp
       exact hK' _ _ (Below.refl _ _) hJ rfl
      ·cases (show some _ = some oq from hoq)
       have d13 := hd 13 (by kernel_rfl) (by decide)
       have hK' := hK
       simp only [updV, Nat.reduceEqDiff, ↓reduceIte] at hK'
       clear hK hd
       generalize sq 0 = x0 at *
       generalize sq 1 = x1 at *
       generalize sq 2 = x2 at *
       generalize sq 3 = x3 at *
       generalize sq 4 = x4 at *
       generalize sq 5 = x5 at *
       generalize sq 6 = x6 at *
       generalize sq 7 = x7 at *
       generalize sq 8 = x8 at *
       generalize sq 9 = x9 at *
       generalize sq 10 = x10 at *
       generalize sq 11 = x11 at *
       generalize sq 12 = x12 at *
       generalize sq 13 = x13 at *
       generalize sq 14 = x14 at *
       generalize sq 15 = x15 at *
       generalize sq 16 = x16 at *
       obtain rfl := d13
       have hcc := ((bcell hJ).1 _ _ hl4).trans Q4.out
       go_simp
       exact hK' _ _ (Below.refl _ _) hJ rfl
      ·cases (show some _ = some oq from hoq)
       have d2 := hd 2 (by kernel_rfl) (by decide)
       have d5 := hd 5 (by kernel_rfl) (by decide)
       have d8 := hd 8 (by kernel_rfl) (by decide)
       have d9 := hd 9 (by kernel_rfl) (by decide)
       have d11 := hd 11 (by kernel_rfl) (by decide)
       have d14 := hd 14 (by kernel_rfl) (by decide)
       have hK' := hK
       simp only [updV, Nat.reduceEqDiff, ↓reduceIte] at hK'
       clear hK hd
       generalize sq 0 = x0 at *
       generalize sq 1 = x1 at *
       generalize sq 2 = x2 at *
       generalize sq 3 = x3 at *
       generalize sq 4 = x4 at *
       generalize sq 5 = x5 at *
       generalize sq 6 = x6 at *
       generalize sq 7 = x7 at *
       generalize sq 8 = x8 at *
       generalize sq 9 = x9 at *
       generalize sq 10 = x10 at *
       generalize sq 11 = x11 at *
       generalize sq 12 = x12 at *
       generalize sq 13 = x13 at *
       generalize sq 14 = x14 at *
       generalize sq 15 = x15 at *
       generalize sq 16 = x16 at *
       obtain rfl := d2
       obtain rfl := d5
       obtain rfl := d8
       obtain rfl := d9
       obtain rfl := d11
       obtain rfl := d14
       go_simp
       exact hK' _ _ (Below.refl _ _) hJ rfl
      ·cases (show some _ = some oq from hoq)
       have hK' := hK
       simp only [updV, Nat.reduceEqDiff, ↓reduceIte] at hK'
       clear hK hd
       generalize sq 0 = x0 at *
       generalize sq 1 = x1 at *
       generalize sq 2 = x2 at *
       generalize sq 3 = x3 at *
       generalize sq 4 = x4 at *
       generalize sq 5 = x5 at *
       generalize sq 6 = x6 at *
       generalize sq 7 = x7 at *
       generalize sq 8 = x8 at *
       generalize sq 9 = x9 at *
       generalize sq 10 = x10 at *
       generalize sq 11 = x11 at *
       generalize sq 12 = x12 at *
       generalize sq 13 = x13 at *
       generalize sq 14 = x14 at *
       generalize sq 15 = x15 at *
       generalize sq 16 = x16 at *
       go_simp
       exact hK' _ _ (ba (Below.refl _ _)) (hJ.alloc hJ.size _) ⟨_, rfl, hJ.size, Blk.new _ _ _⟩
     ·intro sq w' hJ hφ
      simp only [List.drop_succ_cons, List.drop_zero]
      have d15 := hφ 15 (by decide)
      have d16 := hφ 16 (by decide)
      clear hφ
      generalize sq 0 = x0 at *
      generalize sq 1 = x1 at *
      generalize sq 2 = x2 at *
      generalize sq 3 = x3 at *
      generalize sq 4 = x4 at *
      generalize sq 5 = x5 at *
      generalize sq 6 = x6 at *
      generalize sq 7 = x7 at *
      generalize sq 8 = x8 at *
      generalize sq 9 = x9 at *
      generalize sq 10 = x10 at *
      generalize sq 11 = x11 at *
      generalize sq 12 = x12 at *
      generalize sq 13 = x13 at *
      generalize sq 14 = x14 at *
      generalize sq 15 = x15 at *
      generalize sq 16 = x16 at *
      obtain rfl := d15
      obtain ⟨o, rfl, ho1, hbo⟩ := d16
      have KO := Lib.hid hbo
      replace KR := Lib.hid (KR.out.next hJ)
      replace HOI := Lib.hid (Ow.next HOI.out hJ)
      replace HO2 := Lib.hid (Ow.next HO2.out hJ)
      have hko : w.heap.size < o := Nat.lt_of_lt_of_le HKW.out ho1
      replace HBE := Lib.hid (below_next HBE.out hJ)
      clear hbo hJ Q1 Q2 Q3 Q4
      have co := fun o => KO.out.cell o
      have fo := fun o => KO.out.frozen o
      have zo := KO.out.lt
      go_upto_region 23 with (fail)
      refine into_world (fun W => Only o w' W ∧ Blk W o 33 (repC ⟨v1, v2, v3, pi, z2, v4⟩ ⟨Ai, np, ci⟩ ⟨A2, m2, c2⟩)) ⟨?_, ?_⟩ ?_
      ·exact (((((((Only.refl o w').set_ (p := ⟨o, 0, none⟩) (.inl rfl) _).set_ (p := ⟨o, 1, none⟩) (.inl rfl) _).set_ (p := ⟨o, 2, none⟩) (.inl rfl) _).set_ (p := ⟨o, 3, none⟩) (.inl rfl) _).set_ (p := ⟨o, 4, none⟩) (.inl rfl) _).set_ (p := ⟨o, 5, none⟩) (.inl rfl) _)
      ·exact Blk.all6 KO.out (.int .i64 v1) (.int .i64 v2) (.int .i64 v3) (.slice Ai np ci) (.slice A2 m2 c2) (.int .i64 v4)
      rintro W ⟨ho, hko2⟩
      replace HOI := Lib.hid (HOI.out.onlyT KO.out (by decide) ho)
      replace HO2 := Lib.hid (HO2.out.onlyT KO.out (by decide) ho)
      replace KR := Lib.hid (KR.out.only ho (by omega))
      replace HBE := Lib.hid (HBE.out.trans (ho.below (by omega) HBE.out.size))
      replace KO := Lib.hid hko2
      clear co fo zo ho hko2
      have HFR := Lib.hid (show decI s = endI s (⟨v1, v2, v3, pi, z2, v4⟩, po && repOk ⟨v1, v2, v3, pi, z2, v4⟩) by rw [HF.out]; simp only [readR, HMB.out, HPR.out, HA1.out, HA2.out, HA3.out, HA4.out])
      have HRD0 := Lib.hid (show OwRep W ⟨v1, v2, v3, pi, z2, v4⟩ ⟨Ai, np, ci⟩ ⟨A2, m2, c2⟩ from ⟨HOI.out.mono (Nat.zero_le _), HO2.out.mono (Nat.zero_le _), by simp only; omega, hm2⟩)
      replace HB := HBE
      have co := fun o => KO.out.cell o
      have fo := fun o => KO.out.frozen o
      have zo := KO.out.lt
      cases po
      ·have HF := Lib.hid (show decI s = (rep0, false) by rw [HFR.out]; simp [endI])
       have cr := fun o => KR.out.cell o
       have fr := fun o => KR.out.frozen o
       have zr := KR.out.lt
       go_wp2_with fail
       refine bodyPost_ret (v := .tuple #[repV rep0 ⟨none, 0, 0⟩ ⟨none, 0, 0⟩, .bool false]) (by simp [results, Tryz.results31, go_sem, cr, rep0]) rfl ?_
       unfold RepPost
       rw [HF.out]
       exact ⟨_, _, rfl, rdR_zero _, by have hb := HB.out; go_grown⟩
      go_wp2_with fail
      refine (implReplayValid_any ⟨v1, v2, v3, pi, z2, v4⟩ ⟨Ai, np, ci⟩ ⟨A2, m2, c2⟩ _ HRD0.out.rd).mono ?_
      rintro e w7 ⟨rfl, hb⟩
      replace KR := Lib.hid (KR.out.next hb)
      replace KO := Lib.hid (KO.out.next hb)
      replace HRD0 := Lib.hid (HRD0.out.next hb)
      replace HB := Lib.hid (below_next HB.out hb)
      clear hb co fo zo
      have co := fun o => KO.out.cell o
      have fo := fun o => KO.out.frozen o
      have zo := KO.out.lt
      cases hro : repOk ⟨v1, v2, v3, pi, z2, v4⟩
      ·have HF := Lib.hid (show decI s = (rep0, false) by rw [HFR.out]; simp [endI, hro])
       have cr := fun o => KR.out.cell o
       have fr := fun o => KR.out.frozen o
       have zr := KR.out.lt
       go_wp2_with fail
       refine bodyPost_ret (v := .tuple #[repV rep0 ⟨none, 0, 0⟩ ⟨none, 0, 0⟩, .bool false]) (by simp [results, Tryz.results31, go_sem, cr, rep0]) rfl ?_
       unfold RepPost
       rw [HF.out]
       exact ⟨_, _, rfl, rdR_zero _, by have hb := HB.out; go_grown⟩
      have HRO := Lib.hid hro
      clear hro
      go_wp2_with fail
      refine (implReplayEncode_any ⟨v1, v2, v3, pi, z2, v4⟩ ⟨Ai, np, ci⟩ ⟨A2, m2, c2⟩ _ (HG.out.next HB.out) HRD0.out.rd).mono ?_
      rintro e w8 ⟨rfl, hb⟩
      replace KR := Lib.hid (KR.out.next hb)
      replace KO := Lib.hid (KO.out.next hb)
      replace HRD0 := Lib.hid (HRD0.out.next hb)
      replace HB := Lib.hid (below_next HB.out hb)
      clear hb co fo zo
      have co := fun o => KO.out.cell o
      have fo := fun o => KO.out.frozen o
      have zo := KO.out.lt
      have HTX := Lib.hid (show textW ⟨v1, v2, v3, pi, z2, v4⟩ = textW ⟨v1, v2, v3, pi, z2, v4⟩ from rfl)
      have HEN := Lib.hid (show decI s = if ((textW ⟨v1, v2, v3, pi, z2, v4⟩).toList == s.toList) = true then (⟨v1, v2, v3, pi, z2, v4⟩, true) else (rep0, false) by rw [HFR.out]; simp [endI, HRO.out])
      generalize textW ⟨v1, v2, v3, pi, z2, v4⟩ = T at *
      cases hcmp : (T.toList == s.toList)
      ·have HF := Lib.hid (show decI s = (rep0, false) by rw [HEN.out, hcmp]; rfl)
       have cr := fun o => KR.out.cell o
       have fr := fun o => KR.out.frozen o
       have zr := KR.out.lt
       go_wp2_with fail
       refine bodyPost_ret (v := .tuple #[repV rep0 ⟨none, 0, 0⟩ ⟨none, 0, 0⟩, .bool false]) (by simp [results, Tryz.results31, go_sem, cr, rep0]) rfl ?_
       unfold RepPost
       rw [HF.out]
       exact ⟨_, _, rfl, rdR_zero _, by have hb := HB.out; go_grown⟩
      have HFI := Lib.hid (show decI s = (⟨v1, v2, v3, pi, z2, v4⟩, true) by rw [HEN.out, hcmp]; rfl)
      have cr := fun o => KR.out.cell o
      have fr := fun o => KR.out.frozen o
      have zr := KR.out.lt
      go_wp2_with fail
      refine bodyPost_ret (v := .tuple #[repV ⟨v1, v2, v3, pi, z2, v4⟩ ⟨Ai, np, ci⟩ ⟨A2, m2, c2⟩, .bool true]) (by simp [results, Tryz.results31, go_sem, cr]) rfl ?_
      unfold RepPost
      rw [HFI.out]
      have q2 := fun v0 v1 v2 v3 v4 v5 => (((((((Only.refl w.heap.size w8).set_ (p := ⟨w.heap.size, 0, none⟩) (.inl rfl) v0).set_ (p := ⟨w.heap.size, 1, none⟩) (.inl rfl) v1).set_ (p := ⟨w.heap.size, 2, none⟩) (.inl rfl) v2).set_ (p := ⟨w.heap.size, 3, none⟩) (.inl rfl) v3).set_ (p := ⟨w.heap.size, 4, none⟩) (.inl rfl) v4).set_ (p := ⟨w.heap.size, 5, none⟩) (.inl rfl) v5)
      exact ⟨⟨Ai, np, ci⟩, ⟨A2, m2, c2⟩, rfl, HRD0.out.onlyT KR.out (by decide) (by decide) (q2 _ _ _ _ _ _), HB.out.trans ((q2 _ _ _ _ _ _).below (Nat.le_refl _) HB.out.size)⟩
end Go.Proofs.YtemnlheidghbmaaGreatDoor

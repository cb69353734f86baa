/-
  Lemmas and contracts: Id. No condition.
-/
import Derived.Test.YtemnlheidghbmaaGreatDoorKb9
import Derived.Test.YtemnlheidghbmaaGreatDoorKb14
import Derived.Test.YtemnlheidghbmaaGreatDoorKb18
import Derived.Test.YtemnlheidghbmaaGreatDoorKb23
namespace Go.Proofs.YtemnlheidghbmaaGreatDoor
open Go.RowKit Go.Sort
theorem Src.fst {w : World} {g T size m : Nat} {cur : Array Value} {cs : List Value} (h : Blk w g T cur) (ht : cur.toList.take (m * size) = cs) (hl : m * size ≤ cur.size) : Src w size (some ⟨g, 0, none⟩) m cs :=
 ⟨by rw [← ht, List.length_take, Array.length_toList]; omega, fun _ => ⟨_, rfl, fun j u hu => by
  rw [Addr.add_lit, Nat.zero_add, h.cell]
  rw [← ht, List.getElem?_take] at hu
  split at hu
  ·simpa using hu
  ·cases hu⟩⟩
theorem cellsX_rep_len {α : Type} {enc : α → List Value} {sz : Nat} (he : ∀ x, (enc x).length = sz) (k : Nat) (x : α) : (cellsX enc (List.replicate k x)).length = k * sz := by
 rw [cellsX_length he, List.length_replicate]
theorem over_take {cs vs : List Value} {a : Nat} (h : a ≤ cs.length) : (over cs a vs).take (a + vs.length) = cs.take a ++ vs := by
 unfold over
 rw [List.take_append_of_le_length (by simp; omega), List.take_of_length_le (by simp; omega)]
set_option maxRecDepth 1000000 in
set_option maxHeartbeats 4000000 in
theorem repeatN_any (g c : Nat) (x : Inp) (M : Nat) (w : World) (hr : Blk w g 80 (encIn x).toArray) (h1 : 1 ≤ M) (h2 : M ≤ 60) :
  Calls Tryz.prog 129 #[.slice (some ⟨g, 0, none⟩) 1 c, .int .i64 M] w fun e w' => ∃ b, e = .returned (.slice (some ⟨b, 0, none⟩) M M) ∧ Blk w' b 80 (cellsN (List.replicate M x)).toArray ∧ Below w.heap.size w w' := by
 obtain ⟨i0, hi0, hy0, hy1, hy2⟩ := info_parts infoN
 have hmk := run_make_rowN (P := Tryz.prog) 30 80 i0 _ Tryz.underlying30 hi0 hy0 .i64 .i64 M M (Nat.le_refl _) (by rw [hy2]; omega) (by omega) w
 have HI := Lib.hid hi0
 have HR := Lib.hid hr
 have HM1 := Lib.hid (show ∀ W, Calls Tryz.prog 180 #[.int .u64 (1 : Nat), .int .u64 (M : Nat)] W fun e w' => e = .returned (.tuple #[.int .u64 0, .int .u64 (M : Nat)]) ∧ W = w' by
  intro W
  refine (Tryz.bits_Mul 1 M (by omega) (by omega) W).mono ?_
  rintro e w' ⟨rfl, rfl⟩
  rw [show 1 * M / 18446744073709551616 = 0 by omega, show 1 * M % 18446744073709551616 = M by omega]
  exact ⟨rfl, rfl⟩)
 have HSZ := Lib.hid hy1
 clear hr hi0 hy0 hy1 hy2
 go_enter Tryz.func129, Tryz.ntmps129
 have hm0 : decide ((M : Int) < 0) = false := by simp
 have hmx : decide (9223372036854775807 < (M : Int)) = false := by simp; omega
 go_wp2_with (first | (go_at_call 180; refine (HM1.out _).mono ?_; rintro e w' ⟨rfl, rfl⟩))
 rw [HSZ.out]
 generalize hcs : madeCells _ (M * 3) = cs0
 have hsz : cs0.size = M * 3 := by rw [← hcs, size_madeCells]
 have hB0 := Blk.new w 80 cs0
 obtain ⟨w1, hr, hb, hg⟩ := copy_ex (P := Tryz.prog) (w := w.alloc (.cells cs0 80)) 30 80 3 w.heap.size 0 M (some ⟨g, 0, none⟩) 1 1 cs0 80 (encIn x) Tryz.underlying30 (by rw [HI.out]; simp [HSZ.out]) hB0 (by show Nat.min 1 M = 1; exact Nat.min_eq_left h1) (Src.blk (HR.out.alloc _) (by rfl)) (by intro h; cases h) (by rw [hsz]; show 0 + 3 ≤ M * 3; omega) (encIn_one x)
 simp only [hr, Result.andThen_ok]
 have HB1 := Lib.hid hb
 have HG1 := Lib.hid hg
 have HSC := Lib.hid hsz
 clear hr hb hg hB0 hmk hcs hsz
 go_wp2_with fail
 go_loopw [8] (fun nv wr => ∃ k : Nat, 1 ≤ k ∧ k ≤ M ∧ nv = .int .i64 k ∧ Hid (Below w.heap.size w wr ∧ ∃ cur, Blk wr w.heap.size 80 cur ∧ cur.size = M * 3 ∧ cur.toList.take (k * 3) = cellsN (List.replicate k x))) (fun nv _ => M - (intOf nv).toNat)
 case atStart => exact ⟨1, Nat.le_refl _, h1, rfl, ((Below.refl _ _).alloc (Nat.le_refl _) _).grown HG1.out (by simp) (fun q hq => by injection hq with hq; omega), _, HB1.out, by rw [List.size_toArray, over_length (by show 0 + 3 ≤ cs0.toList.length; rw [Array.length_toList, HSC.out]; omega), Array.length_toList, HSC.out], by
  have h := over_take (cs := cs0.toList) (vs := encIn x) (a := 0) (Nat.zero_le _)
  exact h⟩
 case round =>
  obtain ⟨k, hk1, hk, rfl, HQ⟩ := hrel
  obtain ⟨hB, cur, hblk, hcsz, hct⟩ := HQ.out
  by_cases hlt : k < M
  ·obtain ⟨m, hm⟩ : ∃ m, Nat.min k (M - k) = m := ⟨_, rfl⟩
   have hm1 : m ≤ k := by rw [← hm]; exact Nat.min_le_left _ _
   have hm2 : m ≤ M - k := by rw [← hm]; exact Nat.min_le_right _ _
   have hm3 : 1 ≤ m := by rw [← hm]; exact Nat.le_min.2 ⟨hk1, by omega⟩
   have hcl : (cellsN (List.replicate m x)).length = m * 3 := cellsX_rep_len encIn_len m x
   have hctm : cur.toList.take (m * 3) = cellsN (List.replicate m x) := by
    have h := congrArg (List.take (m * 3)) hct
    rw [List.take_take, Nat.min_eq_left (by omega)] at h
    rw [h]
    have hap : cellsN (List.replicate k x) = cellsN (List.replicate m x) ++ cellsN (List.replicate (k - m) x) := by
     show cellsX encIn _ = cellsX encIn _ ++ cellsX encIn _
     rw [← cellsX_append, List.replicate_append_replicate, show m + (k - m) = k by omega]
    rw [hap, List.take_append_of_le_length (by rw [hcl]; exact Nat.le_refl _), List.take_of_length_le (by rw [hcl]; exact Nat.le_refl _)]
   have HB := Lib.hid hB
   have HBK := Lib.hid hblk
   have HCS := Lib.hid hcsz
   have HCT := Lib.hid hct
   have HCM := Lib.hid hctm
   have HCL := Lib.hid hcl
   have HMM := Lib.hid hm
   clear hB hblk hcsz hct hctm hcl HQ hm
   go_upto_region 9 with (fail)
   have hlk : k * 3 + (cellsN (List.replicate m x)).length ≤ cur.toList.length := by rw [HCL.out, Array.length_toList, HCS.out]; omega
   have HLK := Lib.hid hlk
   clear hlk
   refine wp_region_growl 8 (by kernel_rfl) (by kernel_rfl) (by kernel_rfl) (fun a b => Only w.heap.size a b) (fun lq w' => Only w.heap.size wr w' ∧ Blk w' w.heap.size 80 (if lq 7 then (over cur.toList (k * 3) (cellsN (List.replicate m x))).toArray else cur)) (fun iq v w' => match iq with | 0 => (v = .int .i64 (k : Int)) | 1 => (v = .slice (some ⟨w.heap.size, 0, none⟩) M M) | 2 => (v = .int .i64 (k : Int)) | 3 => (v = .slice (some ⟨w.heap.size, k * 3, none⟩) (M - k) (M - k)) | 4 => (v = .slice (some ⟨w.heap.size, 0, none⟩) M M) | 5 => (v = .int .i64 (k : Int)) | 6 => (v = .slice (some ⟨w.heap.size, 0, none⟩) k M) | 7 => (v = .int .i64 (m : Int)) | _ => True) (fun sq => { tmps := #[.slice (some ⟨g, 0, none⟩) 1 c, .int .i64 (M : Int), undef, undef, .slice none 0 0, .int .u64 0, .int .u64 (M : Int), .slice (some ⟨w.heap.size, 0, none⟩) M M, .int .i64 (k : Int), .int .i64 (M : Int), .bool false, undef, .tuple #[.int .u64 0, .int .u64 (M : Int)], .slice (some ⟨g, 0, none⟩) 1 c, .int .i64 1, .int .u64 1, .int .i64 (M : Int), .int .u64 (M : Int), .tuple #[.int .u64 0, .int .u64 (M : Int)], .int .u64 0, .int .u64 (M : Int), .int .u64 0, .bool false, .bool false, .int .u64 (M : Int), .bool false, .bool false, undef, .int .u64 (M : Int), .int .i64 (M : Int), .slice (some ⟨w.heap.size, 0, none⟩) M M, .slice (some ⟨w.heap.size, 0, none⟩) M M, .slice (some ⟨g, 0, none⟩) 1 c, .int .i64 1, .int .i64 (k : Int), .slice (some ⟨w.heap.size, 0, none⟩) M M, .int .i64 (M : Int), .bool true, sq 0, sq 1, sq 2, sq 3, sq 4, sq 5, sq 6, sq 7, u46, undef], defers := [] }) (fun j => match j with | 0 => u38 | 1 => u39 | 2 => u40 | 3 => u41 | 4 => u42 | 5 => u43 | 6 => u44 | 7 => u45 | _ => undef) ?_ ?_ ?_ ?_
   ·rintro iq v a b hg h
    match iq, h with
    | 0, h => exact h
    | 1, h => exact h
    | 2, h => exact h
    | 3, h => exact h
    | 4, h => exact h
    | 5, h => exact h
    | 6, h => exact h
    | 7, h => exact h
    | (kq + 8), _ => exact trivial
   ·exact ⟨⟨rfl, rfl, rfl, Nat.le_refl _, fun _ _ _ => rfl⟩, HBK.out⟩
   ·intro lq sq w' iq oq hmq hiq hoq hJ hd Kq hK
    have hiq' : iq = 0 ∨ iq = 1 ∨ iq = 2 ∨ iq = 3 ∨ iq = 4 ∨ iq = 5 ∨ iq = 6 ∨ iq = 7 := by omega
    rcases hiq' with rfl | rfl | rfl | rfl | rfl | rfl | rfl | rfl
    ·cases (show some _ = some oq from hoq)
     have hK' := hK
     simp only [updV, updB, Nat.reduceEqDiff, ↓reduceIte] at hK'
     clear hK hd
     generalize sq 0 = x0 at *
     generalize sq 1 = x1 at *
     generalize sq 2 = x2 at *
     generalize sq 3 = x3 at *
     generalize sq 4 = x4 at *
     generalize sq 5 = x5 at *
     generalize sq 6 = x6 at *
     generalize sq 7 = x7 at *
     go_simp
     exact hK' _ _ (Only.refl _ _) hJ rfl
    ·cases (show some _ = some oq from hoq)
     have hK' := hK
     simp only [updV, updB, Nat.reduceEqDiff, ↓reduceIte] at hK'
     clear hK hd
     generalize sq 0 = x0 at *
     generalize sq 1 = x1 at *
     generalize sq 2 = x2 at *
     generalize sq 3 = x3 at *
     generalize sq 4 = x4 at *
     generalize sq 5 = x5 at *
     generalize sq 6 = x6 at *
     generalize sq 7 = x7 at *
     go_simp
     exact hK' _ _ (Only.refl _ _) hJ rfl
    ·cases (show some _ = some oq from hoq)
     have hK' := hK
     simp only [updV, updB, Nat.reduceEqDiff, ↓reduceIte] at hK'
     clear hK hd
     generalize sq 0 = x0 at *
     generalize sq 1 = x1 at *
     generalize sq 2 = x2 at *
     generalize sq 3 = x3 at *
     generalize sq 4 = x4 at *
     generalize sq 5 = x5 at *
     generalize sq 6 = x6 at *
     generalize sq 7 = x7 at *
     go_simp
     exact hK' _ _ (Only.refl _ _) hJ rfl
    ·cases (show some _ = some oq from hoq)
     obtain ⟨e1, d1⟩ := hd 1 (by kernel_rfl) (by decide)
     obtain ⟨e2, d2⟩ := hd 2 (by kernel_rfl) (by decide)
     have hK' := hK
     simp only [updV, updB, Nat.reduceEqDiff, ↓reduceIte] at hK'
     clear hK hd
     generalize sq 0 = x0 at *
     generalize sq 1 = x1 at *
     generalize sq 2 = x2 at *
     generalize sq 3 = x3 at *
     generalize sq 4 = x4 at *
     generalize sq 5 = x5 at *
     generalize sq 6 = x6 at *
     generalize sq 7 = x7 at *
     obtain rfl := d1
     obtain rfl := d2
     go_simp
     exact hK' _ _ (Only.refl _ _) hJ (by rw [if_neg (by omega)])
    ·cases (show some _ = some oq from hoq)
     have hK' := hK
     simp only [updV, updB, Nat.reduceEqDiff, ↓reduceIte] at hK'
     clear hK hd
     generalize sq 0 = x0 at *
     generalize sq 1 = x1 at *
     generalize sq 2 = x2 at *
     generalize sq 3 = x3 at *
     generalize sq 4 = x4 at *
     generalize sq 5 = x5 at *
     generalize sq 6 = x6 at *
     generalize sq 7 = x7 at *
     go_simp
     exact hK' _ _ (Only.refl _ _) hJ rfl
    ·cases (show some _ = some oq from hoq)
     have hK' := hK
     simp only [updV, updB, Nat.reduceEqDiff, ↓reduceIte] at hK'
     clear hK hd
     generalize sq 0 = x0 at *
     generalize sq 1 = x1 at *
     generalize sq 2 = x2 at *
     generalize sq 3 = x3 at *
     generalize sq 4 = x4 at *
     generalize sq 5 = x5 at *
     generalize sq 6 = x6 at *
     generalize sq 7 = x7 at *
     go_simp
     exact hK' _ _ (Only.refl _ _) hJ rfl
    ·cases (show some _ = some oq from hoq)
     obtain ⟨e4, d4⟩ := hd 4 (by kernel_rfl) (by decide)
     obtain ⟨e5, d5⟩ := hd 5 (by kernel_rfl) (by decide)
     have hK' := hK
     simp only [updV, updB, Nat.reduceEqDiff, ↓reduceIte] at hK'
     clear hK hd
     generalize sq 0 = x0 at *
     generalize sq 1 = x1 at *
     generalize sq 2 = x2 at *
     generalize sq 3 = x3 at *
     generalize sq 4 = x4 at *
     generalize sq 5 = x5 at *
     generalize sq 6 = x6 at *
     generalize sq 7 = x7 at *
     obtain rfl := d4
     obtain rfl := d5
     go_simp
     exact hK' _ _ (Only.refl _ _) hJ rfl
    ·cases (show some _ = some oq from hoq)
     obtain ⟨e3, d3⟩ := hd 3 (by kernel_rfl) (by decide)
     obtain ⟨e6, d6⟩ := hd 6 (by kernel_rfl) (by decide)
     have hK' := hK
     simp only [updV, updB, Nat.reduceEqDiff, ↓reduceIte] at hK'
     clear hK hd
     generalize sq 0 = x0 at *
     generalize sq 1 = x1 at *
     generalize sq 2 = x2 at *
     generalize sq 3 = x3 at *
     generalize sq 4 = x4 at *
     generalize sq 5 = x5 at *
     generalize sq 6 = x6 at *
     generalize sq 7 = x7 at *
     obtain rfl := d3
     obtain rfl := d6
     obtain ⟨h1J, h2J⟩ := hJ
     rw [hmq] at h2J
     have h3J : Blk w' w.heap.size 80 cur := h2J
     obtain ⟨w5, hr, hb, hg⟩ := copy_ex (P := Tryz.prog) (w := w') 30 80 3 w.heap.size (k * 3) (M - k) (some ⟨w.heap.size, 0, none⟩) k m cur 80 (cellsN (List.replicate m x)) Tryz.underlying30 (by rw [HI.out]; simp [HSZ.out]) h3J HMM.out (Src.fst h3J HCM.out (by rw [HCS.out]; omega)) (by intro h; cases h) (by have h := HLK.out; rw [Array.length_toList] at h; exact h) (cellsX_oneCell encIn_one _)
     go_simp
     exact hK' _ _ hg ⟨h1J.trans hg, hb⟩ rfl
   ·intro sq w' hJ hφ
    simp only [List.drop_succ_cons, List.drop_zero]
    have d0 := hφ 0 (by decide)
    have d7 := hφ 7 (by decide)
    clear hφ
    generalize sq 0 = x0 at *
    generalize sq 1 = x1 at *
    generalize sq 2 = x2 at *
    generalize sq 3 = x3 at *
    generalize sq 4 = x4 at *
    generalize sq 5 = x5 at *
    generalize sq 6 = x6 at *
    generalize sq 7 = x7 at *
    obtain rfl := d0
    obtain rfl := d7
    obtain ⟨lq, hlq, h1J, h2J⟩ := hJ
    rw [hlq 7 (by decide)] at h2J
    have H1 := Lib.hid h1J
    have H2 := Lib.hid (show Blk w' w.heap.size 80 (over cur.toList (k * 3) (cellsN (List.replicate m x))).toArray from h2J)
    clear h1J h2J hlq
    go_wp2_with fail
    refine ⟨⟨k + m, by omega, by omega, by go_num, HB.out.trans (H1.out.below (Nat.le_refl _) HB.out.size), _, H2.out, ?_, ?_⟩, by simp [intOf]; omega⟩
    ·rw [List.size_toArray, over_length HLK.out, Array.length_toList, HCS.out]
    ·have h := over_take (cs := cur.toList) (vs := cellsN (List.replicate m x)) (a := k * 3) (by rw [Array.length_toList, HCS.out]; omega)
     rw [HCL.out, ← Nat.add_mul, HCT.out] at h
     show List.take ((k + m) * 3) (over cur.toList (k * 3) (cellsN (List.replicate m x))) = cellsX encIn _
     rw [h, ← List.replicate_append_replicate, cellsX_append]
  ·have hkM : k = M := by omega
   subst hkM
   have HB := Lib.hid hB
   have HBK := Lib.hid (show Blk wr w.heap.size 80 (cellsN (List.replicate k x)).toArray by
    rw [List.take_of_length_le (by rw [Array.length_toList, hcsz]; exact Nat.le_refl _)] at hct
    rw [← hct]
    exact hblk)
   clear hB hblk hcsz hct HQ
   go_wp2_with fail
   go_ret
   exact ⟨_, rfl, HBK.out, HB.out⟩
set_option maxRecDepth 1000000 in
set_option maxHeartbeats 4000000 in
theorem implReplayInputs_any (A : Option Addr) (n c : Nat) (ps : List Ent) (w : World) (hr : RdE w A n ps) (hn : n ≤ 1048576) :
  Calls Tryz.prog 76 #[.slice A n c] w (InsPost w.heap.size (insW ps) w) := by
 obtain ⟨i0, hi0, hy0, hy1, hy2⟩ := info_parts infoN
 have HI := Lib.hid hi0
 have HZ := Lib.hid hy0
 have HS := Lib.hid hy1
 have HBY := Lib.hid hy2
 clear hi0 hy0 hy1 hy2
 have HR := Lib.hid hr
 clear hr
 go_enter Tryz.func76, Tryz.ntmps76
 go_wp2_with fail
 go_loopw [4, 11] (fun out i wr => ∃ (k m : Nat) (A' : Option Addr) (c' : Nat) (acc : List Inp), k ≤ n ∧ m ≤ 60 ∧ i = .int .i64 k ∧ out = .slice A' m c' ∧ Hid (Below w.heap.size w wr ∧ Ow w.heap.size wr 80 3 A' m c' (cellsN acc) ∧ acc.length = m ∧ insW ps = insGo (ps.drop k) (prevOf ps k) acc)) (fun _ i _ => n - (intOf i).toNat)
 case atStart => exact ⟨0, 0, _, 0, [], Nat.zero_le _, Nat.zero_le _, rfl, rfl, Below.refl _ _, Ow.bare _ _ _ _ _, rfl, rfl⟩
 case round =>
  obtain ⟨k, m, A', c', acc, hk, hm, rfl, rfl, HQ⟩ := hrel
  obtain ⟨hB, hO, hAL, hGO⟩ := HQ.out
  by_cases hlt : k < n
  ·obtain ⟨b, off, e, hA, hb, he, hc0, hc1⟩ := (HR.out.below hB).at_ hlt
   subst hA
   have HST := Lib.hid (insGo_step he acc)
   have HE := Lib.hid he
   have HGO := Lib.hid hGO
   have HB := Lib.hid hB
   have HOW := Lib.hid hO
   have HAL := Lib.hid hAL
   obtain ⟨e1, e2⟩ := e
   clear he hB hO hAL hGO HQ
   go_wp2_with fail
   refine (implInputOf_any e1 _).mono ?_
   rintro ee w1 ⟨rfl, hb1⟩
   have KP := Lib.hid ((Blk.new wr 100 #[.int .i64 e1, .int .i64 e2]).next hb1)
   replace HOW := Lib.hid (Ow.next (HOW.out.alloc _) hb1)
   replace HB := Lib.hid (below_next (HB.out.alloc HB.out.size _) hb1)
   have hzw : wr.heap.size < w1.heap.size := KP.out.lt
   clear hb1 hc0 hc1
   obtain ⟨x, hx⟩ : ∃ x, (inOf e1).1 = x := ⟨_, rfl⟩
   obtain ⟨ok, hok⟩ : ∃ o, (inOf e1).2 = o := ⟨_, rfl⟩
   rw [hx, hok]
   have HX := Lib.hid hx
   have HOK := Lib.hid hok
   clear hx hok
   obtain ⟨xs, xp, xz⟩ := x
   go_upto_region 6 with (fail)
   refine into_world (fun W => Below w1.heap.size w1 W ∧ w1.heap.size < W.heap.size ∧ Blk W w1.heap.size 80 #[.int .i64 xs, .int .i64 xp, .bool xz]) ⟨ba (Below.refl _ _), by simp, Blk.new _ _ _⟩ ?_
   rintro W ⟨hb, hzW, hkx⟩
   have KX := Lib.hid hkx
   replace KP := Lib.hid (KP.out.next hb)
   replace HOW := Lib.hid (Ow.next HOW.out hb)
   replace HB := Lib.hid (below_next HB.out hb)
   have r1 := fun d os => cell_regrown (KP.out.cell 0) d os
   have r2 := fun d os => cell_regrown (KP.out.cell 1) d os
   clear hb hkx
   have h60 : IntKind.i64.wrap (60 - (m : Int)) = 60 - (m : Int) := IntWalk.i64_in _ (by omega)
   have HSE := Lib.hid (show insW ps = if partBad (prevOf ps k) m (e1, e2) then ([], false) else insGo (ps.drop (k + 1)) (prevOf ps (k + 1)) (acc ++ List.replicate e2.toNat (inOf e1).1) by rw [HGO.out, HST.out, HAL.out])
   cases ok
   ·have HF := Lib.hid (show insW ps = ([], false) by rw [HSE.out, if_pos (show partBad _ _ _ from Or.inl HOK.out)])
    refine wp_region_qb (by kernel_rfl) (by kernel_rfl) ?_
    repeat (go_big_quiet_step ((fail)))
    refine wpQuiet_nil ?_
    intro w4 hb
    replace HB := Lib.hid (below_next HB.out hb)
    clear r1 r2 hb
    go_wp2_with fail
    go_ret2
    unfold InsPost
    rw [HF.out]
    exact ⟨_, 0, rfl, Ow.bare _ _ _ _ _, HB.out⟩
   ·cases h2 : inR e2 1 (60 - (m : Int))
    ·have HF := Lib.hid (show insW ps = ([], false) by
      rw [HSE.out, if_pos (show partBad _ _ _ from Or.inr (Or.inl (by simp [inR] at h2; simp only; omega)))])
     have HC := Lib.hid (fun (d : Nat) (os : Array Obj) => inRange_any e2 1 (60 - (m : Int)) (grow (redrawn W d) os))
     rw [h2] at HC
     clear h2
     refine wp_region_qb (by kernel_rfl) (by kernel_rfl) ?_
     repeat (go_big_quiet_step ((go_at_call 50; exact Calls.regrown_of ((HC.out _ _).mono fun e w' h => ⟨h.1, by rw [← h.2]; exact Below.refl _ _⟩))))
     refine wpQuiet_nil ?_
     intro w4 hb
     replace HB := Lib.hid (below_next HB.out hb)
     clear r1 r2 hb
     go_wp2_with fail
     go_ret2
     unfold InsPost
     rw [HF.out]
     exact ⟨_, 0, rfl, Ow.bare _ _ _ _ _, HB.out⟩
    ·have HC := Lib.hid (fun (d : Nat) (os : Array Obj) => inRange_any e2 1 (60 - (m : Int)) (grow (redrawn W d) os))
     rw [h2] at HC
     have hbnd : 1 ≤ e2 ∧ e2 ≤ 60 - (m : Int) := by simp [inR] at h2; omega
     clear h2
     by_cases hk0 : k = 0
     ·have hk0' : decide ((0 : Int) < (k : Int)) = false := by simp; omega
      have hk0n : decide (0 < k) = false := by simp; omega
      have hk0m : ¬ 0 < k := by omega
      have HF := Lib.hid (show insW ps = insGo (ps.drop (k + 1)) (prevOf ps (k + 1)) (acc ++ List.replicate e2.toNat ⟨xs, xp, xz⟩) by
       rw [HSE.out, if_neg, HX.out]
       intro h
       rcases h with h | h | h
       ·rw [HOK.out] at h; cases h
       ·exact h hbnd
       ·simp [prevOf, hk0] at h)
      have HK0 := Lib.hid hk0
      clear hk0
      refine wp_region_qb (by kernel_rfl) (by kernel_rfl) ?_
      repeat (go_big_quiet_step ((go_at_call 50; exact Calls.regrown_of ((HC.out _ _).mono fun e w' h => ⟨h.1, by rw [← h.2]; exact Below.refl _ _⟩))))
      refine wpQuiet_nil ?_
      intro w4 hb
      replace KX := Lib.hid (KX.out.next hb)
      replace KP := Lib.hid (KP.out.next hb)
      replace HOW := Lib.hid (Ow.next HOW.out hb)
      replace HB := Lib.hid (below_next HB.out hb)
      have hs4 : w1.heap.size < w4.heap.size := KX.out.lt
      have hz4 := HB.out.size
      clear r1 r2 hb HC
      obtain ⟨M, rfl⟩ := Int.eq_ofNat_of_zero_le (show 0 ≤ e2 by omega)
      have hMb : M ≤ 60 - m := by omega
      have hM1 : 1 ≤ M := by omega
      have cx := fun o => KX.out.cell o
      have fx := fun o => KX.out.frozen o
      have zx := KX.out.lt
      have cp := fun o => KP.out.cell o
      have fp := fun o => KP.out.frozen o
      have zp := KP.out.lt
      go_wp2_with fail
      refine (repeatN_any w4.heap.size 1 ⟨xs, xp, xz⟩ M _ (Blk.new _ _ _) hM1 (by omega)).mono ?_
      rintro e w5 ⟨rb, rfl, hrb, hb5⟩
      replace HOW := Lib.hid (Ow.next (HOW.out.alloc (.cells (encIn ⟨xs, xp, xz⟩).toArray 80)) hb5)
      replace HB := Lib.hid (below_next (HB.out.alloc HB.out.size _) hb5)
      have HRB := Lib.hid hrb
      have hz5 := HB.out.size
      clear hrb hb5
      go_wp2_with (at_builtin; refine wpList_append_ow _ rfl (.tmp 48) (.tmp 53) _ rfl w.heap.size 80 i0 _ 3 24 Tryz.underlying30 HI.out HZ.out HS.out HBY.out rfl (by omega) _ m c' _ rfl HOW.out _ M M (cellsN (List.replicate M ⟨xs, xp, xz⟩)) rfl (Src.blk HRB.out (cellsX_rep_len encIn_len _ _)) (cellsX_oneCell encIn_one _) (by unfold maxLen; omega) (by omega) (by omega) ?_; intro A5 c5 w6 hown5 hg5 _; have HO5 := Lib.hid hown5; have HG5 := Lib.hid hg5; clear hown5 hg5)
      refine ⟨⟨k + 1, m + M, A5, c5, acc ++ List.replicate M ⟨xs, xp, xz⟩, by omega, by omega, by go_num, rfl, HOW.out.grown HG5.out HB.out (Nat.le_refl _) HB.out.size, ?_, by simp [HAL.out], HF.out⟩, by simp [intOf]; omega⟩
      show Ow _ _ _ 3 _ _ _ (cellsX encIn (acc ++ List.replicate M ⟨xs, xp, xz⟩))
      rw [cellsX_append]
      exact HO5.out
     ·obtain ⟨j, hkj⟩ : ∃ j, k = j + 1 := ⟨k - 1, by omega⟩
      obtain ⟨b', off', e', hA', hbw', he', hw1', hw2'⟩ := HR.out.at_ (k := j) (by omega)
      obtain ⟨rfl, rfl⟩ : b = b' ∧ off = off' := by simpa using hA'
      have hcp := ((bcell HB.out).1 b _ hbw').trans hw1'
      have rp := fun d os => cell_regrown hcp d os
      have hij : IntKind.i64.wrap ((k : Int) - 1) = (j : Int) := by rw [IntWalk.i64_in _ (by omega)]; omega
      have hj0 : decide ((0 : Int) < (k : Int)) = true := by simp; omega
      have hj0n : decide (0 < k) = true := by simp; omega
      have hj0m : 0 < k := by omega
      have HPR := Lib.hid (show prevOf ps k = some e'.1 by rw [hkj]; simp [prevOf, he'])
      have HKJ := Lib.hid hkj
      have hjn : j < n := by omega
      clear hcp hw1' hw2' hA' he' hk0 hkj
      by_cases hpe : e'.1 = e1
      ·have hpe' : (e'.1 == e1) = true := by simpa using hpe
       have HF := Lib.hid (show insW ps = ([], false) by
        rw [HSE.out, if_pos (show partBad _ _ _ from Or.inr (Or.inr (by rw [HPR.out, hpe])))])
       clear hpe
       refine wp_region_qb (by kernel_rfl) (by kernel_rfl) ?_
       repeat (go_big_quiet_step ((go_at_call 50; exact Calls.regrown_of ((HC.out _ _).mono fun e w' h => ⟨h.1, by rw [← h.2]; exact Below.refl _ _⟩))))
       refine wpQuiet_nil ?_
       intro w4 hb
       replace HB := Lib.hid (below_next HB.out hb)
       clear r1 r2 hb
       go_wp2_with fail
       go_ret2
       unfold InsPost
       rw [HF.out]
       exact ⟨_, 0, rfl, Ow.bare _ _ _ _ _, HB.out⟩
      ·have hpe' : (e'.1 == e1) = false := by simpa using hpe
       have HF := Lib.hid (show insW ps = insGo (ps.drop (k + 1)) (prevOf ps (k + 1)) (acc ++ List.replicate e2.toNat ⟨xs, xp, xz⟩) by
        rw [HSE.out, if_neg, HX.out]
        intro h
        rcases h with h | h | h
        ·rw [HOK.out] at h; cases h
        ·exact h hbnd
        ·rw [HPR.out] at h
         injection h with h
         exact hpe h)
       clear hpe
       refine wp_region_qb (by kernel_rfl) (by kernel_rfl) ?_
       repeat (go_big_quiet_step ((go_at_call 50; exact Calls.regrown_of ((HC.out _ _).mono fun e w' h => ⟨h.1, by rw [← h.2]; exact Below.refl _ _⟩))))
       refine wpQuiet_nil ?_
       clear rp
       intro w4 hb
       replace KX := Lib.hid (KX.out.next hb)
       replace KP := Lib.hid (KP.out.next hb)
       replace HOW := Lib.hid (Ow.next HOW.out hb)
       replace HB := Lib.hid (below_next HB.out hb)
       have hs4 : w1.heap.size < w4.heap.size := KX.out.lt
       have hz4 := HB.out.size
       clear r1 r2 hb HC
       obtain ⟨M, rfl⟩ := Int.eq_ofNat_of_zero_le (show 0 ≤ e2 by omega)
       have hMb : M ≤ 60 - m := by omega
       have hM1 : 1 ≤ M := by omega
       have cx := fun o => KX.out.cell o
       have fx := fun o => KX.out.frozen o
       have zx := KX.out.lt
       have cp := fun o => KP.out.cell o
       have fp := fun o => KP.out.frozen o
       have zp := KP.out.lt
       go_wp2_with fail
       refine (repeatN_any w4.heap.size 1 ⟨xs, xp, xz⟩ M _ (Blk.new _ _ _) hM1 (by omega)).mono ?_
       rintro e w5 ⟨rb, rfl, hrb, hb5⟩
       replace HOW := Lib.hid (Ow.next (HOW.out.alloc (.cells (encIn ⟨xs, xp, xz⟩).toArray 80)) hb5)
       replace HB := Lib.hid (below_next (HB.out.alloc HB.out.size _) hb5)
       have HRB := Lib.hid hrb
       have hz5 := HB.out.size
       clear hrb hb5
       go_wp2_with (at_builtin; refine wpList_append_ow _ rfl (.tmp 48) (.tmp 53) _ rfl w.heap.size 80 i0 _ 3 24 Tryz.underlying30 HI.out HZ.out HS.out HBY.out rfl (by omega) _ m c' _ rfl HOW.out _ M M (cellsN (List.replicate M ⟨xs, xp, xz⟩)) rfl (Src.blk HRB.out (cellsX_rep_len encIn_len _ _)) (cellsX_oneCell encIn_one _) (by unfold maxLen; omega) (by omega) (by omega) ?_; intro A5 c5 w6 hown5 hg5 _; have HO5 := Lib.hid hown5; have HG5 := Lib.hid hg5; clear hown5 hg5)
       refine ⟨⟨k + 1, m + M, A5, c5, acc ++ List.replicate M ⟨xs, xp, xz⟩, by omega, by omega, by go_num, rfl, HOW.out.grown HG5.out HB.out (Nat.le_refl _) HB.out.size, ?_, by simp [HAL.out], HF.out⟩, by simp [intOf]; omega⟩
       show Ow _ _ _ 3 _ _ _ (cellsX encIn (acc ++ List.replicate M ⟨xs, xp, xz⟩))
       rw [cellsX_append]
       exact HO5.out
  ·have hkn : k = n := by omega
   subst hkn
   have HF := Lib.hid (show insW ps = (acc, true) by rw [hGO, List.drop_of_length_le (by rw [HR.out.len]; exact Nat.le_refl _)]; rfl)
   have HB := Lib.hid hB
   have HOW := Lib.hid hO
   have HAL := Lib.hid hAL
   clear hB hO hAL hGO HQ
   go_wp2_with fail
   go_ret2
   unfold InsPost
   rw [HF.out]
   exact ⟨A', c', by simp only [HAL.out]; rfl, by simp only [HAL.out]; exact HOW.out, HB.out⟩
end Go.Proofs.YtemnlheidghbmaaGreatDoor

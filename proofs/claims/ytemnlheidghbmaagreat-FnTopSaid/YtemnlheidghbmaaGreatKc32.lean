/-
  Lemmas and contracts: InE It. No condition.
-/
import Derived.Test.YtemnlheidghbmaaGreatKc3
import Derived.Test.YtemnlheidghbmaaGreatKc11
import Derived.Test.YtemnlheidghbmaaGreatKc23
namespace Go.Proofs.YtemnlheidghbmaaGreat
open Go.RowKit Go.Sort
theorem Src.keep_block {w w' : World} {size m g off : Nat} {news : List Value} (h : Src w size (some ⟨g, off, none⟩) m news) (hk : ∀ i, i = g → w'.heap[i]? = w.heap[i]?) : Src w' size (some ⟨g, off, none⟩) m news :=
 ⟨h.1, fun hm => by
  obtain ⟨ad, e, hc⟩ := h.2 hm
  injection e with e
  subst e
  refine ⟨_, rfl, fun j u hu => ?_⟩
  have h1 := hc j u hu
  rw [Addr.add_lit] at h1 ⊢
  rw [World.cell?_of_block (w := w) (hk g rfl)]
  exact h1⟩
end Go.Proofs.YtemnlheidghbmaaGreat
namespace Go.Proofs.YtemnlheidghbmaaGreat
open Go.RowKit Go.Sort
theorem grown_of_below {w w' : World} (h : Below w.heap.size w w') (o : Option Nat) : w.grownBy w' o := ⟨h.os, h.tape, h.output, h.size, fun i hi _ => h.block i hi⟩
set_option maxRecDepth 100000 in
set_option maxHeartbeats 2000000 in
theorem insT_end (B : Nat) (A : Option Addr) (n c : Nat) (xs vs : List Value) (gv vc : Nat) (w : World) (hO : Ow B w 44 12 A n c xs) (hv : Src w 12 (some ⟨gv, 0, none⟩) 1 vs) (h1 : ∀ u ∈ vs, u.oneCell' = true) (hn : n ≤ 1048576) (hB : B ≤ w.heap.size) :
  Calls Tryz.prog 26 #[.slice A n c, .int .i64 n, .slice (some ⟨gv, 0, none⟩) 1 vc] w fun e w' => ∃ A' c', e = .returned (.slice A' (n + 1) c') ∧ Ow B w' 44 12 A' (n + 1) c' (xs ++ vs) ∧ Below B w w' ∧ w.grownBy w' (ownB A c) := by
 obtain ⟨i0, hi0, hz0, hz1, hz2⟩ := info_parts infoT
 have HI := Lib.hid hi0
 have HZ := Lib.hid hz0
 have HS := Lib.hid hz1
 have HBY := Lib.hid hz2
 clear hi0 hz0 hz1 hz2
 have hle := hO.le
 have HO := Lib.hid hO
 have HV := Lib.hid hv
 have H1 := Lib.hid h1
 clear hO hv h1
 cases A with
 | none =>
  have hc0 : c = 0 := by
   rcases Nat.eq_zero_or_pos c with h | h
   ·exact h
   ·obtain ⟨_, _, h1, _⟩ := HO.out.blk h; cases h1
  subst hc0
  obtain rfl : n = 0 := by omega
  go_enter Tryz.func26, Tryz.ntmps26
  go_wp2_with (at_builtin; refine wpList_append_ow _ rfl (.tmp 23) (.tmp 24) _ rfl B 44 i0 _ 12 144 Tryz.underlying23 HI.out HZ.out HS.out HBY.out rfl (by omega) _ 0 0 _ rfl HO.out _ 1 vc vs rfl HV.out H1.out (by unfold maxLen; omega) (by omega) (by omega) ?_; intro A2 c2 w2 hown2 hg2 _)
  have HO2 := Lib.hid hown2
  have HG := Lib.hid hg2
  clear hown2 hg2
  go_wp2
  go_ret
  exact ⟨A2, c2, rfl, HO2.out, HO.out.grown HG.out (Below.refl _ _) (Nat.le_refl _) hB, HG.out⟩
 | some ad =>
  rcases Nat.eq_or_lt_of_le hle with rfl | hlt
  rotate_left
  have hcn : ¬ c = n := by omega
  all_goals
   go_enter Tryz.func26, Tryz.ntmps26
   go_wp2_with (at_builtin; refine wpList_append_ow _ rfl (.tmp 23) (.tmp 24) _ rfl B 44 i0 _ 12 144 Tryz.underlying23 HI.out HZ.out HS.out HBY.out rfl (by omega) _ _ _ _ rfl HO.out _ 1 vc vs rfl HV.out H1.out (by unfold maxLen; omega) (by omega) (by omega) ?_; intro A2 c2 w2 hown2 hg2 _)
   have HO2 := Lib.hid hown2
   have HG := Lib.hid hg2
   clear hown2 hg2
   go_wp2
   go_ret
   exact ⟨A2, c2, rfl, HO2.out, HO.out.grown HG.out (Below.refl _ _) (Nat.le_refl _) hB, HG.out⟩
set_option maxRecDepth 100000 in
set_option maxHeartbeats 2000000 in
theorem insT_grow (B g : Nat) (n c k : Nat) (xs vs : List Value) (gv vc : Nat) (w : World) (hO : Ow B w 44 12 (some ⟨g, 0, none⟩) n c xs) (hv : Src w 12 (some ⟨gv, 0, none⟩) 1 vs) (h1 : ∀ u ∈ vs, u.oneCell' = true) (h2 : ∀ u ∈ xs, u.oneCell' = true) (hk : k < n) (hc : c < n + 1) (hn : n ≤ 1048576) (hB : B ≤ w.heap.size) :
  Calls Tryz.prog 26 #[.slice (some ⟨g, 0, none⟩) n c, .int .i64 k, .slice (some ⟨gv, 0, none⟩) 1 vc] w fun e w' => ∃ A' c', e = .returned (.slice A' (n + 1) c') ∧ Ow B w' 44 12 A' (n + 1) c' (xs.take (k * 12) ++ vs ++ xs.drop (k * 12)) ∧ Below B w w' ∧ w.grownBy w' (ownB (some ⟨g, 0, none⟩) c) := by
 obtain ⟨i0, hi0, hz0, hz1, hz2⟩ := info_parts infoT
 have hsz : (Tryz.prog.info? 44).map (·.size) = some 12 := by rw [hi0]; simp [hz1]
 have HI := Lib.hid hi0
 have HZ := Lib.hid hz0
 have HS := Lib.hid hz1
 have HBY := Lib.hid hz2
 have HSZ := Lib.hid hsz
 clear hi0 hz0 hz1 hz2 hsz
 have hle := hO.le
 have hxl := hO.len
 have hvl := hv.1
 have hs0 : Src w 12 (some ⟨g, 0, none⟩) k (xs.take (k * 12)) := by
  refine ⟨by rw [List.length_take, hxl]; omega, fun _ => ⟨_, rfl, fun j u hu => ?_⟩⟩
  rw [List.getElem?_take] at hu
  split at hu
  ·obtain ⟨ad, had, hcell⟩ := hO.src.2 (by omega)
   injection had with had
   rw [had]
   exact hcell j u hu
  ·cases hu
 have hs1 : Src w 12 (some ⟨g, k * 12, none⟩) (n - k) (xs.drop (k * 12)) := by
  refine ⟨by rw [List.length_drop, hxl, Nat.sub_mul], fun _ => ⟨_, rfl, fun j u hu => ?_⟩⟩
  rw [List.getElem?_drop] at hu
  obtain ⟨ad, had, hcell⟩ := hO.src.2 (by omega)
  injection had with had
  have := hcell _ u hu
  rw [← had, Addr.add_lit] at this
  rw [Addr.add_lit]
  simpa using this
 have HO := Lib.hid hO
 have HV := Lib.hid hv
 have H1 := Lib.hid h1
 have H2 := Lib.hid (fun u hu => h2 u (List.mem_of_mem_drop hu) : ∀ u ∈ xs.drop (k * 12), u.oneCell' = true)
 have HS0 := Lib.hid hs0
 have HS1 := Lib.hid hs1
 have HXL := Lib.hid hxl
 have HVL := Lib.hid hvl
 clear hO hv h1 h2 hs0 hs1 hxl hvl
 obtain ⟨N, hN⟩ : ∃ N, N = n + 1 := ⟨_, rfl⟩
 obtain ⟨K, hK⟩ : ∃ K, K = k + 1 := ⟨_, rfl⟩
 have q1 : IntKind.i64.wrap ((n : Int) + 1) = (N : Int) := by rw [IntWalk.i64_in _ (by omega), hN]; push_cast; rfl
 have q2 : IntKind.i64.wrap ((k : Int) + 1) = (K : Int) := by rw [IntWalk.i64_in _ (by omega), hK]; push_cast; rfl
 have q3 : (c : Int) < N := by omega
 have q4 : (k : Int) ≤ n := by omega
 have q5 : (k : Int) ≤ N := by omega
 have q6 : (K : Int) ≤ N := by omega
 obtain ⟨l, hl⟩ : ∃ l, l = N - k := ⟨_, rfl⟩
 have q7 : IntKind.i64.wrap ((N : Int) - k) = (l : Int) := by rw [IntWalk.i64_in _ (by omega)]; omega
 have q8 : ¬ (k : Int) = n := by omega
 have q9 : k ≤ n := by omega
 have q10 : k ≤ c := by omega
 have q11 : ¬ c = k := by omega
 have q12 : K ≤ N := by omega
 have q13 : k ≤ N := by omega
 have q14 : k + l = N := by omega
 have q15 : 0 < l := by omega
 have q16 : N ≤ 1099511627777 := by omega
 have q19 : N ≤ 1048577 := by omega
 have q17 : c < N := by omega
 have q18 : K < N := by omega
 have HN := Lib.hid hN
 have HK := Lib.hid hK
 have HL := Lib.hid hl
 have HQ14 := Lib.hid q14
 clear hN hK hl q14
 go_enter Tryz.func26, Tryz.ntmps26
 go_wp2_with (at_builtin; refine wpList_append_make _ rfl (.tmp 34) (.tmp 39) _ _ rfl 44 i0 _ 12 144 .i64 .i64 Tryz.underlying23 Tryz.underlying3 HI.out HZ.out HS.out HBY.out rfl (by omega) _ k c _ rfl HS0.out (by simp) l N rfl q15 HQ14.out q17 (by omega) q16 ?_; intro G ROW w2 hG1 hG2 hR1 hR2 hb2 hw2)
 have r1 : ¬ G = k := by omega
 have r2 : ¬ G = K := by omega
 have r3 : N ≤ G := hG1
 have r4 : k ≤ G := by omega
 have r5 : K ≤ G := by omega
 have HR1 := Lib.hid hR1
 have HR2 := Lib.hid hR2
 have HB2 := Lib.hid hb2
 have HW2 := Lib.hid hw2
 have HV2 := Lib.hid (HV.out.below hw2)
 have HS2 := Lib.hid (HS1.out.below hw2)
 have hf1 : k * 12 + vs.length ≤ ROW.size := by rw [HVL.out, HR1.out, ← Nat.add_mul]; exact Nat.mul_le_mul_right _ (by omega)
 have hm1 : Nat.min 1 (N - k) = 1 := Nat.min_eq_left (by omega)
 have HF1 := Lib.hid hf1
 have HM1 := Lib.hid hm1
 clear hR1 hR2 hb2 hw2 hf1 hm1
 obtain ⟨w3, hr3, hb3, hg3⟩ := copy_ex (P := Tryz.prog) w2 23 44 12 w.heap.size (k * 12) (N - k) (some ⟨gv, 0, none⟩) 1 1 ROW 44 vs Tryz.underlying23 HSZ.out HB2.out HM1.out HV2.out (by simp) HF1.out H1.out
 simp only [hr3, Result.andThen_ok]
 clear hr3
 have hw3 : Go.RowKit.Below w.heap.size w2 w3 := ⟨hg3.os, hg3.tape, hg3.output, hg3.size, fun i hi => hg3.block i (Nat.lt_of_lt_of_le hi HW2.out.size) (by intro e; injection e with e; omega)⟩
 have HB3 := Lib.hid hb3
 have HW3 := Lib.hid (HW2.out.trans hw3)
 have HS3 := Lib.hid (HS1.out.below (HW2.out.trans hw3))
 clear hb3 hg3 hw3
 have hdl : (xs.drop (k * 12)).length = (n - k) * 12 := HS1.out.1
 have ho1 : (over ROW.toList (k * 12) vs).length = ROW.size := by rw [over_length (by simpa using HF1.out)]; simp
 have hf2 : K * 12 + (xs.drop (k * 12)).length ≤ ((over ROW.toList (k * 12) vs).toArray).size := by
  rw [hdl, ← Nat.add_mul]
  simp only [List.size_toArray, ho1, HR1.out]
  have h1 := HK.out
  have h2 := HN.out
  exact Nat.mul_le_mul_right _ (by omega)
 have hm2 : Nat.min (n - k) (N - K) = n - k := by
  have h1 := HK.out
  have h2 := HN.out
  rw [h1, h2]; simp
 have HF2 := Lib.hid hf2
 have HM2 := Lib.hid hm2
 have HDL := Lib.hid hdl
 have HO1 := Lib.hid ho1
 clear hdl ho1 hf2 hm2
 go_wp2_with fail
 go_still_tail 8, (by kernel_rfl)
 refine wpList_copy_blk _ rfl (.tmp 50) (.tmp 53) _ rfl 44 12 w.heap.size (K * 12) _ _ _ (n - k) _ (n - k) _ 44 _ rfl rfl Tryz.underlying23 HSZ.out HB3.out.drew HM2.out HS3.out.drew (by simp) HF2.out H2.out ?_
 intro w4 hb4 hg4
 all_goals
  have hw4 : Go.RowKit.Below w.heap.size w3 w4 := ⟨hg4.os, hg4.tape, hg4.output, hg4.size, fun i hi => hg4.block i (Nat.lt_of_lt_of_le hi HW3.out.size) (by intro e; injection e with e; omega)⟩
  have HB4 := Lib.hid hb4
  have HW4 := Lib.hid (HW3.out.trans hw4)
  clear hb4 hg4 hw4
  go_wp2_with fail
  go_ret
  have e1 := HN.out
  have e2 := HK.out
  have e3 : K * 12 = k * 12 + vs.length := by rw [e2, HVL.out, Nat.add_mul]
  have e4 : (n + 1) * 12 = k * 12 + vs.length + (xs.drop (k * 12)).length := by rw [HVL.out, HDL.out, ← Nat.add_mul, ← Nat.add_mul]; congr 1; omega
  refine ⟨_, G, by rw [← e1]; rfl, ?_, HW4.out.mono hB, grown_of_below HW4.out _⟩
  refine Ow.mk_ (by have f1 := HXL.out; have f2 := HVL.out; simp only [List.length_append, List.length_take, List.length_drop]; omega) hB HB4.out (by omega) hG2 ?_ ?_
  ·have h := HF2.out
   have h' := HO1.out
   simp only [List.size_toArray] at h ⊢
   rw [over_length h, h', HR1.out]
  ·have h : k * 12 ≤ ROW.toList.length := by have := HF1.out; simp; omega
   simp only [e3, e4]
   rw [over_then h, HR2.out, List.append_assoc]
set_option maxRecDepth 100000 in
set_option maxHeartbeats 2000000 in
theorem insT_shift (B g : Nat) (n c k : Nat) (xs vs : List Value) (gv vc : Nat) (w : World) (tv : TypeId) (cv : Array Value) (hO : Ow B w 44 12 (some ⟨g, 0, none⟩) n c xs) (hb : Blk w gv tv cv) (hv : Src w 12 (some ⟨gv, 0, none⟩) 1 vs) (hne : g ≠ gv) (h1 : ∀ u ∈ vs, u.oneCell' = true) (h2 : ∀ u ∈ xs, u.oneCell' = true) (hk : k < n) (hc : n + 1 ≤ c) (hn : n ≤ 1048576) (hB : B ≤ w.heap.size) :
  Calls Tryz.prog 26 #[.slice (some ⟨g, 0, none⟩) n c, .int .i64 k, .slice (some ⟨gv, 0, none⟩) 1 vc] w fun e w' => ∃ A' c', e = .returned (.slice A' (n + 1) c') ∧ Ow B w' 44 12 A' (n + 1) c' (xs.take (k * 12) ++ vs ++ xs.drop (k * 12)) ∧ Below B w w' ∧ w.grownBy w' (ownB (some ⟨g, 0, none⟩) c) := by
 obtain ⟨i0, hi0, hz0, hz1, hz2⟩ := info_parts infoT
 have hsz : (Tryz.prog.info? 44).map (·.size) = some 12 := by rw [hi0]; simp [hz1]
 have HSZ := Lib.hid hsz
 have hso : ∀ W : World, (Go.sizeOf 44).run Tryz.prog W = .ok 12 W := fun W => by simp [sizeOf, typeInfo, hi0, hz1]
 clear hi0 hz0 hz1 hz2 hsz
 have hxl := hO.len
 have hvl := hv.1
 obtain ⟨g', cur, hgg, hBg, hbg, _, hcm, hcz, htk⟩ := hO.blk (by omega)
 injection hgg with hgg
 injection hgg with hgg
 subst hgg
 have hs1 : Src w 12 (some ⟨g, k * 12, none⟩) (n - k) (xs.drop (k * 12)) := by
  refine ⟨by rw [List.length_drop, hxl, Nat.sub_mul], fun _ => ⟨_, rfl, fun j u hu => ?_⟩⟩
  rw [List.getElem?_drop] at hu
  obtain ⟨ad, had, hcell⟩ := hO.src.2 (by omega)
  injection had with had
  have := hcell _ u hu
  rw [← had, Addr.add_lit] at this
  rw [Addr.add_lit]
  simpa using this
 obtain ⟨N, hN⟩ : ∃ N, N = n + 1 := ⟨_, rfl⟩
 obtain ⟨K, hK⟩ : ∃ K, K = k + 1 := ⟨_, rfl⟩
 have hov : ∀ lb cb, (callFunc 64 #[.slice (some ⟨gv, 0, none⟩) 1 vc, .slice (some ⟨g, K * 12, none⟩) lb cb]).run Tryz.prog w = .ok (.value (.bool false)) w := fun lb cb => by
  rw [run_callFunc_extern (fn := Tryz.f64) rfl (by kernel_rfl) (by kernel_rfl) (by kernel_rfl) (e := Extern.SlicesOverlaps.overlaps #[23, 23] #[4]) (by kernel_rfl),
   Lib.run_overlaps_apart w 23 4 44 Tryz.underlying23 12 hso ⟨gv, 0, none⟩ ⟨g, K * 12, none⟩ 1 vc lb cb (Ne.symm hne) tv 44 cv.size cur.size (by unfold World.shape?; rw [show w.heap[gv]? = _ from hb]) (by unfold World.shape?; rw [show w.heap[g]? = _ from hbg]) (by rw [hcz]; exact Nat.mul_ne_zero (by omega) (by omega)) (hb.frozen _) (hb.frozen _)]
  rfl
 have HCZ := Lib.hid hcz
 have HTK := Lib.hid htk
 have HBG := Lib.hid hbg
 have HV := Lib.hid hv
 have H1 := Lib.hid h1
 have H2 := Lib.hid (fun u hu => h2 u (List.mem_of_mem_drop hu) : ∀ u ∈ xs.drop (k * 12), u.oneCell' = true)
 have HS1 := Lib.hid hs1
 have HXL := Lib.hid hxl
 have HVL := Lib.hid hvl
 have HBV := Lib.hid hb
 clear hO hv h1 h2 hs1 hxl hvl hso hcz htk hbg hb
 have q1 : IntKind.i64.wrap ((n : Int) + 1) = (N : Int) := by rw [IntWalk.i64_in _ (by omega), hN]; push_cast; rfl
 have q2 : IntKind.i64.wrap ((k : Int) + 1) = (K : Int) := by rw [IntWalk.i64_in _ (by omega), hK]; push_cast; rfl
 have q3 : ¬ (c : Int) < N := by omega
 have q4 : (k : Int) ≤ n := by omega
 have q5 : (k : Int) ≤ N := by omega
 have q6 : (K : Int) ≤ N := by omega
 have q7 : (N : Int) ≤ c := by omega
 have q8 : ¬ (k : Int) = n := by omega
 have q9 : k ≤ n := by omega
 have q10 : k ≤ c := by omega
 have q11 : ¬ c = k := by omega
 have q12 : K ≤ N := by omega
 have q13 : k ≤ N := by omega
 have q14 : ¬ c = K := by omega
 have q15 : K ≤ c := by omega
 have q17 : N ≤ c := by omega
 have hm2 : Nat.min (N - k) (N - K) = n - k := by
  have e1 : N - K = n - k := by omega
  rw [e1]
  exact Nat.min_eq_right (by omega)
 have hm1 : Nat.min 1 (N - k) = 1 := Nat.min_eq_left (by omega)
 have HM1 := Lib.hid hm1
 have HM2 := Lib.hid hm2
 have hdl : (xs.drop (k * 12)).length = (n - k) * 12 := HS1.out.1
 have hf2 : K * 12 + (xs.drop (k * 12)).length ≤ cur.size := by
  rw [hdl, HCZ.out, ← Nat.add_mul]
  exact Nat.mul_le_mul_right _ (by omega)
 have HF2 := Lib.hid hf2
 have HDL := Lib.hid hdl
 have ho1 : (over cur.toList (K * 12) (xs.drop (k * 12))).length = cur.size := by rw [over_length (by simpa using hf2)]; simp
 have HO1 := Lib.hid ho1
 have hf1 : k * 12 + vs.length ≤ ((over cur.toList (K * 12) (xs.drop (k * 12))).toArray).size := by
  rw [HVL.out, ← Nat.add_mul]
  simp only [List.size_toArray, ho1, HCZ.out]
  exact Nat.mul_le_mul_right _ (by omega)
 have HF1 := Lib.hid hf1
 have HN := Lib.hid hN
 have HK := Lib.hid hK
 -- the source of the first copy, with the walk's own length
 have hs3 : Src w 12 (some ⟨g, k * 12, none⟩) (n - k) (xs.drop (k * 12)) := HS1.out
 have HS3 := Lib.hid hs3
 clear hN hK hm1 hm2 hdl hf2 ho1 hf1 hs3
 go_enter Tryz.func26, Tryz.ntmps26
 go_wp2_with (simp only [hov])
 go_still_tail 8, (by kernel_rfl)
 refine wpList_copy_blk _ rfl (.tmp 73) (.tmp 76) _ rfl 44 12 g (K * 12) _ _ _ _ _ (n - k) _ 44 _ rfl rfl Tryz.underlying23 HSZ.out HBG.out.drew HM2.out HS3.out.drew (by simp) HF2.out H2.out ?_
 intro w4 hb4 hg4
 all_goals
  have HB4 := Lib.hid hb4
  have HBV4 := Lib.hid ((hg4.block gv HBV.out.lt (by intro e; injection e with e; exact hne e.symm)).trans HBV.out)
  have hw4 : Below B w w4 := ⟨hg4.os, hg4.tape, hg4.output, hg4.size, fun i hi => hg4.block i (Nat.lt_of_lt_of_le hi hB) (by intro e; injection e with e; omega)⟩
  have HW4 := Lib.hid hw4
  have HG4 := Lib.hid hg4
  have hk4 : w4.heap[gv]? = w.heap[gv]? := hg4.block gv HBV.out.lt (by intro e; injection e with e; exact hne e.symm)
  have HV4 := Lib.hid (Src.keep_block (w' := w4) HV.out fun i hi => by rw [hi]; exact hk4)
  clear hb4 hg4 hw4 hov hk4
  go_wp2_with fail
  obtain ⟨w5, hr5, hb5, hg5⟩ := copy_ex (P := Tryz.prog) w4 23 44 12 g (k * 12) (N - k) (some ⟨gv, 0, none⟩) 1 1 _ 44 vs Tryz.underlying23 HSZ.out HB4.out HM1.out HV4.out (by simp) HF1.out H1.out
  simp only [hr5, Result.andThen_ok]
  clear hr5
  have HB5 := Lib.hid hb5
  have HW5 := Lib.hid (HW4.out.trans (⟨hg5.os, hg5.tape, hg5.output, hg5.size, fun i hi => hg5.block i (Nat.lt_of_lt_of_le hi (Nat.le_trans hB HW4.out.size)) (by intro e; injection e with e; omega)⟩ : Below B w4 w5))
  have HG5 := Lib.hid (Only.trans (g := g) HG4.out hg5)
  clear hb5 hg5
  go_wp2_with fail
  go_ret
  have e1 := HN.out
  have e2 := HK.out
  have e3 : K * 12 = k * 12 + vs.length := by rw [e2, HVL.out, Nat.add_mul]
  have e4 : (n + 1) * 12 = k * 12 + vs.length + (xs.drop (k * 12)).length := by rw [HVL.out, HDL.out, ← Nat.add_mul, ← Nat.add_mul]; congr 1; omega
  refine ⟨_, c, by rw [← e1]; rfl, ?_, HW5.out, by rw [ownB_some (show 0 < c by omega)]; exact ⟨HG5.out.os, HG5.out.tape, HG5.out.output, HG5.out.size, HG5.out.block⟩⟩
  refine Ow.mk_ (by have f1 := HXL.out; have f2 := HVL.out; simp only [List.length_append, List.length_take, List.length_drop]; omega) hBg HB5.out (by omega) hcm ?_ ?_
  ·have h := HF1.out
   have h' := HO1.out
   simp only [List.size_toArray] at h ⊢
   rw [over_length h, h', HCZ.out]
  ·have h : k * 12 + vs.length ≤ cur.toList.length := by rw [HVL.out, ← Nat.add_mul, Array.length_toList, HCZ.out]; exact Nat.mul_le_mul_right _ (by omega)
   simp only [e3, e4]
   have ht : xs.take (k * 12) = cur.toList.take (k * 12) := by rw [← HTK.out, List.take_take, Nat.min_eq_left (Nat.mul_le_mul_right _ (by omega))]
   rw [over_before h, ht, List.append_assoc]
theorem insT_any (B : Nat) (A : Option Addr) (n c k : Nat) (xs vs : List Value) (gv vc : Nat) (w : World) (tv : TypeId) (cv : Array Value) (hO : Ow B w 44 12 A n c xs) (hb : Blk w gv tv cv) (hv : Src w 12 (some ⟨gv, 0, none⟩) 1 vs) (hne : ∀ g, A.map (·.block) = some g → 0 < c → g ≠ gv) (h1 : ∀ u ∈ vs, u.oneCell' = true) (h2 : ∀ u ∈ xs, u.oneCell' = true) (hk : k ≤ n) (hn : n ≤ 1048576) (hB : B ≤ w.heap.size) :
  Calls Tryz.prog 26 #[.slice A n c, .int .i64 k, .slice (some ⟨gv, 0, none⟩) 1 vc] w fun e w' => ∃ A' c', e = .returned (.slice A' (n + 1) c') ∧ Ow B w' 44 12 A' (n + 1) c' (xs.take (k * 12) ++ vs ++ xs.drop (k * 12)) ∧ Below B w w' ∧ w.grownBy w' (ownB A c) := by
 by_cases hkn : k = n
 ·subst hkn
  have hl := hO.len
  rw [List.take_of_length_le (by omega), List.drop_of_length_le (by omega), List.append_nil]
  exact insT_end B A k c xs vs gv vc w hO hv h1 hn hB
 ·have hle := hO.le
  obtain ⟨g, cur, rfl, _⟩ := hO.blk (by omega)
  by_cases hc : n + 1 ≤ c
  ·exact insT_shift B g n c k xs vs gv vc w tv cv hO hb hv (hne g rfl (by omega)) h1 h2 (by omega) hc hn hB
  ·exact insT_grow B g n c k xs vs gv vc w hO hv h1 h2 (by omega) (by omega) hn hB
end Go.Proofs.YtemnlheidghbmaaGreat

/-
  Lemmas and contracts: Lc. No condition.
-/
import Derived.Test.YtemnlheidghbmaaGreatKc11
namespace Go.Proofs.YtemnlheidghbmaaGreat
open Go.RowKit Go.Sort
set_option maxRecDepth 100000 in
set_option maxHeartbeats 2000000 in
theorem growB_any (N : Nat) (w : World) (hN : 0 < N) (hN2 : N ≤ 1073741824) :
  Calls Tryz.prog 114 #[.slice none 0 0, .int .i64 N] w fun e w' => ∃ g G, e = .returned (.slice (some ⟨g, 0, none⟩) 0 G) ∧ Ow w.heap.size w' 31 4 (some ⟨g, 0, none⟩) 0 G [] ∧ Below w.heap.size w w' := by
 obtain ⟨i0, hi0, hz0, hz1, hz2⟩ := info_parts infoB
 have HI := Lib.hid hi0
 have HZ := Lib.hid hz0
 have HS := Lib.hid hz1
 have HBY := Lib.hid hz2
 clear hi0 hz0 hz1 hz2
 have q1 : (0 : Int) < N := by omega
 go_enter Tryz.func114, Tryz.ntmps114
 go_wp2_with (at_builtin; refine wpList_append_make _ rfl (.tmp 20) (.tmp 21) _ _ rfl 31 i0 _ 4 32 .i64 .i64 Tryz.underlying29 Tryz.underlying3 HI.out HZ.out HS.out HBY.out rfl (by omega) none 0 0 [] rfl ⟨rfl, fun h => absurd h (by omega)⟩ (fun _ => rfl) N N rfl hN (by omega) (by omega) (by omega) (by omega) ?_; intro G ROW w2 hG1 hG2 hR1 hR2 hb2 hw2)
 have hG0 : ¬ G = 0 := by omega
 have HB2 := Lib.hid hb2
 have HW2 := Lib.hid hw2
 have HR1 := Lib.hid hR1
 clear hb2 hw2 hR1 hR2
 go_wp2
 go_ret
 exact ⟨_, G, rfl, Ow.mk_ (by simp) (Nat.le_refl _) HB2.out (Nat.zero_le _) hG2 HR1.out (by simp), HW2.out⟩
def encS (x : Sl × List Bx) : List Value := [.slice x.1.a x.1.n x.1.c]
def totB (xs : List (Sl × List Bx)) : List Bx := xs.flatMap (·.2)
theorem totB_step {xs : List (Sl × List Bx)} {k : Nat} {x : Sl × List Bx} (h : xs[k]? = some x) : totB (xs.take (k + 1)) = totB (xs.take k) ++ x.2 := by
 rw [List.take_add_one, h]
 simp [totB]
theorem totB_le {xs : List (Sl × List Bx)} (k : Nat) : (totB (xs.take k)).length ≤ (totB xs).length := by
 have h : totB xs = totB (xs.take k) ++ totB (xs.drop k) := by unfold totB; rw [← List.flatMap_append, List.take_append_drop]
 rw [h, List.length_append]
 omega
set_option maxRecDepth 100000 in
set_option maxHeartbeats 4000000 in
theorem concatB_any (A : Option Addr) (n c : Nat) (xs : List (Sl × List Bx)) (w : World) (hr : Rd encS 1 w A n xs) (hx : ∀ x ∈ xs, RdB w x.1.a x.1.n x.2) (h0 : 0 < (totB xs).length) (ht : (totB xs).length ≤ 1073741824) (hn : n ≤ 1048576) :
  Calls Tryz.prog 92 #[.slice A n c] w fun e w' => ∃ A' c', e = .returned (.slice A' (totB xs).length c') ∧ Ow w.heap.size w' 31 4 A' (totB xs).length c' (cellsB (totB xs)) ∧ Below w.heap.size w w' := by
 obtain ⟨i0, hi0, hz0, hz1, hz2⟩ := info_parts infoB
 have HI := Lib.hid hi0
 have HZ := Lib.hid hz0
 have HS := Lib.hid hz1
 have HBY := Lib.hid hz2
 have HR := Lib.hid hr
 have HX := Lib.hid hx
 clear hi0 hz0 hz1 hz2 hr hx
 obtain ⟨T, hT⟩ : ∃ T, T = (totB xs).length := ⟨_, rfl⟩
 rw [← hT] at h0 ht ⊢
 have HT := Lib.hid hT
 clear hT
 go_enter Tryz.func92, Tryz.ntmps92
 go_wp2
 go_loop [3, 11] (fun s i => ∃ k : Nat, k ≤ n ∧ i = .int .i64 k ∧ s = .int .i64 (totB (xs.take k)).length) (fun _ i => n - (intOf i).toNat)
 case atStart => exact ⟨0, Nat.zero_le _, rfl, rfl⟩
 case round =>
  obtain ⟨k, hk, rfl, rfl⟩ := hrel
  by_cases hlt : k < n
  ·obtain ⟨b, off, x, hA, hb, hx, hc⟩ := HR.out.at_ hlt
   subst hA
   have c0 : w.cell? ⟨b, off + k, none⟩ = some (.slice x.1.a x.1.n x.1.c) := by have := hc 0 _ rfl; simpa using this
   have hst := totB_step hx
   have hle := totB_le (xs := xs) (k + 1)
   have hxl := (HX.out x (List.mem_of_getElem? hx)).len
   rw [hst, List.length_append, hxl] at hle
   have hT := HT.out
   have hnn : (totB (xs.take (k + 1))).length = (totB (xs.take k)).length + x.1.n := by rw [hst, List.length_append, hxl]
   have HNN := Lib.hid hnn
   generalize (totB (xs.take k)).length = m at *
   have hm : m + x.1.n ≤ 1073741824 := by omega
   clear hst hle hx hc hT hnn hxl
   go_wp2
   go_round
   case rel => exact ⟨k + 1, by omega, by go_num, by rw [HNN.out]; push_cast; rfl⟩
   case measure => simp [intOf]; omega
  ·have hkn : xs.take k = xs := List.take_of_length_le (by rw [HR.out.len]; omega)
   rw [hkn, ← HT.out]
   clear hkn
   go_wp2_with fail
   refine (growB_any T w h0 ht).mono ?_
   rintro e w1 ⟨g, G, rfl, hO, hb1⟩
   have HO := Lib.hid hO
   have HB1 := Lib.hid hb1
   clear hO hb1
   go_wp2_with fail
   go_loopw [6, 27] (fun o i wr => ∃ (k : Nat) (A' : Option Addr) (c' : Nat), k ≤ n ∧ i = .int .i64 k ∧ o = .slice A' (totB (xs.take k)).length c' ∧ Hid (Below w.heap.size w wr ∧ Ow w.heap.size wr 31 4 A' (totB (xs.take k)).length c' (cellsB (totB (xs.take k))))) (fun _ i _ => n - (intOf i).toNat)
   case atStart => exact ⟨0, _, _, Nat.zero_le _, rfl, rfl, HB1.out, HO.out⟩
   case round =>
    obtain ⟨k2, A', c', hk2, rfl, rfl, HB⟩ := hrel
    by_cases hlt2 : k2 < n
    ·obtain ⟨b, off, x, hA, hb, hx, hc⟩ := (HR.out.below HB.out.1).at_ hlt2
     subst hA
     have c0 : wr.cell? ⟨b, off + k2, none⟩ = some (.slice x.1.a x.1.n x.1.c) := by have := hc 0 _ rfl; simpa using this
     have hst := totB_step hx
     have hle := totB_le (xs := xs) (k2 + 1)
     have HRx := Lib.hid ((HX.out x (List.mem_of_getElem? hx)).below HB.out.1)
     have hxl := HRx.out.len
     rw [hst, List.length_append, hxl] at hle
     have hT := HT.out
     have HST := Lib.hid hst
     have hnn : (totB (xs.take (k2 + 1))).length = (totB (xs.take k2)).length + x.1.n := by rw [hst, List.length_append, hxl]
     have HNN := Lib.hid hnn
     have hsz := HB.out.1.size
     have hm : (totB (xs.take k2)).length + x.1.n ≤ 1073741824 := by omega
     clear hst hle hx hc hT hnn hxl
     go_wp2_with (at_builtin; refine wpList_append_ow _ rfl (.tmp 31) (.tmp 32) _ rfl w.heap.size 31 i0 _ 4 32 Tryz.underlying29 HI.out HZ.out HS.out HBY.out rfl (by omega) _ _ _ _ rfl HB.out.2 _ x.1.n x.1.c (cellsB x.2) rfl (Src.rd encB_len HRx.out) (cellsX_oneCell encB_one _) (by unfold maxLen; omega) (by omega) hsz ?_; intro A2 c2 w2 hown2 hg2 _)
     have HO2 := Lib.hid hown2
     have HG := Lib.hid hg2
     clear hown2 hg2
     go_wp2
     refine ⟨⟨k2 + 1, A2, c2, by omega, by go_num, by rw [HNN.out], HB.out.2.grown HG.out HB.out.1 (Nat.le_refl _) hsz, ?_⟩, by simp [intOf]; omega⟩
     have := HO2.out
     rw [← cellsX_append, ← HST.out] at this
     rw [HNN.out]
     exact this
    ·have hkn : xs.take k2 = xs := List.take_of_length_le (by rw [HR.out.len]; omega)
     rw [hkn] at HB ⊢
     rw [← HT.out] at HB ⊢
     clear hkn
     go_wp2
     go_ret
     exact ⟨A', c', rfl, HB.out.2, HB.out.1⟩
set_option maxHeartbeats 2000000 in
theorem boxes_any (l : Lvl) (ws gs : Sl) (w : World) (hr : RdL w l ws gs) :
  Calls Tryz.prog 57 #[lvlV l ws gs] w fun e w' => ∃ A' c', e = .returned (.slice A' (l.walls ++ l.gates ++ [l.f]).length c') ∧ RdB w' A' (l.walls ++ l.gates ++ [l.f]).length (l.walls ++ l.gates ++ [l.f]) ∧ Below w.heap.size w w' := by
 obtain ⟨hr1, hr2, ⟨_, hn1⟩, _, hn2⟩ := hr
 have HR1 := Lib.hid hr1
 have HR2 := Lib.hid hr2
 have hl1 := hr1.len
 have hl2 := hr2.len
 have htot : totB [(ws, l.walls), (gs, l.gates), (⟨some ⟨w.heap.size + 1, 0, none⟩, 1, 1⟩, [l.f])] = l.walls ++ l.gates ++ [l.f] := by simp [totB]
 have hlen : (l.walls ++ l.gates ++ [l.f]).length = ws.n + gs.n + 1 := by simp [hl1, hl2]; omega
 have HT := Lib.hid htot
 have HLN := Lib.hid hlen
 clear hr1 hr2 hl1 hl2 htot hlen
 go_enter Tryz.func57, Tryz.ntmps57
 go_wp2_with fail
 refine (concatB_any (some ⟨w.heap.size + 1 + 1, 0, none⟩) 3 3 [(ws, l.walls), (gs, l.gates), (⟨some ⟨w.heap.size + 1, 0, none⟩, 1, 1⟩, [l.f])] _ ?_ ?_ (by rw [HT.out, HLN.out]; omega) (by rw [HT.out, HLN.out]; omega) (by omega)).mono ?_
 ·refine ⟨rfl, fun _ => ⟨w.heap.size + 1 + 1, 0, rfl, by simp, fun k x hk j v hv => ?_⟩⟩
  have hb := Blk.newAt ((w.alloc (.cells #[.int .i64 l.id, .int .i64 l.ticks, .int .i64 l.sx, .int .i64 l.sy, .slice ws.a ws.n ws.c, .slice gs.a gs.n gs.c, .int .i64 l.f.1, .int .i64 l.f.2.1, .int .i64 l.f.2.2.1, .int .i64 l.f.2.2.2, .int .i64 l.bans] 33)).alloc (.cells #[.int .i64 l.f.1, .int .i64 l.f.2.1, .int .i64 l.f.2.2.1, .int .i64 l.f.2.2.2] 31)) 29 #[.slice ws.a ws.n ws.c, .slice gs.a gs.n gs.c, .slice (some ⟨w.heap.size + 1, 0, none⟩) 1 1] (w.heap.size + 1 + 1) (by simp)
  have hj : j = 0 := by
   have := (List.getElem?_eq_some_iff.1 hv).1
   simp [encS] at this
   exact this
  subst hj
  have hk3 : k < 3 := (List.getElem?_eq_some_iff.1 hk).1
  have hq : k = 0 ∨ k = 1 ∨ k = 2 := by omega
  rcases hq with rfl | rfl | rfl <;> (simp at hk; subst hk; simp [encS] at hv; subst hv)
  ·exact hb.cell 0
  ·exact hb.cell 1
  ·exact hb.cell 2
 ·intro x hx
  simp only [List.mem_cons, List.not_mem_nil, or_false] at hx
  rcases hx with rfl | rfl | rfl
  ·exact HR1.out.below (by go_grown)
  ·exact HR2.out.below (by go_grown)
  ·exact Rd.blk (xs := [l.f]) encB_len ((Blk.newAt _ 31 _ (w.heap.size + 1) (by simp)).alloc _)
 ·rintro e w1 ⟨A1, c1, rfl, hO, hb1⟩
  rw [HT.out] at hO ⊢
  have HRD := Lib.hid (hO.rd (xs := l.walls ++ l.gates ++ [l.f]) encB_len (by omega))
  have HB1 := Lib.hid (ba (ba (ba hb1)))
  clear hb1 hO
  go_wp2_with fail
  go_ret
  exact ⟨A1, c1, by show Ending.returned (.slice A1 (l.walls.length + (l.gates.length + 1)) c1) = _; simp, HRD.out, HB1.out⟩
set_option maxHeartbeats 400000 in
theorem levelValid1_any (b : Bx) (w : World) :
  Calls Tryz.prog 58 #[.agg #[.int .i64 b.1, .int .i64 b.2.1, .int .i64 b.2.2.1, .int .i64 b.2.2.2]] w fun e w' => e = .returned (.bool (!boxOk b)) ∧ Below w.heap.size w w' := by
 go_enter Tryz.func58, Tryz.ntmps58
 go_wp2_with fail
 refine (implBoxValid_any _ _).mono ?_
 rintro e w1 ⟨rfl, hb1⟩
 have HB1 := Lib.hid (ba hb1)
 clear hb1
 go_wp2_with fail
 go_ret
 exact ⟨rfl, HB1.out⟩
theorem all_dropB {α : Type} {p : α → Bool} {xs : List α} {k : Nat} {x : α} (h : xs[k]? = some x) : (xs.drop k).all p = (p x && (xs.drop (k + 1)).all p) := by
 obtain ⟨hk', he⟩ := List.getElem?_eq_some_iff.1 h
 rw [List.drop_eq_getElem_cons hk', he]; rfl
set_option maxHeartbeats 2000000 in
theorem indexFuncB_any (A : Option Addr) (n c : Nat) (bs : List Bx) (w : World) (hr : RdB w A n bs) (hn : n ≤ 1099511627776) :
  Calls Tryz.prog 91 #[.slice A n c, .func (.func 58) #[] #[]] w fun e w' => ∃ v : Int, e = .returned (.int .i64 v) ∧ decide (0 ≤ v) = (!bs.all boxOk) ∧ Below w.heap.size w w' := by
 have HR := Lib.hid hr; clear hr
 go_enter Tryz.func91, Tryz.ntmps91
 go_wp2
 go_loopw [8] (fun i wr => ∃ k : Nat, k ≤ n ∧ i = .int .i64 k ∧ Hid (Below w.heap.size w wr ∧ bs.all boxOk = (bs.drop k).all boxOk)) (fun i _ => n - (intOf i).toNat)
 case atStart => exact ⟨0, Nat.zero_le _, rfl, Below.refl _ _, rfl⟩
 case round =>
  obtain ⟨k, hk, rfl, HF⟩ := hrel
  by_cases hlt : k < n
  ·obtain ⟨b, off, x, hA, hb, hx, h0, h1, h2, h3⟩ := RdB.cells (HR.out.below HF.out.1) hlt
   subst hA
   have HS := Lib.hid (all_dropB (p := boxOk) hx)
   clear hx
   cases ho : boxOk x
   ·have HO := Lib.hid ho
    have c1 := fun W => levelValid1_any x W
    rw [ho] at c1
    have C1 := Lib.hid c1
    clear ho c1
    go_wp2_with (first | (go_at_call 58; refine (C1.out _).mono ?_; rintro e w' ⟨rfl, hb1⟩))
    go_ret
    exact ⟨_, rfl, by rw [HF.out.2, HS.out, HO.out]; simp, below_next HF.out.1 hb1⟩
   ·have HO := Lib.hid ho
    have c1 := fun W => levelValid1_any x W
    rw [ho] at c1
    have C1 := Lib.hid c1
    clear ho c1
    go_wp2_with (first | (go_at_call 58; refine (C1.out _).mono ?_; rintro e w' ⟨rfl, hb1⟩))
    exact ⟨⟨k + 1, by omega, by go_num, below_next HF.out.1 hb1, by rw [HF.out.2, HS.out, HO.out]; rfl⟩, by simp [intOf]; omega⟩
  ·go_wp2
   go_ret
   exact ⟨_, rfl, by rw [HF.out.2, List.drop_of_length_le (by rw [HR.out.len]; omega)]; rfl, HF.out.1⟩
set_option maxHeartbeats 1000000 in
theorem containsFuncB_any (A : Option Addr) (n c : Nat) (bs : List Bx) (w : World) (hr : RdB w A n bs) (hn : n ≤ 1099511627776) :
  Calls Tryz.prog 56 #[.slice A n c, .func (.func 58) #[] #[]] w fun e w' => e = .returned (.bool (!bs.all boxOk)) ∧ Below w.heap.size w w' := by
 have H1 := Lib.hid (indexFuncB_any A n c bs w hr hn)
 clear hr
 go_enter Tryz.func56, Tryz.ntmps56
 go_wp2_with fail
 refine H1.out.mono ?_
 rintro e w1 ⟨v, rfl, hv, hb1⟩
 have HV := Lib.hid hv
 clear hv
 go_wp2_with fail
 go_ret
 exact ⟨ret_bool HV.out, hb1⟩
theorem free_eq {bs : List Bx} (h : bs.all boxOk = true) (x y : Int) : (bs.all fun b => !touchI b x y 500) = freeW bs x y := by
 rw [List.all_eq_true] at h
 unfold freeW
 rw [Bool.eq_iff_iff, List.all_eq_true, List.all_eq_true]
 exact ⟨fun g b hb => by rw [← touchI_eq (h b hb)]; exact g b hb, fun g b hb => by rw [touchI_eq (h b hb)]; exact g b hb⟩
set_option maxHeartbeats 4000000 in
theorem implLevelValid_any (l : Lvl) (ws gs : Sl) (w : World) (hr : RdL w l ws gs) :
  Calls Tryz.prog 23 #[lvlV l ws gs] w fun e w' => e = .returned (.bool (levelOk l)) ∧ Below w.heap.size w w' := by
 have hr' := hr
 obtain ⟨hr1, hr2, ⟨_, hn1⟩, _, hn2⟩ := hr'
 have HR := Lib.hid hr
 have hl1 := hr1.len
 have hl2 := hr2.len
 have HL1 := Lib.hid hl1
 have HL2 := Lib.hid hl2
 clear hr hr1 hr2 hl1 hl2
 go_enter Tryz.func23, Tryz.ntmps23
 go_wp2_with fail
 refine (inRange_any _ _ _ _).mono ?_
 rintro e w' ⟨rfl, rfl⟩
 cases h1 : inR l.id 0 99
 ·go_wp2_with fail
  go_ret
  exact ⟨ret_bool (by simp [levelOk, h1]), by go_grown⟩
 ·skip
  go_wp2_with fail
  refine (inRange_any _ _ _ _).mono ?_
  rintro e w' ⟨rfl, rfl⟩
  cases h2 : inR l.ticks 1 60
  ·go_wp2_with fail
   go_ret
   exact ⟨ret_bool (by simp [levelOk, h1, h2]), by go_grown⟩
  ·skip
   go_wp2_with fail
   refine (implVecOk_any _ _ _).mono ?_
   rintro e w1 ⟨rfl, hb1⟩
   have k1 := (Blk.new _ _ _).next hb1
   have HB1 := Lib.hid (ba hb1)
   have c1 := fun o => k1.cell o
   clear hb1
   cases h3 : vecOk l.sx l.sy
   ·go_wp2_with fail
    go_ret
    exact ⟨ret_bool (by simp [levelOk, h1, h2, h3]), HB1.out⟩
   ·skip
    go_wp2_with fail
    refine (inRange_any _ _ _ _).mono ?_
    rintro e w' ⟨rfl, rfl⟩
    cases h9 : inR l.bans 0 3
    ·go_wp2_with fail
     go_ret
     exact ⟨ret_bool (by simp [levelOk, h9]), HB1.out⟩
    ·skip
     by_cases h4 : (ws.n : Int) ≤ 4
     rotate_left
     ·go_wp2_with fail
      go_ret
      exact ⟨ret_bool (by simp [levelOk, show ¬ (l.walls.length : Int) ≤ 4 from by rw [HL1.out]; omega]), HB1.out⟩
     ·skip
      by_cases h6 : (gs.n : Int) ≤ 3
      rotate_left
      ·go_wp2_with fail
       go_ret
       exact ⟨ret_bool (by simp [levelOk, show ¬ (l.gates.length : Int) ≤ 3 from by rw [HL2.out]; omega]), HB1.out⟩
      ·skip
       have h4n : ¬ (4 : Int) < ws.n := by omega
       have h6n : ¬ (3 : Int) < gs.n := by omega
       go_wp2_with fail
       refine (boxes_any l ws gs _ (HR.out.below HB1.out)).mono ?_
       rintro e w2 ⟨A2, c2, rfl, hrd2, hb2⟩
       have hlen2 : (l.walls ++ l.gates ++ [l.f]).length ≤ 1099511627776 := by simp only [List.length_append, HL1.out, HL2.out, List.length_cons, List.length_nil]; omega
       generalize (l.walls ++ l.gates ++ [l.f]).length = N2 at *
       have HRD2 := Lib.hid hrd2
       have k2 := k1.next hb2
       have HB2 := Lib.hid (below_next HB1.out hb2)
       clear hb2 hrd2 c1
       go_wp2_with fail
       refine (containsFuncB_any _ _ _ _ _ HRD2.out (by omega)).mono ?_
       rintro e w3 ⟨rfl, hb3⟩
       have k3 := k2.next hb3
       have HB3 := Lib.hid (below_next HB2.out hb3)
       have c3 := fun o => k3.cell o
       clear hb3
       cases h5 : (l.walls ++ l.gates ++ [l.f]).all boxOk
       ·go_wp2_with fail
        go_ret
        refine ⟨ret_bool ?_, HB3.out⟩
        symm
        simp only [List.all_append, List.all_cons, List.all_nil, Bool.and_true] at h5
        unfold levelOk
        cases hb1 : l.walls.all boxOk <;> cases hb2 : l.gates.all boxOk <;> cases hb3 : boxOk l.f <;> simp [hb1, hb2, hb3] at h5 ⊢
       ·have h5' := h5
        simp only [List.all_append, List.all_cons, List.all_nil, Bool.and_true, Bool.and_eq_true] at h5'
        obtain ⟨⟨h5a, h5b⟩, h5c⟩ := h5'
        have hfr := free_eq h5a l.sx l.sy
        have H5A := Lib.hid h5a
        have H5B := Lib.hid h5b
        have H5C := Lib.hid h5c
        have HFR := Lib.hid hfr
        clear h5a h5b h5c hfr
        go_wp2_with fail
        refine (free_any l ws gs _ _ _ (HR.out.1.below HB3.out) (by omega)).mono ?_
        rintro e w4 ⟨rfl, hb4⟩
        go_wp2_with fail
        go_ret
        refine ⟨ret_bool ?_, below_next HB3.out hb4⟩
        have h4' : (l.walls.length : Int) ≤ 4 := by rw [HL1.out]; exact h4
        have h6' : (l.gates.length : Int) ≤ 3 := by rw [HL2.out]; exact h6
        rw [HFR.out]
        simp [levelOk, h1, h2, h3, h4', H5A.out, h6', H5B.out, H5C.out, h9]
end Go.Proofs.YtemnlheidghbmaaGreat

/-
  Vectors, boxes and levels of the reference: VecOk, BoxValid, l11Boxes, l3Nearest, l3Touches, l11Free, LevelValid. Whatever the arguments; slices of at most 2^40 boxes.
-/
import Derived.Test.YtepddbfafdfadaaGreatSv
import Derived.Test.YtepddbfafdfadaaGreatBs
namespace Go.Proofs.YtepddbfafdfadaaGreat
open Go.RowKit Go.Sort

def inC (n : Int) : Bool := inR n (-1000000) 1000000
def vecOk (x y : Int) : Bool := inC x && inC y
def boxOk (b : Bx) : Bool := vecOk b.1 b.2.1 && vecOk b.2.2.1 b.2.2.2 && decide (b.1 ≤ b.2.2.1) && decide (b.2.1 ≤ b.2.2.2)
/-- is a point nearer to a box than a radius, as a machine word reckons it -/
def nearW (p q x y r : Int) : Bool :=
  decide (wrap64 (wrap64 (wrap64 (x - p) * wrap64 (x - p)) + wrap64 (wrap64 (y - q) * wrap64 (y - q))) ≤ wrap64 (r * r))
def touchW (b : Bx) (x y r : Int) : Bool := nearW (max b.1 (min x b.2.2.1)) (max b.2.1 (min y b.2.2.2)) x y r
def freeW (bs : List Bx) (x y : Int) : Bool := bs.all fun b => !touchW b x y 500
def levelOk (l : Lvl) : Bool :=
  inR l.id 0 99 && inR l.ticks 1 60 && vecOk l.sx l.sy && decide ((l.walls.length : Int) ≤ 4) && l.walls.all boxOk && decide ((l.gates.length : Int) ≤ 3) && l.gates.all boxOk && boxOk l.f && inR l.bans 0 3 && freeW l.walls l.sx l.sy

set_option maxHeartbeats 400000 in
theorem specVecOk_any (x y : Int) (w : World) :
    Calls Tryz.prog 93 #[.agg #[.int .i64 x, .int .i64 y]] w fun e w' => e = .returned (.bool (vecOk x y)) ∧ Below w.heap.size w w' := by
  go_enter Tryz.func93, Tryz.ntmps93
  go_wp2_with (first | (go_at_call 74; refine (l6In_any _ _ _ _).mono ?_; rintro e w' ⟨rfl, rfl⟩))
  all_goals go_ret
  all_goals exact ⟨ret_bool (by simp [vecOk, inC, *]), (Below.refl _ _).alloc (Nat.le_refl _) _⟩

set_option maxHeartbeats 1000000 in
theorem specBoxValid_any (b : Bx) (w : World) :
    Calls Tryz.prog 95 #[.agg #[.int .i64 b.1, .int .i64 b.2.1, .int .i64 b.2.2.1, .int .i64 b.2.2.2]] w fun e w' => e = .returned (.bool (boxOk b)) ∧ Below w.heap.size w w' := by
  obtain ⟨b1, b2, b3, b4⟩ := b
  go_enter Tryz.func95, Tryz.ntmps95
  go_wp2_with fail
  refine (specVecOk_any _ _ _).mono ?_
  rintro e w1 ⟨rfl, hb1⟩
  have k1 := (Blk.new _ _ _).next hb1
  have c2 : w1.cell? ⟨w.heap.size, 2, none⟩ = some (.int .i64 b3) := k1.cell 2
  have c3 : w1.cell? ⟨w.heap.size, 3, none⟩ = some (.int .i64 b4) := k1.cell 3
  have HB1 := Lib.hid (ba hb1)
  clear hb1
  cases h1 : vecOk b1 b2
  · go_wp2_with fail
    go_ret
    exact ⟨ret_bool (by simp [boxOk, h1]), HB1.out⟩
  · go_wp2_with fail
    refine (specVecOk_any _ _ _).mono ?_
    rintro e w2 ⟨rfl, hb2⟩
    have k2 := k1.next hb2
    have d0 : w2.cell? ⟨w.heap.size, 0, none⟩ = some (.int .i64 b1) := k2.cell 0
    have d1 : w2.cell? ⟨w.heap.size, 1, none⟩ = some (.int .i64 b2) := k2.cell 1
    have d2 : w2.cell? ⟨w.heap.size, 2, none⟩ = some (.int .i64 b3) := k2.cell 2
    have d3 : w2.cell? ⟨w.heap.size, 3, none⟩ = some (.int .i64 b4) := k2.cell 3
    have HB2 := Lib.hid (below_next HB1.out hb2)
    clear c2 c3 hb2 k1 k2
    cases h2 : vecOk b3 b4
    · go_wp2_with fail
      go_ret
      exact ⟨ret_bool (by simp [boxOk, h1, h2]), HB2.out⟩
    · go_wp2_with fail
      all_goals go_ret
      all_goals exact ⟨ret_bool (by simp only [boxOk, h1, h2]; simp; omega), HB2.out⟩

set_option maxHeartbeats 1000000 in
theorem l3Nearest_any (b : Bx) (x y : Int) (w : World) :
    Calls Tryz.prog 152 #[.agg #[.int .i64 b.1, .int .i64 b.2.1, .int .i64 b.2.2.1, .int .i64 b.2.2.2], .agg #[.int .i64 x, .int .i64 y]] w fun e w' => e = .returned (.agg #[.int .i64 (max b.1 (min x b.2.2.1)), .int .i64 (max b.2.1 (min y b.2.2.2))]) ∧ Below w.heap.size w w' := by
  obtain ⟨b1, b2, b3, b4⟩ := b
  go_enter Tryz.func152, Tryz.ntmps152
  go_wp2
  all_goals
    refine bodyPost_ret (v := .agg #[.int .i64 (max b1 (min x b3)), .int .i64 (max b2 (min y b4))]) (by simp [results, Tryz.results152, go_sem]; omega) rfl ⟨rfl, by go_grown⟩

set_option maxHeartbeats 1000000 in
theorem l3Touches_any (b : Bx) (x y r : Int) (w : World) :
    Calls Tryz.prog 128 #[.agg #[.int .i64 b.1, .int .i64 b.2.1, .int .i64 b.2.2.1, .int .i64 b.2.2.2], .agg #[.int .i64 x, .int .i64 y], .int .i64 r] w fun e w' => e = .returned (.bool (touchW b x y r)) ∧ Below w.heap.size w w' := by
  have N := fun W => l3Nearest_any b x y W
  unfold touchW
  generalize max b.1 (min x b.2.2.1) = p at N ⊢
  generalize max b.2.1 (min y b.2.2.2) = q at N ⊢
  have HN := Lib.hid N
  clear N
  go_enter Tryz.func128, Tryz.ntmps128
  go_wp2_with fail
  refine (HN.out _).mono ?_
  rintro e w1 ⟨rfl, hb1⟩
  have k1 := (Blk.newAt _ _ _ (w.heap.size + 1) (by simp)).next hb1
  have c0 : w1.cell? ⟨w.heap.size + 1, 0, none⟩ = some (.int .i64 x) := k1.cell 0
  have c1 : w1.cell? ⟨w.heap.size + 1, 1, none⟩ = some (.int .i64 y) := k1.cell 1
  have HB1 := Lib.hid (ba (ba hb1))
  have hz1 := hb1.size
  simp at hz1
  have hz : w.heap.size + 1 < w1.heap.size := by omega
  clear hb1 k1 hz1
  go_wp2_with fail
  go_ret
  exact ⟨ret_bool rfl, HB1.out.alloc HB1.out.size _⟩

set_option maxHeartbeats 1000000 in
theorem l11Boxes_any (A : Option Addr) (n c : Nat) (bs : List Bx) (w : World) (hr : RdB w A n bs) (hn : n ≤ 1099511627776) :
    Calls Tryz.prog 94 #[.slice A n c] w fun e w' => e = .returned (.bool (bs.all boxOk)) ∧ Below w.heap.size w w' := by
  have HR := Lib.hid hr; clear hr
  go_enter Tryz.func94, Tryz.ntmps94
  go_wp2
  go_loopw [3] (fun i wr => ∃ k : Nat, k ≤ n ∧ i = .int .i64 k ∧ Hid (Below w.heap.size w wr ∧ bs.all boxOk = (bs.drop k).all boxOk)) (fun i _ => n - (intOf i).toNat)
  case atStart => exact ⟨0, Nat.zero_le _, rfl, Below.refl _ _, rfl⟩
  case round =>
    obtain ⟨k, hk, rfl, HB⟩ := hrel
    by_cases hlt : k < n
    · obtain ⟨b, off, x, hA, hb, hx, h0, h1, h2, h3⟩ := RdB.cells (HR.out.below HB.out.1) hlt
      subst hA
      have hd : (bs.drop k).all boxOk = (boxOk x && (bs.drop (k + 1)).all boxOk) := by
        obtain ⟨hk', he⟩ := List.getElem?_eq_some_iff.1 hx
        rw [List.drop_eq_getElem_cons hk', he]; rfl
      have HD := Lib.hid hd
      clear hd hx
      go_wp2_with fail
      refine (specBoxValid_any _ _).mono ?_
      rintro e w1 ⟨rfl, hb1⟩
      cases ho : boxOk x
      · have HO := Lib.hid ho
        clear ho
        go_wp2_with fail
        go_ret
        exact ⟨ret_bool (by rw [HB.out.2, HD.out, HO.out]; rfl), below_next HB.out.1 hb1⟩
      · have HO := Lib.hid ho
        clear ho
        go_wp2_with fail
        exact ⟨⟨k + 1, by omega, by go_num, below_next HB.out.1 hb1, by rw [HB.out.2, HD.out, HO.out]; rfl⟩, by simp [intOf]; omega⟩
    · go_wp2
      go_ret
      exact ⟨ret_bool (by rw [HB.out.2, List.drop_of_length_le (by rw [HR.out.len]; omega)]; rfl), HB.out.1⟩

theorem freeW_step {bs : List Bx} {k : Nat} {x : Bx} {px py : Int} (h : bs[k]? = some x) : freeW (bs.drop k) px py = (!touchW x px py 500 && freeW (bs.drop (k + 1)) px py) := by
  obtain ⟨hk', he⟩ := List.getElem?_eq_some_iff.1 h
  rw [List.drop_eq_getElem_cons hk', he]; rfl

set_option maxHeartbeats 2000000 in
theorem l11Free_any (l : Lvl) (ws gs : Sl) (x y : Int) (w : World) (hr : RdB w ws.a ws.n l.walls) (hn : ws.n ≤ 1099511627776) :
    Calls Tryz.prog 96 #[lvlV l ws gs, .agg #[.int .i64 x, .int .i64 y]] w fun e w' => e = .returned (.bool (freeW l.walls x y)) ∧ Below w.heap.size w w' := by
  have HR := Lib.hid hr; clear hr
  go_enter Tryz.func96, Tryz.ntmps96
  go_wp2
  go_loopw [5] (fun i wr => ∃ k : Nat, k ≤ ws.n ∧ i = .int .i64 k ∧ Hid (Below w.heap.size w wr ∧ Blk wr w.heap.size 46 (match lvlV l ws gs with | .agg cs => cs | _ => #[]) ∧ Blk wr (w.heap.size + 1) 41 #[.int .i64 x, .int .i64 y] ∧ freeW l.walls x y = freeW (l.walls.drop k) x y)) (fun i _ => ws.n - (intOf i).toNat)
  case atStart => exact ⟨0, Nat.zero_le _, rfl, by go_grown, (Blk.new _ _ _).alloc _, Blk.newAt _ _ _ _ (by simp), rfl⟩
  case round =>
    obtain ⟨k, hk, rfl, HB⟩ := hrel
    have c4 : wr.cell? ⟨w.heap.size, 4, none⟩ = some (.slice ws.a ws.n ws.c) := HB.out.2.1.cell 4
    by_cases hlt : k < ws.n
    · obtain ⟨b, off, z, hA, hb, hx, h0, h1, h2, h3⟩ := RdB.cells (HR.out.below HB.out.1) hlt
      have HA := Lib.hid hA
      rw [hA] at c4
      have HST := Lib.hid (freeW_step (px := x) (py := y) hx)
      have d0 : wr.cell? ⟨w.heap.size + 1, 0, none⟩ = some (.int .i64 x) := HB.out.2.2.1.cell 0
      have d1 : wr.cell? ⟨w.heap.size + 1, 1, none⟩ = some (.int .i64 y) := HB.out.2.2.1.cell 1
      have c4' := fun d os => cell_regrown c4 d os
      have h0' := fun d os => cell_regrown h0 d os
      have h1' := fun d os => cell_regrown h1 d os
      have h2' := fun d os => cell_regrown h2 d os
      have h3' := fun d os => cell_regrown h3 d os
      have d0' := fun d os => cell_regrown d0 d os
      have d1' := fun d os => cell_regrown d1 d os
      clear hA hx h0 h1 h2 h3 d0 d1
      go_wp2_with fail
      refine wp_region_qb (by kernel_rfl) (by kernel_rfl) ?_
      repeat (go_big_quiet_step ((go_at_call 128; exact Calls.regrown_of (l3Touches_any _ _ _ _ _))))
      refine wpQuiet_nil ?_
      intro w1 hb1
      have HB1 := Lib.hid hb1
      clear hb1
      cases ht : touchW z x y 500
      · have HT := Lib.hid ht
        clear ht
        go_wp2_with fail
        exact ⟨⟨k + 1, by omega, by go_num, below_next HB.out.1 HB1.out, HB.out.2.1.next HB1.out, HB.out.2.2.1.next HB1.out, by rw [HB.out.2.2.2, HST.out, HT.out]; rfl⟩, by simp [intOf]; omega⟩
      · have HT := Lib.hid ht
        clear ht
        go_wp2_with fail
        go_ret
        exact ⟨ret_bool (by rw [HB.out.2.2.2, HST.out, HT.out]; rfl), below_next HB.out.1 HB1.out⟩
    · go_wp2
      go_ret
      exact ⟨ret_bool (by rw [HB.out.2.2.2, List.drop_of_length_le (by rw [HR.out.len]; omega)]; rfl), HB.out.1⟩

set_option maxHeartbeats 4000000 in
theorem specLevelValid_any (l : Lvl) (ws gs : Sl) (w : World) (hr : RdL w l ws gs) :
    Calls Tryz.prog 45 #[lvlV l ws gs] w fun e w' => e = .returned (.bool (levelOk l)) ∧ Below w.heap.size w w' := by
  obtain ⟨hr1, hr2, ⟨_, hn1⟩, _, hn2⟩ := hr
  have HR1 := Lib.hid hr1
  have HR2 := Lib.hid hr2
  have hl1 := hr1.len
  have hl2 := hr2.len
  have HL1 := Lib.hid hl1
  have HL2 := Lib.hid hl2
  clear hr1 hr2 hl1 hl2
  go_enter Tryz.func45, Tryz.ntmps45
  go_wp2_with fail
  refine (l6In_any _ _ _ _).mono ?_
  rintro e w' ⟨rfl, rfl⟩
  cases h1 : inR l.id 0 99
  · go_wp2_with fail
    go_ret
    exact ⟨ret_bool (by simp [levelOk, h1]), by go_grown⟩
  · skip
    go_wp2_with fail
    refine (l6In_any _ _ _ _).mono ?_
    rintro e w' ⟨rfl, rfl⟩
    cases h2 : inR l.ticks 1 60
    · go_wp2_with fail
      go_ret
      exact ⟨ret_bool (by simp [levelOk, h1, h2]), by go_grown⟩
    · skip
      go_wp2_with fail
      refine (specVecOk_any _ _ _).mono ?_
      rintro e w1 ⟨rfl, hb1⟩
      have k1 := (Blk.new _ _ _).next hb1
      have HB1 := Lib.hid (ba hb1)
      have c1 := fun o => k1.cell o
      clear hb1
      cases h3 : vecOk l.sx l.sy
      · go_wp2_with fail
        go_ret
        exact ⟨ret_bool (by simp [levelOk, h1, h2, h3]), HB1.out⟩
      · skip
        by_cases h4 : (ws.n : Int) ≤ 4
        rotate_left
        · go_wp2_with fail
          go_ret
          exact ⟨ret_bool (by simp [levelOk, show ¬ (l.walls.length : Int) ≤ 4 from by rw [HL1.out]; omega]), HB1.out⟩
        · skip
          go_wp2_with fail
          refine (l11Boxes_any _ _ _ _ _ (HR1.out.below HB1.out) (by omega)).mono ?_
          rintro e w2 ⟨rfl, hb2⟩
          have k2 := k1.next hb2
          have HB2 := Lib.hid (below_next HB1.out hb2)
          clear c1
          have c2 := fun o => k2.cell o
          clear hb2
          cases h5 : l.walls.all boxOk
          · go_wp2_with fail
            go_ret
            exact ⟨ret_bool (by simp [levelOk, h1, h2, h3, h5]), HB2.out⟩
          · skip
            by_cases h6 : (gs.n : Int) ≤ 3
            rotate_left
            · go_wp2_with fail
              go_ret
              exact ⟨ret_bool (by simp [levelOk, show ¬ (l.gates.length : Int) ≤ 3 from by rw [HL2.out]; omega]), HB2.out⟩
            · skip
              go_wp2_with fail
              refine (l11Boxes_any _ _ _ _ _ (HR2.out.below HB2.out) (by omega)).mono ?_
              rintro e w3 ⟨rfl, hb3⟩
              have k3 := k2.next hb3
              have HB3 := Lib.hid (below_next HB2.out hb3)
              clear c2
              have c3 := fun o => k3.cell o
              clear hb3
              cases h7 : l.gates.all boxOk
              · go_wp2_with fail
                go_ret
                exact ⟨ret_bool (by simp [levelOk, h1, h2, h3, h5, h7]), HB3.out⟩
              · skip
                go_wp2_with fail
                refine (specBoxValid_any _ _).mono ?_
                rintro e w4 ⟨rfl, hb4⟩
                have k4 := k3.next hb4
                have HB4 := Lib.hid (below_next HB3.out hb4)
                clear c3
                have c4 := fun o => k4.cell o
                clear hb4
                cases h8 : boxOk l.f
                · go_wp2_with fail
                  go_ret
                  exact ⟨ret_bool (by simp [levelOk, h1, h2, h3, h5, h7, h8]), HB4.out⟩
                · skip
                  go_wp2_with fail
                  refine (l6In_any _ _ _ _).mono ?_
                  rintro e w' ⟨rfl, rfl⟩
                  cases h9 : inR l.bans 0 3
                  · go_wp2_with fail
                    go_ret
                    exact ⟨ret_bool (by simp [levelOk, h1, h2, h3, h5, h7, h8, h9]), HB4.out⟩
                  · skip
                    go_wp2_with fail
                    refine (l11Free_any l ws gs _ _ _ (HR1.out.below HB4.out) (by omega)).mono ?_
                    rintro e w5 ⟨rfl, hb5⟩
                    go_wp2_with fail
                    go_ret
                    have h4' : (l.walls.length : Int) ≤ 4 := by rw [HL1.out]; exact h4
                    have h6' : (l.gates.length : Int) ≤ 3 := by rw [HL2.out]; exact h6
                    exact ⟨ret_bool (by simp [levelOk, h1, h2, h3, h4', h5, h6', h7, h8, h9]), below_next HB4.out hb5⟩
end Go.Proofs.YtepddbfafdfadaaGreat

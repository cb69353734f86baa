/-
  The laws' sizes: szBoxS, szIntS, szLevel, szTrack, szTrackS, szService. Services of any slices; what is not negative says that every slice is of at most 2^20 elements.
-/
import Derived.Test.YtepddbfafdfadaaGreatSv
import Derived.Test.YtepddbfafdfadaaGreatLk
namespace Go.Proofs.YtepddbfafdfadaaGreat
open Go.RowKit Go.Sort

def SlRaw (n c : Nat) : Prop := n ≤ c ∧ c ≤ maxLen
def RdLr (w : World) (l : Lvl) (ws gs : Sl) : Prop := RdB w ws.a ws.n l.walls ∧ RdB w gs.a gs.n l.gates ∧ SlRaw ws.n ws.c ∧ SlRaw gs.n gs.c
def RdTr (w : World) (x : Row) : Prop := RdLr w x.2.l x.1.w x.1.g ∧ RdE w x.1.b.a x.1.b.n x.2.b ∧ SlRaw x.1.b.n x.1.b.c
def RdTsr (w : World) (A : Option Addr) (n : Nat) (xs : List Row) : Prop := Rd encT 12 w A n xs ∧ ∀ x ∈ xs, RdTr w x
/-- a service that came in: nothing is known of its slices' lengths -/
def RdSr (w : World) (t k g : Sl) (S : Svc) (xs : List Row) : Prop :=
  xs.map (·.2) = S.ts ∧ RdTsr w t.a t.n xs ∧ RdI .i64 w k.a k.n S.keys ∧ RdI .i64 w g.a g.n S.tags ∧ SlRaw t.n t.c ∧ SlRaw k.n k.c ∧ SlRaw g.n g.c
def SmL (ws gs : Sl) : Prop := ws.n ≤ 1048576 ∧ gs.n ≤ 1048576
def SmT (p : TP) : Prop := SmL p.w p.g ∧ p.b.n ≤ 1048576
def SmTs (t : Sl) (xs : List Row) : Prop := t.n ≤ 1048576 ∧ ∀ x ∈ xs, SmT x.1
theorem RdLr.small {w : World} {l : Lvl} {ws gs : Sl} (h : RdLr w l ws gs) (s : SmL ws gs) : RdL w l ws gs := ⟨h.1, h.2.1, ⟨h.2.2.1.1, s.1⟩, ⟨h.2.2.2.1, s.2⟩⟩
theorem RdTr.small {w : World} {x : Row} (h : RdTr w x) (s : SmT x.1) : RdT w x := ⟨h.1.small s.1, h.2.1, ⟨h.2.2.1, s.2⟩⟩
theorem RdSr.small {w : World} {t k g : Sl} {S : Svc} {xs : List Row} (h : RdSr w t k g S xs) (s : SmTs t xs) (hk : k.n ≤ 1048576) (hg : g.n ≤ 1048576) : RdS w t k g S := by
  obtain ⟨h1, h2, h3, h4, h5, h6, h7⟩ := h
  exact ⟨⟨xs, h1, h2.1, fun x hx => (h2.2 x hx).small (s.2 x hx)⟩, h3, h4, ⟨h5.1, s.1⟩, ⟨h6.1, hk⟩, ⟨h7.1, hg⟩⟩
theorem RdTsr.below {w w' : World} {A : Option Addr} {n : Nat} {xs : List Row} (h : RdTsr w A n xs) (hb : Below w.heap.size w w') : RdTsr w' A n xs :=
  ⟨h.1.below hb, fun x hx => ⟨⟨(h.2 x hx).1.1.below hb, (h.2 x hx).1.2.1.below hb, (h.2 x hx).1.2.2⟩, (h.2 x hx).2.1.below hb, (h.2 x hx).2.2⟩⟩

set_option maxHeartbeats 400000 in
theorem szBoxS_any (A : Option Addr) (n c : Nat) (left : Int) (w : World) (hn : n ≤ maxLen) (hl : 0 ≤ left) (hl2 : left ≤ 1048576) :
    Calls Tryz.prog 44 #[.slice A n c, .int .i64 left] w fun e w' => ∃ v : Int, e = .returned (.int .i64 v) ∧ v ≤ left ∧ (0 ≤ v → n ≤ 1048576) ∧ w = w' := by
  unfold maxLen at hn
  by_cases h : left < n
  · have h' : left - (n : Int) < 0 := by omega
    go_enter Tryz.func44, Tryz.ntmps44
    go_wp2
    go_ret
    exact ⟨-1, rfl, by omega, fun h => by omega, rfl⟩
  · have h' : ¬ left - (n : Int) < 0 := by omega
    go_enter Tryz.func44, Tryz.ntmps44
    go_wp2
    go_ret
    exact ⟨_, rfl, by omega, fun _ => by omega, rfl⟩

set_option maxHeartbeats 400000 in
theorem szIntS_any (A : Option Addr) (n c : Nat) (left : Int) (w : World) (hn : n ≤ maxLen) (hl : 0 ≤ left) (hl2 : left ≤ 1048576) :
    Calls Tryz.prog 43 #[.slice A n c, .int .i64 left] w fun e w' => ∃ v : Int, e = .returned (.int .i64 v) ∧ v ≤ left ∧ (0 ≤ v → n ≤ 1048576) ∧ w = w' := by
  unfold maxLen at hn
  by_cases h : left < n
  · have h' : left - (n : Int) < 0 := by omega
    go_enter Tryz.func43, Tryz.ntmps43
    go_wp2
    go_ret
    exact ⟨-1, rfl, by omega, fun h => by omega, rfl⟩
  · have h' : ¬ left - (n : Int) < 0 := by omega
    go_enter Tryz.func43, Tryz.ntmps43
    go_wp2
    go_ret
    exact ⟨_, rfl, by omega, fun _ => by omega, rfl⟩

set_option maxHeartbeats 400000 in
theorem szEnt_any (A : Option Addr) (n c : Nat) (left : Int) (w : World) (hn : n ≤ maxLen) (hl : 0 ≤ left) (hl2 : left ≤ 1048576) :
    Calls Tryz.prog 127 #[.slice A n c, .int .i64 left] w fun e w' => ∃ v : Int, e = .returned (.int .i64 v) ∧ v ≤ left ∧ (0 ≤ v → n ≤ 1048576) ∧ w = w' := by
  unfold maxLen at hn
  by_cases h : left < n
  · have h' : left - (n : Int) < 0 := by omega
    go_enter Tryz.func127, Tryz.ntmps127
    go_wp2
    go_ret
    exact ⟨-1, rfl, by omega, fun h => by omega, rfl⟩
  · have h' : ¬ left - (n : Int) < 0 := by omega
    go_enter Tryz.func127, Tryz.ntmps127
    go_wp2
    go_ret
    exact ⟨_, rfl, by omega, fun _ => by omega, rfl⟩

set_option maxHeartbeats 1000000 in
theorem szLevel_any (l : Lvl) (ws gs : Sl) (left : Int) (w : World) (h1 : ws.n ≤ maxLen) (h2 : gs.n ≤ maxLen) (hl : 0 ≤ left) (hl2 : left ≤ 1048576) :
    Calls Tryz.prog 13 #[lvlV l ws gs, .int .i64 left] w fun e w' => ∃ v : Int, e = .returned (.int .i64 v) ∧ v ≤ left ∧ (0 ≤ v → SmL ws gs) ∧ Below w.heap.size w w' := by
  go_enter Tryz.func13, Tryz.ntmps13
  go_wp2_with fail
  refine (szBoxS_any _ _ _ _ _ h1 hl hl2).mono ?_
  rintro e w1 ⟨v, rfl, hv1, hv2, rfl⟩
  by_cases h0 : v < 0
  · go_wp2_with fail
    go_ret
    exact ⟨-1, rfl, by omega, fun h => by omega, by go_grown⟩
  · go_wp2_with fail
    refine (szBoxS_any _ _ _ _ _ h2 (by omega) (by omega)).mono ?_
    rintro e w1 ⟨u, rfl, hu1, hu2, rfl⟩
    by_cases h0 : u < 0
    · go_wp2_with fail
      go_ret
      exact ⟨-1, rfl, by omega, fun h => by omega, by go_grown⟩
    · go_wp2_with fail
      go_ret
      exact ⟨u, rfl, by omega, fun _ => ⟨hv2 (by omega), hu2 (by omega)⟩, by go_grown⟩

set_option maxHeartbeats 1000000 in
theorem szTrack_any (x : Row) (left : Int) (w : World) (h1 : x.1.w.n ≤ maxLen) (h2 : x.1.g.n ≤ maxLen) (h3 : x.1.b.n ≤ maxLen) (hl : 0 ≤ left) (hl2 : left ≤ 1048576) :
    Calls Tryz.prog 92 #[.agg (encT x).toArray, .int .i64 left] w fun e w' => ∃ v : Int, e = .returned (.int .i64 v) ∧ v ≤ left ∧ (0 ≤ v → SmT x.1) ∧ Below w.heap.size w w' := by
  simp only [encT]
  go_enter Tryz.func92, Tryz.ntmps92
  go_wp2_with fail
  refine (szLevel_any x.2.l x.1.w x.1.g _ _ h1 h2 hl hl2).mono ?_
  rintro e w1 ⟨v, rfl, hv1, hv2, hb1⟩
  have c11 : w1.cell? ⟨w.heap.size, 11, none⟩ = some (.slice x.1.b.a x.1.b.n x.1.b.c) := ((Blk.new _ _ _).next hb1).cell 11
  have HB1 := Lib.hid (ba hb1)
  clear hb1
  by_cases h0 : v < 0
  · go_wp2_with fail
    go_ret
    exact ⟨-1, rfl, by omega, fun h => by omega, HB1.out⟩
  · go_wp2_with fail
    refine (szEnt_any _ _ _ _ _ h3 (by omega) (by omega)).mono ?_
    rintro e w1 ⟨u, rfl, hu1, hu2, rfl⟩
    by_cases h0 : u < 0
    · go_wp2_with fail
      go_ret
      exact ⟨-1, rfl, by omega, fun h => by omega, HB1.out⟩
    · go_wp2_with fail
      go_ret
      exact ⟨u, rfl, by omega, fun _ => ⟨hv2 (by omega), hu2 (by omega)⟩, HB1.out⟩

set_option maxHeartbeats 2000000 in
theorem szTrackS_any (t : Sl) (xs : List Row) (left : Int) (w : World) (hr : RdTsr w t.a t.n xs) (hn : t.n ≤ maxLen) (hl : 0 ≤ left) (hl2 : left ≤ 1048576) :
    Calls Tryz.prog 42 #[.slice t.a t.n t.c, .int .i64 left] w fun e w' => ∃ v : Int, e = .returned (.int .i64 v) ∧ v ≤ left ∧ (0 ≤ v → SmTs t xs) ∧ Below w.heap.size w w' := by
  have HR := Lib.hid hr
  unfold maxLen at hn
  clear hr
  by_cases h : left < t.n
  · have h' : left - (t.n : Int) < 0 := by omega
    go_enter Tryz.func42, Tryz.ntmps42
    go_wp2
    go_ret
    exact ⟨-1, rfl, by omega, fun h => by omega, Below.refl _ _⟩
  · have h' : ¬ left - (t.n : Int) < 0 := by omega
    go_enter Tryz.func42, Tryz.ntmps42
    go_wp2
    go_loopw [1, 5] (fun s i wr => ∃ (k : Nat) (v : Int), k ≤ t.n ∧ i = .int .i64 k ∧ s = .int .i64 v ∧ 0 ≤ v ∧ v ≤ left ∧ Hid (Below w.heap.size w wr ∧ ∀ x ∈ xs.take k, SmT x.1)) (fun _ i _ => t.n - (intOf i).toNat)
    case atStart => exact ⟨0, _, Nat.zero_le _, rfl, rfl, by omega, by omega, Below.refl _ _, by simp⟩
    case round =>
      obtain ⟨k, v, hk, rfl, rfl, hv0, hv1, HB⟩ := hrel
      by_cases hlt : k < t.n
      · obtain ⟨b, off, x, hA, hb, hx, hc⟩ := (HR.out.below HB.out.1).1.at_ hlt
        have hm := HR.out.2 x (List.mem_of_getElem? hx)
        have g1 := hm.1.2.2.1
        have g2 := hm.1.2.2.2
        have g3 := hm.2.2
        have HX := Lib.hid hx
        have e0 : wr.cell? ⟨b, off + k * 12, none⟩ = _ := hc 0 _ rfl
        have e1 : wr.cell? ⟨b, off + k * 12 + 1, none⟩ = _ := hc 1 _ rfl
        have e2 : wr.cell? ⟨b, off + k * 12 + 2, none⟩ = _ := hc 2 _ rfl
        have e3 : wr.cell? ⟨b, off + k * 12 + 3, none⟩ = _ := hc 3 _ rfl
        have e4 : wr.cell? ⟨b, off + k * 12 + 4, none⟩ = _ := hc 4 _ rfl
        have e5 : wr.cell? ⟨b, off + k * 12 + 5, none⟩ = _ := hc 5 _ rfl
        have e6 : wr.cell? ⟨b, off + k * 12 + 6, none⟩ = _ := hc 6 _ rfl
        have e7 : wr.cell? ⟨b, off + k * 12 + 7, none⟩ = _ := hc 7 _ rfl
        have e8 : wr.cell? ⟨b, off + k * 12 + 8, none⟩ = _ := hc 8 _ rfl
        have e9 : wr.cell? ⟨b, off + k * 12 + 9, none⟩ = _ := hc 9 _ rfl
        have e10 : wr.cell? ⟨b, off + k * 12 + 10, none⟩ = _ := hc 10 _ rfl
        have e11 : wr.cell? ⟨b, off + k * 12 + 11, none⟩ = _ := hc 11 _ rfl
        clear hm hc hx
        rw [hA]
        go_wp2_with fail
        refine (szTrack_any x v wr (Nat.le_trans g1.1 g1.2) (Nat.le_trans g2.1 g2.2) (Nat.le_trans g3.1 g3.2) hv0 (by omega)).mono ?_
        rintro e w1 ⟨u, rfl, hu1, hu2, hb1⟩
        have HB1 := Lib.hid (below_next HB.out.1 hb1)
        have HU := Lib.hid hu2
        clear hb1 hu2
        by_cases h0 : u < 0
        · go_wp2_with fail
          go_ret
          exact ⟨-1, rfl, by omega, fun h => by omega, HB1.out⟩
        · go_wp2_with fail
          refine ⟨⟨k + 1, u, by omega, by go_num, rfl, by omega, by omega, HB1.out, fun y hy => ?_⟩, by simp [intOf]; omega⟩
          rw [List.take_add_one, HX.out, List.mem_append] at hy
          rcases hy with hy | hy
          · exact HB.out.2 y hy
          · simp at hy
            rw [hy]
            exact HU.out (by omega)
      · go_wp2
        go_ret
        refine ⟨v, rfl, hv1, fun _ => ⟨by omega, fun x hx => HB.out.2 x ?_⟩, HB.out.1⟩
        rw [List.take_of_length_le (by rw [HR.out.1.len]; omega)]
        exact hx

set_option maxHeartbeats 2000000 in
theorem szService_any (t k g : Sl) (S : Svc) (xs : List Row) (left : Int) (w : World) (hr : RdSr w t k g S xs) (hl : 0 ≤ left) (hl2 : left ≤ 1048576) :
    Calls Tryz.prog 12 #[svV t k g, .int .i64 left] w fun e w' => ∃ v : Int, e = .returned (.int .i64 v) ∧ v ≤ left ∧ (0 ≤ v → RdS w t k g S) ∧ Below w.heap.size w w' := by
  have HR := Lib.hid hr
  have g1 := hr.2.2.2.2.1
  have g2 := hr.2.2.2.2.2.1
  have g3 := hr.2.2.2.2.2.2
  clear hr
  go_enter Tryz.func12, Tryz.ntmps12
  go_wp2_with fail
  refine (szTrackS_any t xs _ _ (HR.out.2.1.below (by go_grown)) (Nat.le_trans g1.1 g1.2) hl hl2).mono ?_
  rintro e w1 ⟨v, rfl, hv1, hv2, hb1⟩
  have k1 := (Blk.new _ _ _).next hb1
  have c1 : w1.cell? ⟨w.heap.size, 1, none⟩ = some (.slice k.a k.n k.c) := k1.cell 1
  have c2 : w1.cell? ⟨w.heap.size, 2, none⟩ = some (.slice g.a g.n g.c) := k1.cell 2
  have HB1 := Lib.hid (ba hb1)
  have HV := Lib.hid hv2
  clear hb1 hv2 k1
  by_cases h0 : v < 0
  · go_wp2_with fail
    go_ret
    exact ⟨-1, rfl, by omega, fun h => by omega, HB1.out⟩
  · go_wp2_with fail
    refine (szIntS_any _ _ _ _ _ (Nat.le_trans g2.1 g2.2) (by omega) (by omega)).mono ?_
    rintro e w1 ⟨u, rfl, hu1, hu2, rfl⟩
    by_cases h0 : u < 0
    · go_wp2_with fail
      go_ret
      exact ⟨-1, rfl, by omega, fun h => by omega, HB1.out⟩
    · go_wp2_with fail
      refine (szIntS_any _ _ _ _ _ (Nat.le_trans g3.1 g3.2) (by omega) (by omega)).mono ?_
      rintro e w1 ⟨q, rfl, hq1, hq2, rfl⟩
      by_cases h0 : q < 0
      · go_wp2_with fail
        go_ret
        exact ⟨-1, rfl, by omega, fun h => by omega, HB1.out⟩
      · go_wp2_with fail
        go_ret
        exact ⟨q, rfl, by omega, fun _ => HR.out.small (HV.out (by omega)) (hu2 (by omega)) (hq2 (by omega)), HB1.out⟩
end Go.Proofs.YtepddbfafdfadaaGreat

/-
  Lemmas and contracts: E1 E2 Qt. No condition.
-/
import Derived.StillTailTactics
import Derived.Test.YtemnlheidghbmaaGreatDoorKb1
import Derived.Test.YtemnlheidghbmaaGreatDoorKb4
namespace Go.Proofs.YtemnlheidghbmaaGreatDoor
open Go.RowKit Go.Sort
def mulW (a b : Int) : Int := wrap64 ((wrap64 (a * b)).tdiv 1000)
set_option maxRecDepth 100000 in
set_option maxHeartbeats 400000 in
theorem l1Mul_any (a b : Int) (w : World) : Calls Tryz.prog 239 #[.int .i64 a, .int .i64 b] w fun e w' => e = .returned (.int .i64 (mulW a b)) ∧ w' = w := by
 go_enter Tryz.func239, Tryz.ntmps239
 go_wp2
 go_ret
 exact ⟨rfl, rfl⟩
def IsRoot (n m : Int) : Prop := 0 ≤ m ∧ m ≤ 2000000 ∧ (m = 0 ∨ m * m ≤ n) ∧ (m = 2000000 ∨ n < (m + 1) * (m + 1))
theorem IsRoot.eq {n m k : Int} (h : IsRoot n m) (h' : IsRoot n k) : m = k := by
 obtain ⟨a1, a2, a3, a4⟩ := h
 obtain ⟨b1, b2, b3, b4⟩ := h'
 rcases Int.lt_trichotomy m k with hlt | he | hlt
 ·exfalso
  have h1 : (m + 1) * (m + 1) ≤ k * k := Int.mul_le_mul (by omega) (by omega) (by omega) (by omega)
  rcases b3 with b3 | b3 <;> rcases a4 with a4 | a4 <;> omega
 ·exact he
 ·exfalso
  have h1 : (k + 1) * (k + 1) ≤ m * m := Int.mul_le_mul (by omega) (by omega) (by omega) (by omega)
  rcases a3 with a3 | a3 <;> rcases b4 with b4 | b4 <;> omega
open Classical in
noncomputable def rootOf (n : Int) : Int := if h : ∃ m, IsRoot n m then h.choose else 0
theorem rootOf_eq {n m : Int} (h : IsRoot n m) : rootOf n = m := by
 have hex : ∃ m, IsRoot n m := ⟨m, h⟩
 unfold rootOf
 rw [dif_pos hex]
 exact IsRoot.eq hex.choose_spec h
set_option maxRecDepth 100000 in
set_option maxHeartbeats 1000000 in
theorem l1Sqrt_root (n : Int) (w : World) : Calls Tryz.prog 245 #[.int .i64 n] w fun e w' => (∃ m, e = .returned (.int .i64 m) ∧ IsRoot n m) ∧ w' = w := by
 go_enter Tryz.func245, Tryz.ntmps245
 go_wp2_with fail
 go_loopw [3, 4] (fun lo hi wr => ∃ a b : Int, lo = .int .i64 a ∧ hi = .int .i64 b ∧ 0 ≤ a ∧ a ≤ b ∧ b ≤ 2000000 ∧ Hid ((a = 0 ∨ a * a ≤ n) ∧ (b = 2000000 ∨ n < (b + 1) * (b + 1))) ∧ wr = w) (fun lo hi _ => (intOf hi - intOf lo).toNat)
 case atStart => exact ⟨0, 2000000, rfl, rfl, by omega, by omega, by omega, ⟨.inl rfl, .inl rfl⟩, rfl⟩
 case round =>
  obtain ⟨a, b, rfl, rfl, ha, hab, hb, HH, rfl⟩ := hrel
  by_cases hlt : a < b
  ·obtain ⟨m, hm⟩ : ∃ m, m = (a + b + 1) / 2 := ⟨_, rfl⟩
   have h0 : 0 ≤ (a + b + 1) / 2 * ((a + b + 1) / 2) := by rw [← hm]; exact Int.mul_nonneg (by omega) (by omega)
   have h1 : (a + b + 1) / 2 * ((a + b + 1) / 2) ≤ 4000000000000 := by
    rw [← hm]
    exact Int.le_trans (Int.mul_le_mul (show m ≤ 2000000 by omega) (show m ≤ 2000000 by omega) (by omega) (by omega)) (by decide)
   by_cases hle : (a + b + 1) / 2 * ((a + b + 1) / 2) ≤ n
   ·go_wp2_with fail
    exact ⟨⟨(a + b + 1) / 2, b, rfl, rfl, by omega, by omega, by omega, ⟨.inr hle, HH.out.2⟩, trivial⟩, by simp [intOf]; omega⟩
   ·go_wp2_with fail
    exact ⟨⟨a, (a + b + 1) / 2 - 1, rfl, rfl, by omega, by omega, by omega, ⟨HH.out.1, .inr (by rw [show (a + b + 1) / 2 - 1 + 1 = (a + b + 1) / 2 by omega]; omega)⟩, trivial⟩, by simp [intOf]; omega⟩
  ·obtain rfl : a = b := by omega
   go_wp2_with fail
   go_ret
   exact ⟨⟨a, rfl, ha, hb, HH.out.1, HH.out.2⟩, rfl⟩
theorem l1Sqrt_any (n : Int) (w : World) : Calls Tryz.prog 245 #[.int .i64 n] w fun e w' => e = .returned (.int .i64 (rootOf n)) ∧ 0 ≤ rootOf n ∧ rootOf n ≤ 2000000 ∧ w' = w :=
 (l1Sqrt_root n w).mono fun e w' h => by
  obtain ⟨⟨m, rfl, hm⟩, rfl⟩ := h
  rw [rootOf_eq hm]
  exact ⟨rfl, hm.1, hm.2.1, rfl⟩
set_option maxRecDepth 100000 in
set_option maxHeartbeats 1000000 in
theorem l2Scale_any (x y k : Int) (w : World) : Calls Tryz.prog 223 #[.agg #[.int .i64 x, .int .i64 y], .int .i64 k] w fun e w' => e = .returned (.agg #[.int .i64 (mulW x k), .int .i64 (mulW y k)]) ∧ Below w.heap.size w w' := by
 go_enter Tryz.func223, Tryz.ntmps223
 go_wp2_with fail
 refine into_world (fun W => Below w.heap.size w W ∧ w.heap.size + 1 < W.heap.size ∧ Blk W w.heap.size 24 #[.int .i64 x, .int .i64 y] ∧ Blk W (w.heap.size + 1) 24 #[.int .i64 0, .int .i64 0]) ⟨by go_grown, by simp, (Blk.new _ _ _).alloc _, Blk.newAt _ _ _ _ (by simp)⟩ ?_
 rintro W ⟨hb, hz, k0, k1⟩
 have c0 : W.cell? ⟨w.heap.size, 0, none⟩ = some (.int .i64 x) := k0.cell 0
 have c1 : W.cell? ⟨w.heap.size, 1, none⟩ = some (.int .i64 y) := k0.cell 1
 have HB := Lib.hid hb
 have K1 := Lib.hid k1
 clear hb k0 k1
 go_still_tail 9, (by kernel_rfl)
 still_call (l1Mul_any _ _ _)
 repeat still_step
 still_call (l1Mul_any _ _ _)
 repeat still_step
 refine wpStill_nil ?_
 change wpList _ _ _ _ _ W.drew
 have d := fun o => K1.out.cell o
 have f := fun o => K1.out.frozen o
 have z := K1.out.lt
 clear c0 c1
 go_wp2
 refine bodyPost_ret (v := .agg #[.int .i64 (mulW x k), .int .i64 (mulW y k)]) (by simp [results, Tryz.results223, go_sem, d]) rfl ⟨rfl, ?_⟩
 have hb := HB.out
 go_grown
noncomputable def lenW (x y : Int) : Int := rootOf (wrap64 (wrap64 (x * x) + wrap64 (y * y)))
set_option maxRecDepth 100000 in
set_option maxHeartbeats 1000000 in
theorem l2Length_any (x y : Int) (w : World) : Calls Tryz.prog 240 #[.agg #[.int .i64 x, .int .i64 y]] w fun e w' => e = .returned (.int .i64 (lenW x y)) ∧ 0 ≤ lenW x y ∧ lenW x y ≤ 2000000 ∧ Below w.heap.size w w' := by
 go_enter Tryz.func240, Tryz.ntmps240
 go_wp2_with fail
 refine (l1Sqrt_any _ _).mono ?_
 rintro e w1 ⟨rfl, h0, h1, rfl⟩
 go_wp2_with fail
 go_ret
 exact ⟨rfl, h0, h1, by go_grown⟩
def dirT : List Int := [1000, 924, 707, 383, 0, -383, -707, -924, -1000, -924, -707, -383, 0, 383, 707, 924]
def dirW (d : Nat) : Int := (dirT[d]?).getD 0
set_option maxRecDepth 100000 in
set_option maxHeartbeats 1000000 in
theorem l2Direction_at (d d2 : Nat) (hd : d < 16) (h2 : (d + 12) % 16 = d2) (w : World) : Calls Tryz.prog 224 #[.int .i64 d] w fun e w' => e = .returned (.agg #[.int .i64 (dirW d), .int .i64 (dirW d2)]) ∧ Below w.heap.size w w' := by
 have hK := fun W : World => Blk.new W 3 #[.int .i64 1000, .int .i64 924, .int .i64 707, .int .i64 383, .int .i64 0, .int .i64 (-383), .int .i64 (-707), .int .i64 (-924), .int .i64 (-1000), .int .i64 (-924), .int .i64 (-707), .int .i64 (-383), .int .i64 0, .int .i64 383, .int .i64 707, .int .i64 924]
 have hc : ∀ (W : World) (k : Nat), k < 16 → (W.alloc (.cells #[.int .i64 1000, .int .i64 924, .int .i64 707, .int .i64 383, .int .i64 0, .int .i64 (-383), .int .i64 (-707), .int .i64 (-924), .int .i64 (-1000), .int .i64 (-924), .int .i64 (-707), .int .i64 (-383), .int .i64 0, .int .i64 383, .int .i64 707, .int .i64 924] 3)).cell? ⟨W.heap.size, k, none⟩ = some (.int .i64 (dirW k)) := by
  intro W k hk
  rw [(hK W).cell]
  have : k = 0 ∨ k = 1 ∨ k = 2 ∨ k = 3 ∨ k = 4 ∨ k = 5 ∨ k = 6 ∨ k = 7 ∨ k = 8 ∨ k = 9 ∨ k = 10 ∨ k = 11 ∨ k = 12 ∨ k = 13 ∨ k = 14 ∨ k = 15 := by omega
  rcases this with rfl | rfl | rfl | rfl | rfl | rfl | rfl | rfl | rfl | rfl | rfl | rfl | rfl | rfl | rfl | rfl <;> rfl
 have hd1 := hc (w.alloc (.cells #[.int .i64 0, .int .i64 0] 24)) d hd
 have hd2 := hc (w.alloc (.cells #[.int .i64 0, .int .i64 0] 24)) d2 (by omega)
 have hdi : (d : Int) < 16 := by omega
 clear hK hc
 go_enter Tryz.func224, Tryz.ntmps224
 go_wp2_with fail
 refine into_world (fun W => Below w.heap.size w W ∧ w.heap.size + 1 < W.heap.size ∧ Blk W w.heap.size 24 #[.int .i64 0, .int .i64 0] ∧ W.cell? ⟨w.heap.size + 1, d, none⟩ = some (.int .i64 (dirW d)) ∧ W.cell? ⟨w.heap.size + 1, d2, none⟩ = some (.int .i64 (dirW d2))) ⟨by go_grown, by simp, (Blk.new _ _ _).alloc _, by simpa using hd1, by simpa using hd2⟩ ?_
 rintro W ⟨hb, hz, k0, c1, c2⟩
 have HB := Lib.hid hb
 have K0 := Lib.hid k0
 clear hb k0 hd1 hd2
 have hq2 : (IntKind.i64.wrap ((d : Int) + 12)).tmod 16 = (d2 : Int) := by
  rw [IntWalk.i64_in _ (by omega), Int.tmod_eq_emod_of_nonneg (by omega)]
  omega
 have hdn : (d2 : Int) < 16 := by omega
 clear h2
 go_still_tail 11, (by kernel_rfl)
 change wpList _ _ _ _ _ W.drew
 have dk := fun o => K0.out.cell o
 have f := fun o => K0.out.frozen o
 have z := K0.out.lt
 clear c1 c2
 go_wp2
 refine bodyPost_ret (v := .agg #[.int .i64 (dirW d), .int .i64 (dirW d2)]) (by simp [results, Tryz.results224, go_sem, dk]) rfl ⟨rfl, ?_⟩
 have hb := HB.out
 go_grown
noncomputable def clampW (x y m : Int) : Int × Int := if lenW x y ≤ m then (x, y) else (wrap64 ((wrap64 (x * m)).tdiv (lenW x y)), wrap64 ((wrap64 (y * m)).tdiv (lenW x y)))
set_option maxRecDepth 100000 in
set_option maxHeartbeats 1000000 in
theorem l2Clamp_any (x y m : Int) (hm : 0 ≤ m) (w : World) : Calls Tryz.prog 225 #[.agg #[.int .i64 x, .int .i64 y], .int .i64 m] w fun e w' => e = .returned (.agg #[.int .i64 (clampW x y m).1, .int .i64 (clampW x y m).2]) ∧ Below w.heap.size w w' := by
 go_enter Tryz.func225, Tryz.ntmps225
 go_wp2_with fail
 refine (l2Length_any _ _ _).mono ?_
 rintro e w1 ⟨rfl, h0, h1, hb⟩
 have k0 : w1.cell? ⟨w.heap.size, 0, none⟩ = some (.int .i64 x) := (((Blk.new _ _ _).alloc _).next hb).cell 0
 have k1 : w1.cell? ⟨w.heap.size, 1, none⟩ = some (.int .i64 y) := (((Blk.new _ _ _).alloc _).next hb).cell 1
 have HB := Lib.hid (ba (ba hb))
 have hz := hb.size
 simp at hz
 have K1 := Lib.hid ((Blk.newAt _ _ _ (w.heap.size + 1) (by simp)).next hb)
 by_cases hle : lenW x y ≤ m
 ·have hcl : clampW x y m = (x, y) := by simp [clampW, hle]
  have d := fun o => K1.out.cell o
  have f := fun o => K1.out.frozen o
  have z := K1.out.lt
  go_wp2_with fail
  refine bodyPost_ret (v := .agg #[.int .i64 x, .int .i64 y]) (by simp [results, Tryz.results225, go_sem, d]) rfl ⟨by rw [hcl], ?_⟩
  have hb := HB.out
  go_grown
 ·have hcl : clampW x y m = (wrap64 ((wrap64 (x * m)).tdiv (lenW x y)), wrap64 ((wrap64 (y * m)).tdiv (lenW x y))) := by simp [clampW, hle]
  have hne : ((lenW x y) == 0) = false := by simp; omega
  go_wp2_with fail
  have hnz : ¬ lenW x y = 0 := by omega
  go_still_tail 13, (by kernel_rfl)
  change wpList _ _ _ _ _ w1.drew
  have d := fun o => K1.out.cell o
  have f := fun o => K1.out.frozen o
  have z := K1.out.lt
  go_wp2
  refine bodyPost_ret (v := .agg #[.int .i64 (wrap64 ((wrap64 (x * m)).tdiv (lenW x y))), .int .i64 (wrap64 ((wrap64 (y * m)).tdiv (lenW x y)))]) (by simp [results, Tryz.results225, go_sem, d]) rfl ⟨by rw [hcl], ?_⟩
  have hb := HB.out
  go_grown
end Go.Proofs.YtemnlheidghbmaaGreatDoor
namespace Go.Proofs.YtemnlheidghbmaaGreatDoor
open Go.RowKit Go.Sort
theorem cell_regrown_ {w w' : World} {b : Nat} (h : Below w.heap.size w w') (hb : b < w.heap.size) (o : Nat) : w'.cell? ⟨b, o, none⟩ = w.cell? ⟨b, o, none⟩ := (bcell h).1 b o hb
structure Car where
 tick : Int
 ax : Int
 ay : Int
 fx : Int
 fy : Int
 turn : Int
 gate : Int
 dn : Bool
 ov : Bool
def carV (c : Car) : Value := .agg #[.int .i64 c.tick, .int .i64 c.ax, .int .i64 c.ay, .int .i64 c.fx, .int .i64 c.fy, .int .i64 c.turn, .int .i64 c.gate, .bool c.dn, .bool c.ov]
noncomputable def fastW (fx fy : Int) (d : Nat) (p : Int) : Int × Int :=
 if p = 1 then clampW (wrap64 (fx + mulW (dirW d) 200)) (wrap64 (fy + mulW (dirW ((d + 12) % 16)) 200)) 2000
 else if p = 2 then (mulW fx 700, mulW fy 700) else (mulW fx 950, mulW fy 950)
set_option maxRecDepth 100000 in
set_option maxHeartbeats 2000000 in
theorem l13Fast_any (c : Car) (d : Nat) (hd : d < 16) (p : Int) (w : World) :
  Calls Tryz.prog 204 #[carV c, .int .i64 d, .int .i64 p] w fun e w' => e = .returned (.agg #[.int .i64 (fastW c.fx c.fy d p).1, .int .i64 (fastW c.fx c.fy d p).2]) ∧ Below w.heap.size w w' := by
 have hcase : fastW c.fx c.fy d p = fastW c.fx c.fy d p := rfl
 by_cases h1 : p = 1
 ·have hfw : fastW c.fx c.fy d p = clampW (wrap64 (c.fx + mulW (dirW d) 200)) (wrap64 (c.fy + mulW (dirW ((d + 12) % 16)) 200)) 2000 := by simp [fastW, h1]
  rw [hfw]
  clear hfw hcase
  subst h1
  generalize he2 : (d + 12) % 16 = d2
  unfold carV
  go_enter Tryz.func204, Tryz.ntmps204
  go_wp2_with fail
  refine (l2Direction_at d d2 hd he2 _).mono ?_
  rintro e w1 ⟨rfl, hb1⟩
  clear he2
  have HB1 := Lib.hid (ba (ba hb1))
  have K1 := Lib.hid (((Blk.new w 45 #[.int .i64 c.tick, .int .i64 c.ax, .int .i64 c.ay, .int .i64 c.fx, .int .i64 c.fy, .int .i64 c.turn, .int .i64 c.gate, .bool c.dn, .bool c.ov]).alloc _).next hb1)
  have R1 := Lib.hid ((Blk.newAt (w.alloc (.cells #[.int .i64 c.tick, .int .i64 c.ax, .int .i64 c.ay, .int .i64 c.fx, .int .i64 c.fy, .int .i64 c.turn, .int .i64 c.gate, .bool c.dn, .bool c.ov] 45)) 24 #[.int .i64 0, .int .i64 0] (w.heap.size + 1) (by simp)).next hb1)
  clear hb1
  go_wp2_with fail
  refine (l2Scale_any (dirW d) (dirW d2) 200 _).mono ?_
  rintro e w2 ⟨rfl, hb2⟩
  have HB2 := Lib.hid (below_next HB1.out hb2)
  have K2 := Lib.hid (K1.out.next hb2)
  have R2 := Lib.hid (R1.out.next hb2)
  clear hb2
  have ck := fun o => K2.out.cell o
  have zk := K2.out.lt
  go_wp2_with fail
  refine (l2Clamp_any _ _ 2000 (by decide) _).mono ?_
  rintro e w3 ⟨rfl, hb3⟩
  have HB3 := Lib.hid (below_next HB2.out (ba hb3))
  have R3 := Lib.hid (R2.out.next (ba hb3))
  have hb := HB3.out
  clear hb3 ck zk
  have cr := fun o => R3.out.cell o
  have fr := fun o => R3.out.frozen o
  have zr := R3.out.lt
  go_wp2_with fail
  refine bodyPost_ret (v := .agg #[.int .i64 (clampW (wrap64 (c.fx + mulW (dirW d) 200)) (wrap64 (c.fy + mulW (dirW d2) 200)) 2000).1, .int .i64 (clampW (wrap64 (c.fx + mulW (dirW d) 200)) (wrap64 (c.fy + mulW (dirW d2) 200)) 2000).2]) (by simp [results, Tryz.results204, go_sem, cr]) rfl ⟨rfl, ?_⟩
  go_grown
 ·by_cases h2 : p = 2
  ·have hfw : fastW c.fx c.fy d p = (mulW c.fx 700, mulW c.fy 700) := by simp [fastW, h2]
   rw [hfw]
   clear hfw hcase h1
   subst h2
   unfold carV
   go_enter Tryz.func204, Tryz.ntmps204
   go_wp2_with fail
   refine (l2Scale_any c.fx c.fy 700 _).mono ?_
   rintro e w1 ⟨rfl, hb1⟩
   have R1 := Lib.hid ((Blk.newAt (w.alloc (.cells #[.int .i64 c.tick, .int .i64 c.ax, .int .i64 c.ay, .int .i64 c.fx, .int .i64 c.fy, .int .i64 c.turn, .int .i64 c.gate, .bool c.dn, .bool c.ov] 45)) 24 #[.int .i64 0, .int .i64 0] (w.heap.size + 1) (by simp)).next hb1)
   have hb := ba (ba hb1)
   clear hb1
   have cr := fun o => R1.out.cell o
   have fr := fun o => R1.out.frozen o
   have zr := R1.out.lt
   go_wp2_with fail
   refine bodyPost_ret (v := .agg #[.int .i64 (mulW c.fx 700), .int .i64 (mulW c.fy 700)]) (by simp [results, Tryz.results204, go_sem, cr]) rfl ⟨rfl, ?_⟩
   go_grown
  ·have hfw : fastW c.fx c.fy d p = (mulW c.fx 950, mulW c.fy 950) := by simp [fastW, h1, h2]
   rw [hfw]
   clear hfw hcase
   have b1 : (p == 1) = false := by simpa using h1
   have b2 : (p == 2) = false := by simpa using h2
   unfold carV
   go_enter Tryz.func204, Tryz.ntmps204
   go_wp2_with fail
   refine (l2Scale_any c.fx c.fy 950 _).mono ?_
   rintro e w1 ⟨rfl, hb1⟩
   have R1 := Lib.hid ((Blk.newAt (w.alloc (.cells #[.int .i64 c.tick, .int .i64 c.ax, .int .i64 c.ay, .int .i64 c.fx, .int .i64 c.fy, .int .i64 c.turn, .int .i64 c.gate, .bool c.dn, .bool c.ov] 45)) 24 #[.int .i64 0, .int .i64 0] (w.heap.size + 1) (by simp)).next hb1)
   have hb := ba (ba hb1)
   clear hb1
   have cr := fun o => R1.out.cell o
   have fr := fun o => R1.out.frozen o
   have zr := R1.out.lt
   go_wp2_with fail
   refine bodyPost_ret (v := .agg #[.int .i64 (mulW c.fx 950), .int .i64 (mulW c.fy 950)]) (by simp [results, Tryz.results204, go_sem, cr]) rfl ⟨rfl, ?_⟩
   go_grown
def backW (v : Int) : Int := wrap64 ((wrap64 (-v)).tdiv 2)
def moveY (l : Lvl) (c : Car) : Car := if freeW l.walls c.ax (wrap64 (c.ay + c.fy)) then ⟨c.tick, c.ax, wrap64 (c.ay + c.fy), c.fx, c.fy, c.turn, c.gate, c.dn, c.ov⟩ else ⟨c.tick, c.ax, c.ay, c.fx, backW c.fy, c.turn, c.gate, c.dn, c.ov⟩
def moveW (l : Lvl) (c : Car) : Car := if freeW l.walls (wrap64 (c.ax + c.fx)) c.ay then moveY l ⟨c.tick, wrap64 (c.ax + c.fx), c.ay, c.fx, c.fy, c.turn, c.gate, c.dn, c.ov⟩ else moveY l ⟨c.tick, c.ax, c.ay, backW c.fx, c.fy, c.turn, c.gate, c.dn, c.ov⟩
set_option maxRecDepth 100000 in
set_option maxHeartbeats 4000000 in
theorem l13Move_any (l : Lvl) (ws gs : Sl) (c : Car) (w : World) (hr : RdB w ws.a ws.n l.walls) (hn : ws.n ≤ 1099511627776) :
  Calls Tryz.prog 205 #[lvlV l ws gs, carV c] w fun e w' => e = .returned (carV (moveW l c)) ∧ Below w.heap.size w w' := by
 have HR := Lib.hid hr
 clear hr
 rw [show carV c = .agg #[.int .i64 c.tick, .int .i64 c.ax, .int .i64 c.ay, .int .i64 c.fx, .int .i64 c.fy, .int .i64 c.turn, .int .i64 c.gate, .bool c.dn, .bool c.ov] from rfl]
 go_enter Tryz.func205, Tryz.ntmps205
 go_upto_region 2 with (fail)
 refine into_world (fun W => Below w.heap.size w W ∧ Blk W w.heap.size 29 #[.int .i64 l.id, .int .i64 l.ticks, .int .i64 l.sx, .int .i64 l.sy, .slice ws.a ws.n ws.c, .slice gs.a gs.n gs.c, .int .i64 l.f.1, .int .i64 l.f.2.1, .int .i64 l.f.2.2.1, .int .i64 l.f.2.2.2, .int .i64 l.bans] ∧ Blk W (w.heap.size + 1) 45 #[.int .i64 c.tick, .int .i64 c.ax, .int .i64 c.ay, .int .i64 c.fx, .int .i64 c.fy, .int .i64 c.turn, .int .i64 c.gate, .bool c.dn, .bool c.ov] ∧ Blk W (w.heap.size + 2) 45 #[.int .i64 0, .int .i64 0, .int .i64 0, .int .i64 0, .int .i64 0, .int .i64 0, .int .i64 0, .bool false, .bool false] ∧ Blk W (w.heap.size + 3) 24 #[.int .i64 (wrap64 (c.ax + c.fx)), .int .i64 c.ay]) ⟨by go_grown, (((Blk.new _ _ _).alloc _).alloc _).alloc _, ((Blk.newAt _ _ _ _ (by simp)).alloc _).alloc _, (Blk.newAt _ _ _ _ (by simp)).alloc _, Blk.newAt _ _ _ _ (by simp)⟩ ?_
 rintro W ⟨hb, kl, ks, kr, kx⟩
 have HB := Lib.hid hb
 have KL := Lib.hid kl
 have KS := Lib.hid ks
 have KR := Lib.hid kr
 have cl := fun o => kl.cell o
 have zl := kl.lt
 have cx := fun o => kx.cell o
 have zx := kx.lt
 clear hb kl ks kr kx
 go_wp2_with fail
 refine (l11Free_any l ws gs (wrap64 (c.ax + c.fx)) c.ay _ (HR.out.below HB.out) hn).mono ?_
 rintro e w1 ⟨rfl, hb1⟩
 have HB1 := Lib.hid (below_next HB.out hb1)
 have KL1 := Lib.hid (KL.out.next hb1)
 have KS1 := Lib.hid (KS.out.next hb1)
 have KR1 := Lib.hid (KR.out.next hb1)
 have hs1 := hb1.size
 have cs := fun o => KS1.out.cell o
 have fs := fun o => KS1.out.frozen o
 have zs := KS1.out.lt
 have cx1 : w1.cell? ⟨w.heap.size + 3, 0, none⟩ = some (.int .i64 (wrap64 (c.ax + c.fx))) := (cell_regrown_ hb1 zx 0).trans (cx 0)
 have cx2 : w1.cell? ⟨w.heap.size + 3, 1, none⟩ = some (.int .i64 c.ay) := (cell_regrown_ hb1 zx 1).trans (cx 1)
 clear cl zl cx hb1
 cases hf : freeW l.walls (wrap64 (c.ax + c.fx)) c.ay
 ·skip
  have hm : moveW l c = moveY l (⟨c.tick, c.ax, c.ay, (backW c.fx), c.fy, c.turn, c.gate, c.dn, c.ov⟩ : Car) := by simp [moveW, hf]
  have HM1 := Lib.hid hm
  clear hm hf
  go_upto_region 6 with (fail)
  refine into_world (fun W => Below w.heap.size w W ∧ w1.heap.size < W.heap.size ∧ Blk W w.heap.size 29 #[.int .i64 l.id, .int .i64 l.ticks, .int .i64 l.sx, .int .i64 l.sy, .slice ws.a ws.n ws.c, .slice gs.a gs.n gs.c, .int .i64 l.f.1, .int .i64 l.f.2.1, .int .i64 l.f.2.2.1, .int .i64 l.f.2.2.2, .int .i64 l.bans] ∧ Blk W (w.heap.size + 1) 45 #[.int .i64 c.tick, .int .i64 c.ax, .int .i64 c.ay, .int .i64 (backW c.fx), .int .i64 c.fy, .int .i64 c.turn, .int .i64 c.gate, .bool c.dn, .bool c.ov] ∧ Blk W (w.heap.size + 2) 45 #[.int .i64 0, .int .i64 0, .int .i64 0, .int .i64 0, .int .i64 0, .int .i64 0, .int .i64 0, .bool false, .bool false] ∧ Blk W w1.heap.size 24 #[.int .i64 c.ax, .int .i64 (wrap64 (c.ay + c.fy))]) ⟨?_, by simp, ?_, ?_, ?_, Blk.newAt _ _ _ _ (by simp)⟩ ?_
  ·have hb := HB1.out
   go_grown
  ·exact (KL1.out.far (by simp) _).alloc _
  ·exact (KS1.out.set_ 3 _).alloc _
  ·exact (KR1.out.far (by simp) _).alloc _
  clear cs fs zs cx1 cx2
  rintro W2 ⟨hb2, hs2, kl2, ks2, kr2, ky2⟩
  have HB2 := Lib.hid hb2
  have KL2 := Lib.hid kl2
  have KS2 := Lib.hid ks2
  have KR2 := Lib.hid kr2
  have cl := fun o => kl2.cell o
  have zl := kl2.lt
  have cy := fun o => ky2.cell o
  have zy := ky2.lt
  clear hb2 kl2 ks2 kr2 ky2
  go_wp2_with fail
  refine (l11Free_any l ws gs c.ax (wrap64 (c.ay + c.fy)) _ (HR.out.below HB2.out) hn).mono ?_
  rintro e w3 ⟨rfl, hb3⟩
  have HB3 := Lib.hid (below_next HB2.out hb3)
  have KS3 := Lib.hid (KS2.out.next hb3)
  have KR3 := Lib.hid (KR2.out.next hb3)
  have hs3 := hb3.size
  have cs := fun o => KS3.out.cell o
  have fs := fun o => KS3.out.frozen o
  have zs := KS3.out.lt
  have cr := fun o => KR3.out.cell o
  have fr := fun o => KR3.out.frozen o
  have zr := KR3.out.lt
  have cy1 : w3.cell? ⟨w1.heap.size, 0, none⟩ = some (.int .i64 c.ax) := (cell_regrown_ hb3 zy 0).trans (cy 0)
  have cy2 : w3.cell? ⟨w1.heap.size, 1, none⟩ = some (.int .i64 (wrap64 (c.ay + c.fy))) := (cell_regrown_ hb3 zy 1).trans (cy 1)
  clear cl zl cy hb3
  cases hg : freeW l.walls c.ax (wrap64 (c.ay + c.fy))
  ·skip
   have hm : moveY l (⟨c.tick, c.ax, c.ay, (backW c.fx), c.fy, c.turn, c.gate, c.dn, c.ov⟩ : Car) = (⟨c.tick, c.ax, c.ay, (backW c.fx), (backW c.fy), c.turn, c.gate, c.dn, c.ov⟩ : Car) := by simp [moveY, hg]
   have HM2 := Lib.hid hm
   clear hm hg
   go_wp2_with fail
   refine bodyPost_ret (v := carV (⟨c.tick, c.ax, c.ay, (backW c.fx), (backW c.fy), c.turn, c.gate, c.dn, c.ov⟩ : Car)) (by simp [results, Tryz.results205, go_sem, cr, carV, backW]) rfl ⟨by rw [HM1.out, HM2.out], ?_⟩
   have hb := HB3.out
   go_grown
  ·skip
   have hm : moveY l (⟨c.tick, c.ax, c.ay, (backW c.fx), c.fy, c.turn, c.gate, c.dn, c.ov⟩ : Car) = (⟨c.tick, c.ax, (wrap64 (c.ay + c.fy)), (backW c.fx), c.fy, c.turn, c.gate, c.dn, c.ov⟩ : Car) := by simp [moveY, hg]
   have HM2 := Lib.hid hm
   clear hm hg
   go_wp2_with fail
   refine bodyPost_ret (v := carV (⟨c.tick, c.ax, (wrap64 (c.ay + c.fy)), (backW c.fx), c.fy, c.turn, c.gate, c.dn, c.ov⟩ : Car)) (by simp [results, Tryz.results205, go_sem, cr, carV]) rfl ⟨by rw [HM1.out, HM2.out], ?_⟩
   have hb := HB3.out
   go_grown
 ·skip
  have hm : moveW l c = moveY l (⟨c.tick, (wrap64 (c.ax + c.fx)), c.ay, c.fx, c.fy, c.turn, c.gate, c.dn, c.ov⟩ : Car) := by simp [moveW, hf]
  have HM1 := Lib.hid hm
  clear hm hf
  go_upto_region 6 with (fail)
  refine into_world (fun W => Below w.heap.size w W ∧ w1.heap.size < W.heap.size ∧ Blk W w.heap.size 29 #[.int .i64 l.id, .int .i64 l.ticks, .int .i64 l.sx, .int .i64 l.sy, .slice ws.a ws.n ws.c, .slice gs.a gs.n gs.c, .int .i64 l.f.1, .int .i64 l.f.2.1, .int .i64 l.f.2.2.1, .int .i64 l.f.2.2.2, .int .i64 l.bans] ∧ Blk W (w.heap.size + 1) 45 #[.int .i64 c.tick, .int .i64 (wrap64 (c.ax + c.fx)), .int .i64 c.ay, .int .i64 c.fx, .int .i64 c.fy, .int .i64 c.turn, .int .i64 c.gate, .bool c.dn, .bool c.ov] ∧ Blk W (w.heap.size + 2) 45 #[.int .i64 0, .int .i64 0, .int .i64 0, .int .i64 0, .int .i64 0, .int .i64 0, .int .i64 0, .bool false, .bool false] ∧ Blk W w1.heap.size 24 #[.int .i64 (wrap64 (c.ax + c.fx)), .int .i64 (wrap64 (c.ay + c.fy))]) ⟨?_, by simp, ?_, ?_, ?_, Blk.newAt _ _ _ _ (by simp)⟩ ?_
  ·have hb := HB1.out
   go_grown
  ·exact ((KL1.out.far (by simp) _).far (by simp) _).alloc _
  ·exact ((KS1.out.set_ 1 _).set_ 2 _).alloc _
  ·exact ((KR1.out.far (by simp) _).far (by simp) _).alloc _
  clear cs fs zs cx1 cx2
  rintro W2 ⟨hb2, hs2, kl2, ks2, kr2, ky2⟩
  have HB2 := Lib.hid hb2
  have KL2 := Lib.hid kl2
  have KS2 := Lib.hid ks2
  have KR2 := Lib.hid kr2
  have cl := fun o => kl2.cell o
  have zl := kl2.lt
  have cy := fun o => ky2.cell o
  have zy := ky2.lt
  clear hb2 kl2 ks2 kr2 ky2
  go_wp2_with fail
  refine (l11Free_any l ws gs (wrap64 (c.ax + c.fx)) (wrap64 (c.ay + c.fy)) _ (HR.out.below HB2.out) hn).mono ?_
  rintro e w3 ⟨rfl, hb3⟩
  have HB3 := Lib.hid (below_next HB2.out hb3)
  have KS3 := Lib.hid (KS2.out.next hb3)
  have KR3 := Lib.hid (KR2.out.next hb3)
  have hs3 := hb3.size
  have cs := fun o => KS3.out.cell o
  have fs := fun o => KS3.out.frozen o
  have zs := KS3.out.lt
  have cr := fun o => KR3.out.cell o
  have fr := fun o => KR3.out.frozen o
  have zr := KR3.out.lt
  have cy1 : w3.cell? ⟨w1.heap.size, 0, none⟩ = some (.int .i64 (wrap64 (c.ax + c.fx))) := (cell_regrown_ hb3 zy 0).trans (cy 0)
  have cy2 : w3.cell? ⟨w1.heap.size, 1, none⟩ = some (.int .i64 (wrap64 (c.ay + c.fy))) := (cell_regrown_ hb3 zy 1).trans (cy 1)
  clear cl zl cy hb3
  cases hg : freeW l.walls (wrap64 (c.ax + c.fx)) (wrap64 (c.ay + c.fy))
  ·skip
   have hm : moveY l (⟨c.tick, (wrap64 (c.ax + c.fx)), c.ay, c.fx, c.fy, c.turn, c.gate, c.dn, c.ov⟩ : Car) = (⟨c.tick, (wrap64 (c.ax + c.fx)), c.ay, c.fx, (backW c.fy), c.turn, c.gate, c.dn, c.ov⟩ : Car) := by simp [moveY, hg]
   have HM2 := Lib.hid hm
   clear hm hg
   go_wp2_with fail
   refine bodyPost_ret (v := carV (⟨c.tick, (wrap64 (c.ax + c.fx)), c.ay, c.fx, (backW c.fy), c.turn, c.gate, c.dn, c.ov⟩ : Car)) (by simp [results, Tryz.results205, go_sem, cr, carV, backW]) rfl ⟨by rw [HM1.out, HM2.out], ?_⟩
   have hb := HB3.out
   go_grown
  ·skip
   have hm : moveY l (⟨c.tick, (wrap64 (c.ax + c.fx)), c.ay, c.fx, c.fy, c.turn, c.gate, c.dn, c.ov⟩ : Car) = (⟨c.tick, (wrap64 (c.ax + c.fx)), (wrap64 (c.ay + c.fy)), c.fx, c.fy, c.turn, c.gate, c.dn, c.ov⟩ : Car) := by simp [moveY, hg]
   have HM2 := Lib.hid hm
   clear hm hg
   go_wp2_with fail
   refine bodyPost_ret (v := carV (⟨c.tick, (wrap64 (c.ax + c.fx)), (wrap64 (c.ay + c.fy)), c.fx, c.fy, c.turn, c.gate, c.dn, c.ov⟩ : Car)) (by simp [results, Tryz.results205, go_sem, cr, carV]) rfl ⟨by rw [HM1.out, HM2.out], ?_⟩
   have hb := HB3.out
   go_grown
end Go.Proofs.YtemnlheidghbmaaGreatDoor
namespace Go.Proofs.YtemnlheidghbmaaGreatDoor
open Go.RowKit Go.Sort
section
variable {P : Program} {ops : Array Oper} {md : Region.Mode} {C : World → Prop}
def headAny (P : Program) (md : Region.Mode) (ops : Array Oper) (C : World → Prop) (n : Nat) (L : Array Bool → Act → Prop) : Nat → Array Bool → Act → Prop
 | 0, listed, a => L listed a
 | f + 1, listed, a => Region.ready md ops listed ≠ [] ∧ ∀ i ∈ Region.ready md ops listed, i < n ∧ qOp P ops C i (headAny P md ops C n L f (listed.setIfInBounds i true)) a
theorem any_of_head {n g : Nat} {L : Array Bool → Act → Prop} {Q' : Exit → Act → World → Prop} (hL : ∀ listed a, L listed a → ∀ w, C w → wpAny P md ops Q' g listed a w) (f : Nat) :
  ∀ (listed : Array Bool) (a : Act) (w : World), C w → headAny P md ops C n L f listed a → wpAny P md ops Q' (f + g) listed a w := by
 induction f with
 | zero => intro listed a w hw h; rw [Nat.zero_add]; exact hL _ _ h w hw
 | succ f ih =>
  intro listed a w hw h
  have e : f + 1 + g = (f + g) + 1 := by omega
  rw [e]
  exact ⟨fun h0 => absurd h0 h.1, fun i hi => wpOp_of_qOp hw (fun a' w' hw' k => ih _ a' w' hw' k) (h.2 i hi).2⟩
theorem head_first {n i : Nat} {oi : Oper} {v : Value} {L : Array Bool → Act → Prop} (hi : ops[i]? = some oi) (hsel : ∀ (j : Nat) (o : Oper) cs b, ops[j]? = some o → o.op ≠ .select cs b)
  (hs : Region.sinkB md ops n = true) (hc : Region.chainB md ops n = true) (hn : n < ops.size) (hin : i < n)
  (hdone : ∀ listed a, L listed a → ∀ j ∈ Region.ready md ops listed, n ≤ j) (f : Nat) :
  ∀ (listed : Array Bool) (a : Act), HeadInv md ops n listed →
   (∀ j oj, ops[j]? = some oj → j ≠ i → listed.getD j true = false → (∀ e ∈ oj.after, Region.binds md e = true → e.on ≠ i) → oi.apart ops oj = true) →
   i ∈ Region.ready md ops listed → YieldsIn P ops C oi v a →
   headAny P md ops C n L f (listed.setIfInBounds i true) (a.put oi.dst v) → headAny P md ops C n L (f + 1) listed a := by
 induction f with
 | zero =>
  intro listed a inv _ hr hy H
  have hne : Region.ready md ops listed ≠ [] := List.ne_nil_of_mem hr
  refine ⟨hne, fun j hj => ?_⟩
  have hjn : j < n := by
   by_cases h : j < n
   ·exact h
   ·exact absurd hj (tail_waits hs hc hn inv _ i rfl hin (mem_ready.1 hr).1 j (by omega))
  by_cases e : j = i
  ·subst e; exact ⟨hjn, hy.qOp hi H⟩
  ·have := hdone _ _ H j (ready_mono hj e)
   omega
 | succ f ih =>
  intro listed a inv hfree hr hy H
  refine ⟨List.ne_nil_of_mem hr, fun j hj => ?_⟩
  have hjn : j < n := by
   by_cases h : j < n
   ·exact h
   ·exact absurd hj (tail_waits hs hc hn inv _ i rfl hin (mem_ready.1 hr).1 j (by omega))
  by_cases e : j = i
  ·subst e; exact ⟨hjn, hy.qOp hi H⟩
  obtain ⟨hjun, oj, hoj, hall⟩ := mem_ready.1 hj
  have hnot : ∀ d ∈ oj.after, Region.binds md d = true → d.on ≠ i := by
   intro d hd hb hq
   have := hall d hd hb
   rw [hq, getD_both (mem_ready.1 hr).1] at this
   cases this
  refine ⟨hjn, qOp_mono (fun a' h3 => ih (listed.setIfInBounds j true) a' (inv.set hj hjn) ?_ (ready_mono hr (Ne.symm e)) h3.1 ?_)
   (qOp_put hoj (hfree j oj hoj e hjun hnot) (fun cs b => hsel i oi cs b hi) (fun cs b => hsel j oj cs b hoj) hy (H.2 j (ready_mono hj e)).2)⟩
  ·intro k ok hk hki hun hno
   refine hfree k ok hk hki ?_ hno
   by_cases q : j = k
   ·subst q; exact hjun
   ·rwa [getD_set_ne true q] at hun
  ·rw [Array.setIfInBounds_comm _ _ e]
   exact h3.2
theorem head_lex {n g : Nat} {K : Act → Prop} (hsel : Region.noSelect ops = true) (hs : Region.sinkB md ops n = true) (hc : Region.chainB md ops n = true) (hn : n < ops.size) (l : List Oper) :
  ∀ (k : Nat) (listed : Array Bool) (a : Act), (∀ j, j < l.length → l[j]? = ops[k + j]?) → k + l.length = n → HeadInv md ops n listed →
  Region.lexHead md ops g l.length k listed = true → wpQuiet P ops C K l a →
  headAny P md ops C n (fun listed' a' => Region.seqB md ops g n listed' = true ∧ K a') l.length listed a := by
 induction l with
 | nil =>
  intro k listed a _ hk _ hB h
  obtain rfl : k = n := by simpa using hk
  exact ⟨by simpa [Region.lexHead] using hB, h⟩
 | cons o l ih =>
  intro k listed a hl hk inv hB h
  have h0 : ops[k]? = some o := by simpa using (hl 0 (by simp)).symm
  simp only [List.length_cons, Region.lexHead, Bool.and_eq_true] at hB hk
  have hkn : k < n := by omega
  have hr : k ∈ Region.ready md ops listed := by simpa using hB.1.1
  obtain ⟨v, hy, hK⟩ := yieldsIn_of_qOp h0 (show qOp P ops C k (wpQuiet P ops C K l) a by unfold qOp; simp only [h0]; exact h)
  refine head_first h0 (Region.noSelect_spec hsel) hs hc hn hkn (fun _ _ q => seqB_ready q.1) l.length listed a inv (Region.free_spec h0 hB.1.2) hr hy
   (ih (k + 1) _ _ (fun j hj => ?_) (by omega) (inv.set hr hkn) hB.2 hK)
  have := hl (j + 1) (by simp; omega)
  simpa [Nat.add_assoc, Nat.add_comm 1 j] using this
theorem wp_region_quiet_tail {id : Nat} {Q : Exit → Act → World → Prop} {a : Act} {w : World} {l : List Oper} (n : Nat) (hm : P.follows .mixedOrders = true) (hB : Region.lexTailB .any l.toArray n = true) (hC : C { w with drawn := w.drawn + 1 })
  (h : wpQuiet P l.toArray C (fun a' => ∀ w', C w' → wpList P l.toArray Q (l.drop n) a' w') (l.take n) a) : (Code.region id l.toArray true).wp P Q a w := by
 simp only [Region.lexTailB, Bool.and_eq_true, decide_eq_true_eq] at hB
 obtain ⟨⟨⟨⟨hsel, hn⟩, hs⟩, hc⟩, hlex⟩ := hB
 have hn' : n < l.length := by simpa using hn
 have ht : (l.take n).length = n := by rw [List.length_take]; omega
 have hd : (l.drop n).length = l.toArray.size - n := by simp
 have inv0 : HeadInv .any l.toArray n (Array.replicate l.toArray.size false) := by
  refine ⟨by simp, fun j oj _ hl => ?_, fun t _ hts => getD_in (by simpa using hts) (getD_replicate_false _ _)⟩
  rw [getD_replicate_false] at hl
  cases hl
 have H := head_lex (md := .any) (g := l.toArray.size - n) hsel hs hc hn (l.take n) 0 _ a (by
  intro j hj
  rw [ht] at hj
  simp [hj]) (by simpa using ht) inv0 (by rw [ht]; exact hlex) h
 refine wp_region_any hm ?_
 have := any_of_head (Q' := Q) (g := l.toArray.size - n) (fun listed a' hL w' hw' => by
  have := wpAny_of_seq (md := .any) (Q' := Q) (l.drop n) n listed a' w' (fun j => by simp [List.getElem?_drop]) (by rw [hd]; exact hL.1) (hL.2 w' hw')
  rwa [hd] at this) _ _ _ _ hC H
 rw [ht, show n + (l.toArray.size - n) = l.toArray.size by omega] at this
 exact this
theorem wp_region_qbt {id : Nat} {Q : Exit → Act → World → Prop} {a : Act} {w : World} {l : List Oper} (n : Nat) (hm : P.follows .mixedOrders = true) (hB : Region.lexTailB .any l.toArray n = true)
  (h : wpQuiet P l.toArray (fun w' => ∃ p : Regrown, w' = grow (redrawn w p.d) p.os) (fun a' => ∀ w', Below w.heap.size w w' → wpList P l.toArray Q (l.drop n) a' w') (l.take n) a) : (Code.region id l.toArray true).wp P Q a w :=
 wp_region_quiet_tail (C := fun w' => ∃ p : Regrown, w' = grow (redrawn w p.d) p.os) n hm hB ⟨⟨w.drawn + 1, #[]⟩, by rw [grow_empty]; rfl⟩ (by
  refine wpQuiet_imp ?_ _ _ (by simpa using h)
  rintro a' h' w' ⟨p, rfl⟩
  exact h' _ (below_regrown w p.d p.os))
end
end Go.Proofs.YtemnlheidghbmaaGreatDoor

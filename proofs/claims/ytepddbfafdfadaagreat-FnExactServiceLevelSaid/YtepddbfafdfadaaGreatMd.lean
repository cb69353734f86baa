/-
  laws.markBoxS, markIntS, heldBoxS, heldIntS: numbers written into a row of the call's own, and found again.
-/
import Derived.Test.YtepddbfafdfadaaGreatMz
namespace Go.Proofs.YtepddbfafdfadaaGreat
open Go.RowKit Go.Sort

def markB (k : Int) (n : Nat) : List Bx := (List.range n).map fun i : Nat => (k + 4 * (i : Int), k + 4 * (i : Int) + 1, k + 4 * (i : Int) + 1 + 1, k + 4 * (i : Int) + 1 + 1 + 1)
theorem markB_length (k : Int) (n : Nat) : (markB k n).length = n := by simp [markB]
theorem markB_get (k : Int) (n i : Nat) (h : i < n) : (markB k n)[i]? = some (k + 4 * (i : Int), k + 4 * (i : Int) + 1, k + 4 * (i : Int) + 1 + 1, k + 4 * (i : Int) + 1 + 1 + 1) := by simp [markB, h]
theorem markB_succ (k : Int) (n : Nat) : markB k (n + 1) = markB k n ++ [(k + 4 * (n : Int), k + 4 * (n : Int) + 1, k + 4 * (n : Int) + 1 + 1, k + 4 * (n : Int) + 1 + 1 + 1)] := by simp [markB, List.range_succ]
def markZ (k : Int) (n : Nat) : List Int := (List.range n).map fun i : Nat => k + (i : Int)
theorem markZ_length (k : Int) (n : Nat) : (markZ k n).length = n := by simp [markZ]
theorem markZ_get (k : Int) (n i : Nat) (h : i < n) : (markZ k n)[i]? = some (k + (i : Int)) := by simp [markZ, h]
theorem markZ_succ (k : Int) (n : Nat) : markZ k (n + 1) = markZ k n ++ [k + (n : Int)] := by simp [markZ, List.range_succ]
theorem ownB_some {g c : Nat} (h : 0 < c) : ownB (some (⟨g, 0, none⟩ : Addr)) c = some g := by unfold ownB; rw [if_neg (by omega)]; rfl

set_option maxRecDepth 100000 in
set_option maxHeartbeats 2000000 in
theorem markB_any (B : Nat) (A : Option Addr) (n c : Nat) (bs : List Bx) (k0 : Int) (w : World) (h : Ow B w 44 4 A n c (cellsB bs)) (hk0 : 0 ≤ k0) (hk1 : k0 ≤ 1125899906842624) (hn : n ≤ 1048576) :
    Calls Tryz.prog 66 #[.slice A n c, .int .i64 k0] w fun e w' => e = .returned (.int .i64 (k0 + 4 * n)) ∧ Ow B w' 44 4 A n c (cellsB (markB k0 n)) ∧ w.grownBy w' (ownB A c) := by
  have hl0 := h.len
  rcases Nat.eq_zero_or_pos n with hn0 | hn0
  · subst hn0
    obtain rfl : bs = [] := List.eq_nil_of_length_eq_zero (by rw [cellsB_len] at hl0; omega)
    have H := Lib.hid h
    clear h hl0
    go_enter Tryz.func66, Tryz.ntmps66
    go_wp2
    go_loop [1, 5] (fun k i => k = .int .i64 k0 ∧ i = .int .i64 0) (fun _ _ => 0)
    case atStart => exact ⟨rfl, rfl⟩
    case round =>
      obtain ⟨rfl, rfl⟩ := hrel
      go_wp2
      go_ret
      exact ⟨ret_int (by simp), by simpa [markB, cellsX] using H.out, World.grownBy.refl w _⟩
  · have hle := h.le
    obtain ⟨g, cur, rfl, hB, hb, _, hcm, hcs, _⟩ := h.blk (by omega)
    have HB := Lib.hid hb
    have HCS := Lib.hid hcs
    rw [ownB_some (by omega)]
    clear h hb hcs hl0
    go_enter Tryz.func66, Tryz.ntmps66
    go_wp2
    go_loopw [1, 5] (fun kk i wr => ∃ k : Nat, k ≤ n ∧ i = .int .i64 k ∧ kk = .int .i64 (k0 + 4 * k) ∧ Hid (w.grownBy wr (some g) ∧ ∃ cur, Blk wr g 44 cur ∧ cur.size = c * 4 ∧ cur.toList.take (k * 4) = cellsB (markB k0 k))) (fun _ i _ => n - (intOf i).toNat)
    case atStart => exact ⟨0, Nat.zero_le _, rfl, by simp, World.grownBy.refl w _, cur, HB.out, HCS.out, by simp [markB, cellsX]⟩
    case round =>
      obtain ⟨k, hk, rfl, rfl, HR⟩ := hrel
      by_cases hlt : k < n
      · obtain ⟨cu, hbk, hcs, hfl⟩ := HR.out.2
        have h0 : k * 4 < cu.size := by omega
        have h1 : k * 4 + 1 < cu.size := by omega
        have h2 : k * 4 + 2 < cu.size := by omega
        have h3 : k * 4 + 3 < cu.size := by omega
        obtain ⟨x0, c0⟩ : ∃ v, wr.cell? ⟨g, k * 4, none⟩ = some v := ⟨_, (hbk.cell _).trans (Array.getElem?_eq_getElem h0)⟩
        obtain ⟨x1, c1⟩ : ∃ v, wr.cell? ⟨g, k * 4 + 1, none⟩ = some v := ⟨_, (hbk.cell _).trans (Array.getElem?_eq_getElem h1)⟩
        obtain ⟨x2, c2⟩ : ∃ v, wr.cell? ⟨g, k * 4 + 2, none⟩ = some v := ⟨_, (hbk.cell _).trans (Array.getElem?_eq_getElem h2)⟩
        obtain ⟨x3, c3⟩ : ∃ v, wr.cell? ⟨g, k * 4 + 3, none⟩ = some v := ⟨_, (hbk.cell _).trans (Array.getElem?_eq_getElem h3)⟩
        have hf := fun o => hbk.frozen o
        have hgl := hbk.lt
        have HBK := Lib.hid hbk
        have HFL := Lib.hid hfl
        have HCZ := Lib.hid hcs
        have q1 : k0 + 4 * (k : Int) + 1 + 1 + 1 + 1 = k0 + 4 * ((k + 1 : Nat) : Int) := by push_cast; omega
        have Q1 := Lib.hid q1
        clear hbk hfl hcs q1 h0 h1 h2 h3
        go_wp2
        have hsr := setRun_take (encB (k0 + 4 * (k : Int), k0 + 4 * (k : Int) + 1, k0 + 4 * (k : Int) + 1 + 1, k0 + 4 * (k : Int) + 1 + 1 + 1)) cu (k * 4) (by rw [HCZ.out, encB_len]; omega)
        refine ⟨⟨k + 1, by omega, by go_num, by rw [← Q1.out], Only.set_ (Only.set_ (Only.set_ (Only.set_ HR.out.1 (.inl rfl) _) (.inl rfl) _) (.inl rfl) _) (.inl rfl) _, _, (((HBK.out.set_ _ _).set_ _ _).set_ _ _).set_ _ _, hsr.1.trans HCZ.out, ?_⟩, by simp [intOf]; omega⟩
        have := hsr.2
        rw [HFL.out] at this
        show List.take _ _ = cellsX encB _
        rw [markB_succ, cellsX_append, cellsX_one, show (k + 1) * 4 = k * 4 + 4 by omega]
        exact this
      · obtain ⟨cu, hbk, hcs, hfl⟩ := HR.out.2
        have HBK := Lib.hid hbk
        have HFL := Lib.hid hfl
        have HCZ := Lib.hid hcs
        clear hbk hfl hcs
        go_wp2
        go_ret
        have hkn : k = n := by omega
        subst hkn
        exact ⟨rfl, Ow.mk_ (by rw [cellsB_len, markB_length]) hB HBK.out hle hcm HCZ.out HFL.out, HR.out.1⟩

set_option maxRecDepth 100000 in
set_option maxHeartbeats 2000000 in
theorem markZ_any (B : Nat) (A : Option Addr) (n c : Nat) (zs : List Int) (k0 : Int) (w : World) (h : Ow B w 3 1 A n c (cellsI zs)) (hk0 : 0 ≤ k0) (hk1 : k0 ≤ 1125899906842624) (hn : n ≤ 1048576) :
    Calls Tryz.prog 65 #[.slice A n c, .int .i64 k0] w fun e w' => e = .returned (.int .i64 (k0 + n)) ∧ Ow B w' 3 1 A n c (cellsI (markZ k0 n)) ∧ w.grownBy w' (ownB A c) := by
  have hl0 := h.len
  rcases Nat.eq_zero_or_pos n with hn0 | hn0
  · subst hn0
    obtain rfl : zs = [] := List.eq_nil_of_length_eq_zero (by simpa using hl0)
    have H := Lib.hid h
    clear h hl0
    go_enter Tryz.func65, Tryz.ntmps65
    go_wp2
    go_loop [1, 5] (fun k i => k = .int .i64 k0 ∧ i = .int .i64 0) (fun _ _ => 0)
    case atStart => exact ⟨rfl, rfl⟩
    case round =>
      obtain ⟨rfl, rfl⟩ := hrel
      go_wp2
      go_ret
      exact ⟨ret_int (by simp), by simpa [markZ] using H.out, World.grownBy.refl w _⟩
  · have hle := h.le
    obtain ⟨g, cur, rfl, hB, hb, _, hcm, hcs, _⟩ := h.blk (by omega)
    have HB := Lib.hid hb
    have HCS := Lib.hid hcs
    rw [ownB_some (by omega)]
    clear h hb hcs hl0
    go_enter Tryz.func65, Tryz.ntmps65
    go_wp2
    go_loopw [1, 5] (fun kk i wr => ∃ k : Nat, k ≤ n ∧ i = .int .i64 k ∧ kk = .int .i64 (k0 + k) ∧ Hid (w.grownBy wr (some g) ∧ ∃ cur, Blk wr g 3 cur ∧ cur.size = c * 1 ∧ cur.toList.take (k * 1) = cellsI (markZ k0 k))) (fun _ i _ => n - (intOf i).toNat)
    case atStart => exact ⟨0, Nat.zero_le _, rfl, by simp, World.grownBy.refl w _, cur, HB.out, HCS.out, by simp [markZ]⟩
    case round =>
      obtain ⟨k, hk, rfl, rfl, HR⟩ := hrel
      by_cases hlt : k < n
      · obtain ⟨cu, hbk, hcs, hfl⟩ := HR.out.2
        have h0 : k < cu.size := by omega
        obtain ⟨x0, c0⟩ : ∃ v, wr.cell? ⟨g, k, none⟩ = some v := ⟨_, (hbk.cell _).trans (Array.getElem?_eq_getElem h0)⟩
        have hf := fun o => hbk.frozen o
        have hgl := hbk.lt
        have HBK := Lib.hid hbk
        have HFL := Lib.hid hfl
        have HCZ := Lib.hid hcs
        have q1 : k0 + (k : Int) + 1 = k0 + ((k + 1 : Nat) : Int) := by push_cast; omega
        have Q1 := Lib.hid q1
        clear hbk hfl hcs q1 h0
        go_wp2
        have hsr := setRun_take [.int .i64 (k0 + (k : Int))] cu k (by rw [HCZ.out]; simp; omega)
        refine ⟨⟨k + 1, by omega, by go_num, by rw [← Q1.out], Only.set_ HR.out.1 (.inl rfl) _, _, HBK.out.set_ _ _, hsr.1.trans HCZ.out, ?_⟩, by simp [intOf]; omega⟩
        have := hsr.2
        have h2 := HFL.out
        rw [Nat.mul_one] at h2
        rw [h2] at this
        rw [markZ_succ, Nat.mul_one]
        simpa [setRun] using this
      · obtain ⟨cu, hbk, hcs, hfl⟩ := HR.out.2
        have HBK := Lib.hid hbk
        have HFL := Lib.hid hfl
        have HCZ := Lib.hid hcs
        clear hbk hfl hcs
        go_wp2
        go_ret
        have hkn : k = n := by omega
        subst hkn
        exact ⟨rfl, Ow.mk_ (by simp [markZ_length]) hB HBK.out hle hcm HCZ.out HFL.out, HR.out.1⟩

set_option maxRecDepth 100000 in
set_option maxHeartbeats 1000000 in
theorem heldB_any (A : Option Addr) (n c : Nat) (k0 : Int) (w : World) (h : RdB w A n (markB k0 n)) (hk0 : 0 ≤ k0) (hk1 : k0 ≤ 1125899906842624) (hn : n ≤ 1048576) :
    Calls Tryz.prog 112 #[.slice A n c, .int .i64 k0] w fun e w' => e = .returned (.int .i64 (k0 + 4 * n)) ∧ w = w' := by
  have HR := Lib.hid h
  clear h
  go_enter Tryz.func112, Tryz.ntmps112
  go_wp2
  go_loop [1, 5] (fun kk i => ∃ k : Nat, k ≤ n ∧ i = .int .i64 k ∧ kk = .int .i64 (k0 + 4 * k)) (fun _ i => n - (intOf i).toNat)
  case atStart => exact ⟨0, Nat.zero_le _, rfl, by simp⟩
  case round =>
    obtain ⟨k, hk, rfl, rfl⟩ := hrel
    by_cases hlt : k < n
    · obtain ⟨b, off, x, rfl, hb, hx, e0, e1, e2, e3⟩ := RdB.cells HR.out hlt
      rw [markB_get _ _ _ hlt] at hx
      injection hx with hx
      subst hx
      have q1 : k0 + 4 * (k : Int) + 1 + 1 + 1 + 1 = k0 + 4 * ((k + 1 : Nat) : Int) := by push_cast; omega
      have Q1 := Lib.hid q1
      clear q1
      simp only at e0 e1 e2 e3
      go_wp2
      go_round
      case rel => exact ⟨k + 1, by omega, by go_num, by rw [← Q1.out]⟩
      case measure => simp [intOf]; omega
    · go_wp2
      go_ret
      have hkn : k = n := by omega
      subst hkn
      exact ⟨rfl, rfl⟩

set_option maxRecDepth 100000 in
set_option maxHeartbeats 1000000 in
theorem heldZ_any (A : Option Addr) (n c : Nat) (k0 : Int) (w : World) (h : RdI .i64 w A n (markZ k0 n)) (hk0 : 0 ≤ k0) (hk1 : k0 ≤ 1125899906842624) (hn : n ≤ 1048576) :
    Calls Tryz.prog 68 #[.slice A n c, .int .i64 k0] w fun e w' => e = .returned (.int .i64 (k0 + n)) ∧ w = w' := by
  have HR := Lib.hid h
  clear h
  go_enter Tryz.func68, Tryz.ntmps68
  go_wp2
  go_loop [1, 5] (fun kk i => ∃ k : Nat, k ≤ n ∧ i = .int .i64 k ∧ kk = .int .i64 (k0 + k)) (fun _ i => n - (intOf i).toNat)
  case atStart => exact ⟨0, Nat.zero_le _, rfl, by simp⟩
  case round =>
    obtain ⟨k, hk, rfl, rfl⟩ := hrel
    by_cases hlt : k < n
    · obtain ⟨b, off, z, rfl, hb, hz, e0⟩ := HR.out.at_ hlt
      rw [markZ_get _ _ _ hlt] at hz
      injection hz with hz
      subst hz
      have q1 : k0 + (k : Int) + 1 = k0 + ((k + 1 : Nat) : Int) := by push_cast; omega
      have Q1 := Lib.hid q1
      clear q1
      go_wp2
      go_round
      case rel => exact ⟨k + 1, by omega, by go_num, by rw [← Q1.out]⟩
      case measure => simp [intOf]; omega
    · go_wp2
      go_ret
      have hkn : k = n := by omega
      subst hkn
      exact ⟨rfl, rfl⟩
end Go.Proofs.YtepddbfafdfadaaGreat

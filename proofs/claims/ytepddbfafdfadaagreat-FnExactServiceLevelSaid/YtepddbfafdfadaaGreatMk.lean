/-
  laws.markEntryS and laws.heldEntryS: numbers written into a row of the call's own, and found again.
-/
import Derived.Test.YtepddbfafdfadaaGreatBm
namespace Go.Proofs.YtepddbfafdfadaaGreat
open Go.RowKit Go.Sort

def markL (k : Int) (n : Nat) : List Ent := (List.range n).map fun i : Nat => (k + 2 * (i : Int), k + 2 * (i : Int) + 1)
theorem markL_length (k : Int) (n : Nat) : (markL k n).length = n := by simp [markL]
theorem markL_get (k : Int) (n i : Nat) (h : i < n) : (markL k n)[i]? = some (k + 2 * i, k + 2 * i + 1) := by simp [markL, h]

set_option maxHeartbeats 1000000 in
theorem markE_any (B : Nat) (A : Option Addr) (n c : Nat) (es : List Ent) (k0 : Int) (w : World) (h : OwE B w A n c es) (hk0 : 0 ≤ k0) (hk1 : k0 ≤ 1125899906842624) (hn : n ≤ 1099511627776) :
    Calls Tryz.prog 111 #[.slice A n c, .int .i64 k0] w fun e w' => e = .returned (.int .i64 (k0 + 2 * n)) ∧ OwE B w' A n c (markL k0 n) ∧ w.grownBy w' (ownB A c) := by
  rcases Nat.eq_zero_or_pos n with hn0 | hn0
  · subst hn0
    obtain rfl : es = [] := List.eq_nil_of_length_eq_zero h.rdE.len
    have H := Lib.hid h
    clear h
    go_enter Tryz.func111, Tryz.ntmps111
    go_wp2
    go_loop [1, 5] (fun k i => k = .int .i64 k0 ∧ i = .int .i64 0) (fun _ _ => 0)
    case atStart => exact ⟨rfl, rfl⟩
    case round =>
      obtain ⟨rfl, rfl⟩ := hrel
      go_wp2
      go_ret
      exact ⟨ret_int (by simp), by simpa [markL] using H.out, World.grownBy.refl w _⟩
  · have hle := h.le
    obtain ⟨g, cur, rfl, hB, hb, _, hcm, hcs, _⟩ := h.blk (by omega)
    have HB := Lib.hid hb
    have HCS := Lib.hid hcs
    have hob : ownB (some (⟨g, 0, none⟩ : Addr)) c = some g := by unfold ownB; rw [if_neg (by omega)]; rfl
    rw [hob]
    clear h hb hcs hob
    go_enter Tryz.func111, Tryz.ntmps111
    go_wp2
    go_loopw [1, 5] (fun kk i wr => ∃ k : Nat, k ≤ n ∧ i = .int .i64 k ∧ kk = .int .i64 (k0 + 2 * k) ∧ Hid (w.grownBy wr (some g) ∧ ∃ cur, Blk wr g 67 cur ∧ cur.size = c * 2 ∧ ∀ j, j < k * 2 → cur[j]? = (cellsE (markL k0 n))[j]?)) (fun _ i _ => n - (intOf i).toNat)
    case atStart => exact ⟨0, Nat.zero_le _, rfl, by simp, World.grownBy.refl w _, cur, HB.out, HCS.out, fun j hj => absurd hj (by omega)⟩
    case round =>
      obtain ⟨k, hk, rfl, rfl, HR⟩ := hrel
      by_cases hlt : k < n
      · obtain ⟨cu, hbk, hcs, hfl⟩ := HR.out.2
        have h0 : k * 2 < cu.size := by omega
        have h1 : k * 2 + 1 < cu.size := by omega
        obtain ⟨x0, hx0⟩ : ∃ x, cu[k * 2]? = some x := ⟨_, Array.getElem?_eq_getElem h0⟩
        obtain ⟨x1, hx1⟩ : ∃ x, cu[k * 2 + 1]? = some x := ⟨_, Array.getElem?_eq_getElem h1⟩
        have hc0 := (hbk.cell (k * 2)).trans hx0
        have hc1 := (hbk.cell (k * 2 + 1)).trans hx1
        have hf0 := hbk.frozen (k * 2)
        have hf1 := hbk.frozen (k * 2 + 1)
        have hd := cellsE_get _ _ _ (markL_get k0 n k hlt)
        have HD := Lib.hid hd
        have HBK := Lib.hid hbk
        have HFL := Lib.hid hfl
        have HCZ := Lib.hid hcs
        have q1 : k0 + 2 * (k : Int) + 1 + 1 = k0 + 2 * ((k + 1 : Nat) : Int) := by push_cast; omega
        have Q1 := Lib.hid q1
        clear hd hbk hfl hcs q1 h0 h1 hx0 hx1
        go_wp2
        refine ⟨⟨k + 1, by omega, by go_num, by rw [← Q1.out], Only.set_ (Only.set_ HR.out.1 (.inl rfl) _) (.inl rfl) _, _, (HBK.out.set_ _ _).set_ _ _, by simp [HCZ.out], fun j hj => ?_⟩, by simp [intOf]; omega⟩
        rw [Array.getElem?_setIfInBounds, Array.getElem?_setIfInBounds]
        by_cases e1 : k * 2 + 1 = j
        · subst e1
          rw [if_pos rfl, if_pos (by simp [HCZ.out]; omega)]
          exact HD.out.2.symm
        · rw [if_neg e1]
          by_cases e0 : k * 2 = j
          · subst e0
            rw [if_pos rfl, if_pos (by simp [HCZ.out]; omega)]
            exact HD.out.1.symm
          · rw [if_neg e0]
            exact HFL.out j (by omega)
      · obtain ⟨cu, hbk, hcs, hfl⟩ := HR.out.2
        have HBK := Lib.hid hbk
        have HFL := Lib.hid hfl
        have HCZ := Lib.hid hcs
        clear hbk hfl hcs
        go_wp2
        go_ret
        have hkn : k = n := by omega
        subst hkn
        refine ⟨rfl, Ow.mk_ (by rw [cellsE_length, markL_length]) hB HBK.out hle hcm HCZ.out ?_, HR.out.1⟩
        apply List.ext_getElem?
        intro j
        rw [List.getElem?_take]
        split
        · rename_i hj
          rw [Array.getElem?_toList]
          exact HFL.out j hj
        · rename_i hj
          rw [List.getElem?_eq_none (by rw [cellsE_length, markL_length]; omega)]

set_option maxHeartbeats 1000000 in
theorem heldE_any (A : Option Addr) (n c : Nat) (k0 : Int) (w : World) (h : RdE w A n (markL k0 n)) (hk0 : 0 ≤ k0) (hk1 : k0 ≤ 1125899906842624) (hn : n ≤ 1099511627776) :
    Calls Tryz.prog 113 #[.slice A n c, .int .i64 k0] w fun e w' => e = .returned (.int .i64 (k0 + 2 * n)) ∧ w = w' := by
  have HR := Lib.hid h
  clear h
  go_enter Tryz.func113, Tryz.ntmps113
  go_wp2
  go_loop [1, 5] (fun kk i => ∃ k : Nat, k ≤ n ∧ i = .int .i64 k ∧ kk = .int .i64 (k0 + 2 * k)) (fun _ i => n - (intOf i).toNat)
  case atStart => exact ⟨0, Nat.zero_le _, rfl, by simp⟩
  case round =>
    obtain ⟨k, hk, rfl, rfl⟩ := hrel
    by_cases hlt : k < n
    · obtain ⟨b, off, e, rfl, hb, he, h0, h1⟩ := HR.out.at_ hlt
      rw [markL_get _ _ _ hlt] at he
      injection he with he
      subst he
      have q1 : k0 + 2 * (k : Int) + 1 + 1 = k0 + 2 * ((k + 1 : Nat) : Int) := by push_cast; omega
      have Q1 := Lib.hid q1
      clear q1
      simp only at h0 h1
      go_wp2
      go_round
      case rel => exact ⟨k + 1, by omega, by go_num, by rw [← Q1.out]⟩
      case measure => simp [intOf]; omega
    · go_wp2
      go_ret
      have hkn : k = n := by omega
      subst hkn
      exact ⟨rfl, rfl⟩
theorem OwE.of_blk {B g : Nat} {w : World} {es : List Ent} (h : Blk w g 67 (cellsE es).toArray) (hn : es.length ≤ 1048576) (hB : B ≤ g) : OwE B w (some ⟨g, 0, none⟩) es.length es.length es :=
  Ow.mk_ (cellsE_length es) hB h (Nat.le_refl _) (by unfold maxLen; omega) (by simp [cellsE_length]) (by rw [List.take_of_length_le (by rw [Array.length_toList]; simp [cellsE_length])])
theorem Only.of_own {w w' : World} {g c : Nat} (h : w.grownBy w' (ownB (some ⟨g, 0, none⟩) c)) : Only g w w' := by
  unfold ownB at h
  split at h
  · exact ⟨h.os, h.tape, h.output, h.size, fun i hi _ => h.block i hi (by simp)⟩
  · exact h
end Go.Proofs.YtepddbfafdfadaaGreat

/-
  The drawing of numbers from a code: the reader of the reference's kit (l6Rd), its making and its pick. A reader stands for whatever bytes; pick gives a number from 0 to n-1.
-/
import Derived.Test.YtepddbfafdfadaaGreatMem
import Derived.Laws.BitsAllLaws
import Derived.Laws.BitsLemmas
namespace Go.Proofs.YtepddbfafdfadaaGreat
open Go.RowKit Go.Sort

/-- A slice of integers of kind k that reads as a list, nil let in. -/
def RdI (k : IntKind) (w : World) (A : Option Addr) (n : Nat) (zs : List Int) : Prop :=
  zs.length = n ∧ (0 < n → ∃ b off, A = some ⟨b, off, none⟩ ∧ b < w.heap.size ∧ ∀ j z, zs[j]? = some z → w.cell? ⟨b, off + j, none⟩ = some (.int k z))
section
variable {k : IntKind} {w w' : World} {A : Option Addr} {n : Nat} {zs : List Int}
theorem RdI.len (h : RdI k w A n zs) : zs.length = n := h.1
theorem RdI.at_ (h : RdI k w A n zs) {j : Nat} (hj : j < n) : ∃ b off z, A = some ⟨b, off, none⟩ ∧ b < w.heap.size ∧ zs[j]? = some z ∧ w.cell? ⟨b, off + j, none⟩ = some (.int k z) := by
  obtain ⟨b, off, hA, hb, hc⟩ := h.2 (by omega)
  have hl : j < zs.length := by rw [h.1]; exact hj
  exact ⟨b, off, zs[j], hA, hb, List.getElem?_eq_getElem hl, hc j _ (List.getElem?_eq_getElem hl)⟩
theorem RdI.keep (h : RdI k w A n zs) (hs : w.heap.size ≤ w'.heap.size) (hk : ∀ b o, 0 < n → A.map (·.block) = some b → b < w.heap.size → w'.cell? ⟨b, o, none⟩ = w.cell? ⟨b, o, none⟩) : RdI k w' A n zs := by
  refine ⟨h.1, fun hn => ?_⟩
  obtain ⟨b, off, hA, hlt, hc⟩ := h.2 hn
  exact ⟨b, off, hA, Nat.lt_of_lt_of_le hlt hs, fun j z hz => by rw [hk b _ hn (by rw [hA]; rfl) hlt]; exact hc j z hz⟩
theorem RdI.below (h : RdI k w A n zs) (hb : Below w.heap.size w w') : RdI k w' A n zs := h.keep hb.size fun b o _ _ hlt => (bcell hb).1 b o hlt
theorem RdI.only {g : Nat} (h : RdI k w A n zs) (ho : Only g w w') (hg : 0 < n → A.map (·.block) ≠ some g) : RdI k w' A n zs := h.keep ho.size fun b o h0 hb hlt => ho.cell hlt (by rintro rfl; exact hg h0 hb) o
theorem RdI.take (h : RdI k w A n zs) {m : Nat} (hm : m ≤ n) : RdI k w A m (zs.take m) := by
  refine ⟨by rw [List.length_take, h.1]; omega, fun hn => ?_⟩
  obtain ⟨b, off, hA, hlt, hc⟩ := h.2 (by omega)
  exact ⟨b, off, hA, hlt, fun j e he => hc j e (by
    rw [List.getElem?_take] at he
    split at he
    · exact he
    · cases he)⟩
end

theorem ofInt_i64 (a : Nat) (ha : a < 9223372036854775808) : (BitVec.ofInt 64 (a : Int)).toNat = a := by
  rw [BitVec.ofInt_natCast, BitVec.toNat_ofNat]; exact Nat.mod_eq_of_lt (by omega)
theorem i64_xor_nat (a b : Nat) (ha : a < 9223372036854775808) (hb : b < 9223372036854775808) : bits .xor .i64 (a : Int) (b : Int) = ((a ^^^ b : Nat) : Int) := by
  have hx : a ^^^ b < 2 ^ 63 := Nat.xor_lt_two_pow (by omega) (by omega)
  show IntKind.i64.wrap ((BitVec.ofInt 64 (a : Int) ^^^ BitVec.ofInt 64 (b : Int)).toNat : Int) = _
  rw [BitVec.toNat_xor, ofInt_i64 a ha, ofInt_i64 b hb, IntKind.wrap_i64]
  omega

/-- A reader at block g, in whose code p numbers were read. -/
def Rdr (w : World) (g p : Nat) : Prop :=
  ∃ (A : Option Addr) (n c : Nat) (zs : List Int), Blk w g 131 #[.slice A n c, .int .i64 p] ∧ RdI .u8 w A n zs ∧ (∀ z ∈ zs, 0 ≤ z ∧ z ≤ 255) ∧ n ≤ 2000 ∧ (0 < n → ∀ b, A.map (·.block) = some b → b < g)
theorem Rdr.lt {w : World} {g p : Nat} (h : Rdr w g p) : g < w.heap.size := by
  obtain ⟨A, n, c, zs, hb, _⟩ := h
  exact hb.lt
theorem Rdr.next {w w' : World} {g p : Nat} (h : Rdr w g p) (hb : Below w.heap.size w w') : Rdr w' g p := by
  obtain ⟨A, n, c, zs, h1, h2, h3, h4, h5⟩ := h
  exact ⟨A, n, c, zs, h1.next hb, h2.below hb, h3, h4, h5⟩

/-- a store into a block that was made behind the reader -/
theorem Rdr.set_ {w : World} {g p : Nat} (h : Rdr w g p) {a : Addr} (ha : g < a.block) (u : Value) : Rdr (w.setCell a u) g p := by
  obtain ⟨A, n, c, zs, h1, h2, h3, h4, h5⟩ := h
  exact ⟨A, n, c, zs, h1.far (by omega) u, h2.only (g := a.block) ((Only.refl _ _).set_ (.inl rfl) u) (fun h0 hb => by have := h5 h0 _ hb; omega), h3, h4, h5⟩
theorem Rdr.only {w w' : World} {g g' p : Nat} (h : Rdr w g p) (ho : Only g' w w') (hg : g < g') : Rdr w' g p := by
  obtain ⟨A, n, c, zs, h1, h2, h3, h4, h5⟩ := h
  exact ⟨A, n, c, zs, h1.only ho (by omega), h2.only ho (fun h0 hb => by have := h5 h0 _ hb; omega), h3, h4, h5⟩
theorem Rdr.grown {w w' : World} {g p : Nat} (h : Rdr w g p) {row : Option Nat} (ho : w.grownBy w' row) (hg : ∀ b, row = some b → g < b) : Rdr w' g p := by
  obtain ⟨A, n, c, zs, h1, h2, h3, h4, h5⟩ := h
  refine ⟨A, n, c, zs, (ho.block g h1.lt (fun e => by have := hg g e.symm; omega)).trans h1, h2.keep ho.size (fun b o h0 hb hlt => World.cell?_of_block (w := w) (ho.block b hlt (fun e => by have := hg b e.symm; have := h5 h0 _ hb; omega))), h3, h4, h5⟩

/-- what pick leaves -/
def PickPost (g p : Nat) (n : Int) (w : World) (e : Ending) (w' : World) : Prop :=
  ∃ v : Int, e = .returned (.int .i64 v) ∧ 0 ≤ v ∧ (1 ≤ n → v < n) ∧ Rdr w' g (p + 1) ∧ Only g w w'

theorem l6Open_any (A : Option Addr) (n c : Nat) (zs : List Int) (w : World) (hr : RdI .u8 w A n zs) (hz : ∀ z ∈ zs, 0 ≤ z ∧ z ≤ 255) (hn : n ≤ c) (hc : c ≤ maxLen) :
    Calls Tryz.prog 69 #[.slice A n c] w fun e w' => ∃ g, e = .returned (.pointer (some ⟨g, 0, none⟩)) ∧ w.heap.size ≤ g ∧ Rdr w' g 0 ∧ Below w.heap.size w w' := by
  have HR := Lib.hid hr
  have HZ := Lib.hid hz
  unfold maxLen at hc
  clear hr hz
  by_cases h2 : 2000 < n
  · obtain ⟨b, off, z, rfl, hb, _, _⟩ := HR.out.at_ (j := 0) (by omega)
    have h2' : (2000 : Int) < n := by omega
    have h3 : ¬ c = 0 := by omega
    go_enter Tryz.func69, Tryz.ntmps69
    go_wp2
    go_ret
    refine ⟨_, rfl, Nat.le_refl _, ⟨_, _, _, _, Blk.new _ _ _, (HR.out.take (m := 2000) (by omega)).below ((Below.refl _ _).alloc (Nat.le_refl _) _), fun z hz => HZ.out z (List.mem_of_mem_take hz), Nat.le_refl _, fun _ b' hb' => by simp at hb'; omega⟩, by go_grown⟩
  · have h2' : ¬ (2000 : Int) < n := by omega
    have hA : 0 < n → ∀ b, A.map (·.block) = some b → b < w.heap.size := fun h0 => by
      obtain ⟨b, off, z, rfl, hb, _, _⟩ := HR.out.at_ (j := 0) h0
      intro b' hb'
      simp at hb'
      omega
    have HA := Lib.hid hA; clear hA
    go_enter Tryz.func69, Tryz.ntmps69
    go_wp2
    go_ret
    exact ⟨_, rfl, Nat.le_refl _, ⟨_, _, _, _, Blk.new _ _ _, HR.out.below ((Below.refl _ _).alloc (Nat.le_refl _) _), HZ.out, by omega, HA.out⟩, by go_grown⟩

theorem xor_bd (x : Int) (h0 : 0 ≤ x) (h1 : x ≤ 1152921504606846976) : ∃ y : Int, bits .xor .i64 x (x / 64) = y ∧ 0 ≤ y ∧ y ≤ 2305843009213693952 := by
  obtain ⟨a, rfl⟩ := Int.eq_ofNat_of_zero_le h0
  have e : ((a : Int) / 64) = ((a / 64 : Nat) : Int) := by omega
  refine ⟨((a ^^^ (a / 64) : Nat) : Int), by rw [e]; exact i64_xor_nat _ _ (by omega) (by omega), by omega, ?_⟩
  have hx : a ^^^ (a / 64) < 2 ^ 61 := Nat.xor_lt_two_pow (by omega) (by omega)
  omega

theorem wrapI (x : Int) (h0 : 0 ≤ x) (h1 : x ≤ 9223372036854775807) : IntKind.i64.wrap x = x := IntWalk.i64_in x (by omega)

set_option maxHeartbeats 2000000 in
theorem pick_any (g : Nat) (n : Int) (p : Nat) (w : World) (h : Rdr w g p) (hp : p ≤ 1099511627776) :
    Calls Tryz.prog 71 #[.pointer (some ⟨g, 0, none⟩), .int .i64 n] w (PickPost g p n w) := by
  obtain ⟨A, m, c, zs, hb, hr, hz, hm, hA⟩ := h
  have hb0 : w.cell? ⟨g, 0, none⟩ = some (.slice A m c) := hb.cell 0
  have hb1 : w.cell? ⟨g, 1, none⟩ = some (.int .i64 p) := hb.cell 1
  have hf1 := hb.frozen 1
  have HB := Lib.hid hb
  have HR := Lib.hid hr
  have HZ := Lib.hid hz
  have HA := Lib.hid hA
  have hg := hb.lt
  have hend : ∀ v : Int, 0 ≤ v → (1 ≤ n → v < n) → ∀ k, PickPost g p n w (.returned (.int .i64 v)) ((w.setCell ⟨g, 1, none⟩ (.int .i64 ((p : Int) + 1))).drewN k) := by
    intro v h0 h1 k
    have ho : Only g w ((w.setCell ⟨g, 1, none⟩ (.int .i64 ((p : Int) + 1))).drewN k) := ((Only.refl g w).set_ (p := ⟨g, 1, none⟩) (.inl rfl) _).drewN k
    exact ⟨v, rfl, h0, h1, ⟨A, m, c, zs, HB.out.set_ 1 _, HR.out.only ho (fun h0 hb => by have := HA.out h0 _ hb; omega), HZ.out, hm, HA.out⟩, ho⟩
  have HE := Lib.hid hend
  clear hb hr hz hA hend
  have k0 : (w.setCell ⟨g, 1, none⟩ (.int .i64 ((p : Int) + 1))).cell? ⟨g, 0, none⟩ = some (.slice A m c) := (HB.out.set_ 1 _).cell 0
  have k1 : (w.setCell ⟨g, 1, none⟩ (.int .i64 ((p : Int) + 1))).cell? ⟨g, 1, none⟩ = some (.int .i64 ((p : Int) + 1)) := (HB.out.set_ 1 _).cell 1
  by_cases hn : n < 1
  · go_enter Tryz.func71, Tryz.ntmps71
    go_wp2
    go_ret
    exact HE.out 0 (Int.le_refl _) (by omega) 0
  · by_cases hm0 : m = 0
    · subst hm0
      go_enter Tryz.func71, Tryz.ntmps71
      go_wp2
      go_ret
      exact HE.out 0 (Int.le_refl _) (by omega) 0
    · have hm1 : ((m : Int) == 0) = false := by simp; omega
      have hcell : ∀ j, j < m → ∃ b off z, A = some ⟨b, off, none⟩ ∧ b < w.heap.size ∧ b ≠ g ∧ zs[j]? = some z ∧ (w.setCell ⟨g, 1, none⟩ (.int .i64 ((p : Int) + 1))).cell? ⟨b, off + j, none⟩ = some (.int .u8 z) := by
        intro j hj
        obtain ⟨b, off, z, hA, hb, hz, hc⟩ := HR.out.at_ hj
        have hne : b ≠ g := by
          intro hbg
          have := HA.out (by omega) b (by rw [hA]; rfl)
          omega
        exact ⟨b, off, z, hA, hb, hne, hz, by rw [World.cell?_setCell_other _ _ _ _ (by simp)]; exact hc⟩
      by_cases hpm : p < m
      · obtain ⟨b, off, z, rfl, hb, hne, hz, hc⟩ := hcell p hpm
        have hzb := HZ.out z (List.mem_of_getElem? hz)
        have hz0 : 0 ≤ z := hzb.1
        have hz1 : z ≤ 255 := hzb.2
        clear hz hzb hb0 hcell
        go_enter Tryz.func71, Tryz.ntmps71
        go_wp2
        go_ret
        exact HE.out _ (Int.emod_nonneg _ (by omega)) (fun _ => Int.emod_lt_of_pos _ (by omega)) 0
      · have hj1 : p % m < m := Nat.mod_lt _ (by omega)
        have hj2 : (p * 7 + 3) % m < m := Nat.mod_lt _ (by omega)
        obtain ⟨b, off, z, rfl, hb, hne, hz, hc⟩ := hcell (p % m) hj1
        obtain ⟨b', off', z', hA', hb', hne', hz', hc'⟩ := hcell ((p * 7 + 3) % m) hj2
        obtain ⟨rfl, rfl⟩ : b = b' ∧ off = off' := by simpa using hA'
        have hzb := HZ.out z (List.mem_of_getElem? hz)
        have hz0 : 0 ≤ z := hzb.1
        have hz1 : z ≤ 255 := hzb.2
        have hzb' := HZ.out z' (List.mem_of_getElem? hz')
        have hz0' : 0 ≤ z' := hzb'.1
        have hz1' : z' ≤ 255 := hzb'.2
        have hi1 : (0 : Int) ≤ (p : Int) % m := by omega
        have hi2 : (p : Int) % m < m := by omega
        have hi3 : (0 : Int) ≤ ((p : Int) * 7 + 3) % m := Int.emod_nonneg _ (by omega)
        have hi4 : ((p : Int) * 7 + 3) % m < m := Int.emod_lt_of_pos _ (by omega)
        have hi5 : ((p : Int) % m).toNat = p % m := by omega
        have hi6 : (((p : Int) * 7 + 3) % m).toNat = (p * 7 + 3) % m := by
          rw [show ((p : Int) * 7 + 3) % m = (((p * 7 + 3) % m : Nat) : Int) by push_cast; rfl]
          rfl
        have hq0 : (0 : Int) ≤ (p : Int) / m := Int.ediv_nonneg (by omega) (by omega)
        have hq1 : (p : Int) / m ≤ p := Int.ediv_le_self _ (by omega)
        obtain ⟨y, hy, hy0, hy1⟩ := xor_bd (z * 131 + z' * 1117 + p * 29 + (p : Int) / m * 53) (by omega) (by omega)
        clear hz hzb hz' hzb' hb0 hcell hA'
        go_enter Tryz.func71, Tryz.ntmps71
        go_wp2
        go_quiet (fail)
        go_wp2
        go_ret
        exact HE.out _ (Int.emod_nonneg _ (by omega)) (fun _ => Int.emod_lt_of_pos _ (by omega)) _
end Go.Proofs.YtepddbfafdfadaaGreat

/-
  Arguments that are slices of bytes or integers, opened.
-/
import Derived.Test.YtnfmlmkabioepaaFr
import Derived.Test.YtnfmlmkabioepaaDr
import Derived.Deep.Slices
namespace Go.Proofs.Ytnfmlmkabioepaa
open Go.RowKit Go.ChangeShapes Go.WideShapes Go.ChangeAt Go.Joins Go.Deep

def IntsOf (k : IntKind) (w : World) (A : Option Addr) (n c : Nat) (zs : List Int) : Prop := RdI k w A n zs ∧ n ≤ c ∧ c ≤ maxLen ∧ ∀ z ∈ zs, (Lit.int k z).wf = true
abbrev BytesIn := IntsOf .u8
abbrev IntsIn := IntsOf .i64
theorem BytesIn.bd {w : World} {A : Option Addr} {n c : Nat} {zs : List Int} (h : BytesIn w A n c zs) : ∀ z ∈ zs, 0 ≤ z ∧ z ≤ 255 := by
  intro z hz
  have := h.2.2.2 z hz
  simp only [Lit.wf, Bool.and_eq_true, decide_eq_true_eq] at this
  have h0 : IntKind.u8.min = 0 := by decide
  have h1 : IntKind.u8.max = 255 := by decide
  omega

theorem open_IntsOf {k : IntKind} {H : Type} {enc : TypeId × Value → H} {P : Program} {w : World} {t e : TypeId} {fuel : Nat} {A : Option Addr} {n c : Nat} {x : DataW H × List MemPlace}
    (ht : P.underlying t = some (.slice e)) (he : P.underlying e = some (.int k)) (ce : P.cellsOf e = 1)
    (h : DataW.trod enc P w 0 (fun _ => true) true fuel t [.slice A n c] = some x) :
    ∃ zs : List Int, IntsOf k w A n c zs := by
  rcases open_slice1 ht ce h with ⟨hcs, _⟩ | ⟨a, len, cap, m, n', V, D, Pl, hcs, _, hl, hm, hmm, _, hx⟩
  · simp at hcs
    obtain ⟨rfl, rfl, rfl⟩ := hcs
    exact ⟨[], ⟨rfl, fun h => absurd h (by omega)⟩, Nat.le_refl _, by simp [maxLen], fun e he => by cases he⟩
  · simp at hcs
    obtain ⟨rfl, rfl, rfl⟩ := hcs
    have hmn : n ≤ m := by rw [hmm]; simp; exact hl
    have hv : ∀ i, i < n → V i = .int k (numOf_ (V i)) ∧ (Lit.int k (numOf_ (V i))).wf = true := by
      intro i hi
      obtain ⟨_, t0⟩ := hx i (by omega)
      obtain ⟨q0, e0, _, w0⟩ := DataW.trod_int he t0
      have e0' : V i = .int k q0 := by simpa using e0
      rw [e0']
      exact ⟨rfl, w0⟩
    refine ⟨(List.range n).map fun i => numOf_ (V i), ⟨by simp, fun hn => ?_⟩, hl, hm, fun e he => ?_⟩
    · obtain ⟨b, off, spot⟩ := a
      have hs : spot = none := by
        have := World.cell?_spot (hx 0 (by omega)).1
        simpa [Addr.add] using this
      subst hs
      refine ⟨b, off, rfl, ?_, fun k' e he => ?_⟩
      · have := World.block_lt_of_cell? _ _ (hx 0 (by omega)).1
        simpa [Addr.add] using this
      · have hk : k' < n := by
          have := (List.getElem?_eq_some_iff.1 he).1
          simpa using this
        obtain ⟨g0, _⟩ := hx k' (by omega)
        obtain ⟨v0, _⟩ := hv k' hk
        have hee : e = numOf_ (V k') := by
          have := he
          simp [hk] at this
          exact this.symm
        rw [Addr.add_lit] at g0
        subst hee
        rw [g0, v0]; rfl
    · obtain ⟨i, hi, rfl⟩ := List.mem_map.1 he
      exact (hv i (List.mem_range.1 hi)).2

theorem open_BytesIn {H : Type} {enc : TypeId × Value → H} {P : Program} {w : World} {t e : TypeId} {fuel : Nat} {A : Option Addr} {n c : Nat} {x : DataW H × List MemPlace}
    (ht : P.underlying t = some (.slice e)) (he : P.underlying e = some (.int .u8)) (ce : P.cellsOf e = 1)
    (h : DataW.trod enc P w 0 (fun _ => true) true fuel t [.slice A n c] = some x) :
    ∃ zs : List Int, BytesIn w A n c zs := open_IntsOf ht he ce h
theorem open_IntsIn {H : Type} {enc : TypeId × Value → H} {P : Program} {w : World} {t e : TypeId} {fuel : Nat} {A : Option Addr} {n c : Nat} {x : DataW H × List MemPlace}
    (ht : P.underlying t = some (.slice e)) (he : P.underlying e = some (.int .i64)) (ce : P.cellsOf e = 1)
    (h : DataW.trod enc P w 0 (fun _ => true) true fuel t [.slice A n c] = some x) :
    ∃ zs : List Int, IntsIn w A n c zs := open_IntsOf ht he ce h
end Go.Proofs.Ytnfmlmkabioepaa

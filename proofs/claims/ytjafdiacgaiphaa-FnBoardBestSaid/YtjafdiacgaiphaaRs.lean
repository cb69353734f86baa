/-
  spec.BoardRemove.
-/
import Derived.Test.YtjafdiacgaiphaaBm
import Derived.Test.YtjafdiacgaiphaaBs
import Derived.Test.YtjafdiacgaiphaaSc
namespace Go.Proofs.Ytjafdiacgaiphaa
open Go.RowKit Go.Sort

/-- what BoardRemove gives -/
def removeE (es : List Ent) (p : Int) : List Ent × Bool := if validE es then (withoutE p es, decide (0 ≤ findE p es 0)) else ([], false)

theorem specBoardRemove_any (A : Option Addr) (n c : Nat) (es : List Ent) (p : Int) (w : World) (hr : RdE w A n es) (hn : n ≤ 1099511627776) :
    Calls Try.prog 31 #[.slice A n c, .int .i64 p] w fun e w' => ∃ A' c', e = .returned (.tuple #[.slice A' (removeE es p).1.length c', .bool (removeE es p).2]) ∧ OwE w.heap.size w' A' (removeE es p).1.length c' (removeE es p).1 ∧ Below w.heap.size w w' := by
  have HR := Lib.hid hr
  clear hr
  cases hv : validE es with
  | false =>
    have hfin : removeE es p = ([], false) := by simp [removeE, hv]
    have HF := Lib.hid hfin
    clear hfin
    go_enter Try.func31, Try.ntmps31
    go_wp2_with fail
    refine (specBoardValid_v _ _ _ _ _ HR.out hn).mono ?_
    rintro e w1 ⟨rfl, hB1⟩
    go_wp2
    go_ret2
    rw [HF.out]
    exact ⟨_, 0, rfl, Ow.bare _ _ _ _ _, hB1.alloc hB1.size _⟩
  | true =>
    have hfin : removeE es p = (withoutE p es, decide (0 ≤ findE p es 0)) := by simp [removeE, hv]
    have HF := Lib.hid hfin
    clear hfin
    go_enter Try.func31, Try.ntmps31
    go_wp2_with fail
    refine (specBoardValid_v _ _ _ _ _ HR.out hn).mono ?_
    rintro e w1 ⟨rfl, hB1⟩
    have hs1 := hB1.size
    go_wp2_with fail
    refine (l32Without_any _ _ _ _ _ _ (HR.out.below hB1) hn).mono ?_
    rintro e w2 ⟨A2, c2, rfl, hO2, hB2⟩
    have hR2 := (HR.out.below hB1).below hB2
    go_wp2_with fail
    refine (l32Find_any _ _ _ _ _ _ hR2 hn).mono ?_
    rintro e w3 ⟨rfl, rfl⟩
    go_wp2
    go_ret2
    rw [HF.out]
    exact ⟨A2, c2, rfl, hO2.mono hs1, below_next hB1 hB2⟩
end Go.Proofs.Ytjafdiacgaiphaa

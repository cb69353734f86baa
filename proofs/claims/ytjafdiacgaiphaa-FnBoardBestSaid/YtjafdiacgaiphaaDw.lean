/-
  Boards, drawn from a code: DrawBoardValid, DrawBoardLimit, DrawBoardRank, DrawBoardRemove, DrawBoardAdd. Whatever the bytes.
-/
import Derived.Test.YtjafdiacgaiphaaDb
namespace Go.Proofs.Ytjafdiacgaiphaa
open Go.RowKit Go.Sort

/-- a board that was drawn, with a rest -/
def Drawn (B : Nat) (R : List Value → Prop) (w : World) (e : Ending) (w' : World) : Prop :=
  ∃ (A : Option Addr) (c : Nat) (es : List Ent) (vs : List Value), e = .returned (.tuple (.slice A es.length c :: vs).toArray) ∧ R vs ∧ OwE B w' A es.length c es ∧ es.length ≤ 8 ∧ Below B w w'

theorem Below.only_ {B g : Nat} {a b c : World} (h : Below B a b) (k : Only g b c) (hg : B ≤ g) (hB : B ≤ b.heap.size) : Below B a c :=
  h.trans (k.below hg hB)

theorem drawBoardRank_any (A : Option Addr) (n c : Nat) (zs : List Int) (w : World) (hr : RdI .u8 w A n zs) (hz : ∀ z ∈ zs, 0 ≤ z ∧ z ≤ 255) (hn : n ≤ c) (hc : c ≤ maxLen) :
    Calls Try.prog 29 #[.slice A n c] w fun e w' => ∃ (A' : Option Addr) (c' : Nat) (es : List Ent) (v : Int), e = .returned (.tuple #[.slice A' es.length c', .int .i64 v]) ∧ 0 ≤ v ∧ v < 8 ∧ OwE w.heap.size w' A' es.length c' es ∧ es.length ≤ 8 ∧ Below w.heap.size w w' := by
  have H1 := Lib.hid (l6Open_any A n c zs w hr hz hn hc)
  clear hr hz hn hc
  go_enter Try.func29, Try.ntmps29
  go_wp2_with fail
  refine H1.out.mono ?_
  rintro e w1 ⟨g, rfl, hg, hR1, hb1⟩
  have hs1 := hb1.size
  have hgl := hR1.lt
  have HB1 := Lib.hid hb1
  have H2 := Lib.hid (l92Board_any g 0 w1 hR1 (by omega))
  clear H1 hR1 hb1
  go_wp2_with fail
  refine H2.out.mono ?_
  rintro e w2 ⟨A2, c2, es, p2, rfl, hO2, hl2, hp2, hR2, hW2⟩
  have HB2 := Lib.hid (Below.only_ HB1.out hW2 hg hs1)
  have hs2 := hW2.size
  have hg2 := HB2.out.size
  have H3 := Lib.hid (pick_any g 8 p2 w2 hR2 (by omega))
  have HO2 := Lib.hid hO2
  clear H2 hR2 hW2 hO2
  go_wp2_with fail
  refine H3.out.mono ?_
  rintro e w3 ⟨v, rfl, a3, b3, hR3, hW3⟩
  have c3 := b3 (by omega)
  go_wp2
  go_ret2
  exact ⟨A2, c2, es, v, rfl, a3, c3, (HO2.out.onlyB hW3 hgl).mono hs1, hl2, Below.only_ HB2.out hW3 hg hg2⟩

theorem drawBoardValid_any (A : Option Addr) (n c : Nat) (zs : List Int) (w : World) (hr : RdI .u8 w A n zs) (hz : ∀ z ∈ zs, 0 ≤ z ∧ z ≤ 255) (hn : n ≤ c) (hc : c ≤ maxLen) :
    Calls Try.prog 28 #[.slice A n c] w fun e w' => ∃ (A' : Option Addr) (c' : Nat) (es : List Ent), e = .returned (.slice A' es.length c') ∧ OwE w.heap.size w' A' es.length c' es ∧ es.length ≤ 8 ∧ Below w.heap.size w w' := by
  have H1 := Lib.hid (l6Open_any A n c zs w hr hz hn hc)
  clear hr hz hn hc
  go_enter Try.func28, Try.ntmps28
  go_wp2_with fail
  refine H1.out.mono ?_
  rintro e w1 ⟨g, rfl, hg, hR1, hb1⟩
  have hs1 := hb1.size
  have HB1 := Lib.hid hb1
  have H2 := Lib.hid (l92Board_any g 0 w1 hR1 (by omega))
  clear H1 hR1 hb1
  go_wp2_with fail
  refine H2.out.mono ?_
  rintro e w2 ⟨A2, c2, es, p2, rfl, hO2, hl2, hp2, hR2, hW2⟩
  have HB2 := Lib.hid (Below.only_ HB1.out hW2 hg hs1)
  have HO2 := Lib.hid hO2
  clear H2 hR2 hW2 hO2
  go_wp2
  go_ret
  exact ⟨A2, c2, es, rfl, HO2.out.mono hs1, hl2, HB2.out⟩
end Go.Proofs.Ytjafdiacgaiphaa

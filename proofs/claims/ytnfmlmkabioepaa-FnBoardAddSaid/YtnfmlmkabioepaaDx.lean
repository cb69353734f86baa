/-
  More boards, drawn from a code: DrawBoardLimit, DrawBoardRemove, DrawBoardAdd. Whatever the bytes.
-/
import Derived.Test.YtnfmlmkabioepaaDw
namespace Go.Proofs.Ytnfmlmkabioepaa
open Go.RowKit Go.Sort

theorem drawBoardLimit_any (A : Option Addr) (n c : Nat) (zs : List Int) (w : World) (hr : RdI .u8 w A n zs) (hz : ∀ z ∈ zs, 0 ≤ z ∧ z ≤ 255) (hn : n ≤ c) (hc : c ≤ maxLen) :
    Calls Try.prog 17 #[.slice A n c] w fun e w' => ∃ (A' : Option Addr) (c' : Nat) (es : List Ent), e = .returned (.slice A' es.length c') ∧ OwE w.heap.size w' A' es.length c' es ∧ es.length ≤ 8 ∧ Below w.heap.size w w' := by
  have H1 := Lib.hid (l6Open_any A n c zs w hr hz hn hc)
  clear hr hz hn hc
  go_enter Try.func17, Try.ntmps17
  go_wp2_with fail
  refine H1.out.mono ?_
  rintro e w1 ⟨g, rfl, hg, hR1, hb1⟩
  have hs1 := hb1.size
  have HB1 := Lib.hid hb1
  have H2 := Lib.hid (l92Board_any g 0 w1 hR1 (by omega))
  clear H1 hR1 hb1
  go_wp2_with fail
  refine H2.out.mono ?_
  rintro e w2 ⟨A2, c2, es, p2, rfl, hO2, hl2, hp2, hR2, hW2⟩
  have HB2 := Lib.hid (Below.only_ HB1.out hW2 hg hs1)
  have HO2 := Lib.hid hO2
  clear H2 hR2 hW2 hO2
  go_wp2
  go_ret
  exact ⟨A2, c2, es, rfl, HO2.out.mono hs1, hl2, HB2.out⟩

theorem drawBoardAdd_any (A : Option Addr) (n c : Nat) (zs : List Int) (w : World) (hr : RdI .u8 w A n zs) (hz : ∀ z ∈ zs, 0 ≤ z ∧ z ≤ 255) (hn : n ≤ c) (hc : c ≤ maxLen) :
    Calls Try.prog 11 #[.slice A n c] w fun e w' => ∃ (A' : Option Addr) (c' : Nat) (es : List Ent) (x : Ent), e = .returned (.tuple #[.slice A' es.length c', .agg #[.int .i64 x.1, .int .i64 x.2]]) ∧ OwE w.heap.size w' A' es.length c' es ∧ es.length ≤ 8 ∧ Below w.heap.size w w' := by
  have hW0 : Below w.heap.size w (w.alloc (.cells #[.int .i64 0, .int .i64 0] 25)) := (Below.refl _ _).alloc (Nat.le_refl _) _
  have H1 := Lib.hid (l6Open_any A n c zs _ (hr.below hW0) hz hn hc)
  have HK0 := Lib.hid (Blk.new w 25 #[.int .i64 0, .int .i64 0])
  have HW0 := Lib.hid hW0
  clear hW0
  clear hr hz hn hc
  go_enter Try.func11, Try.ntmps11
  go_wp2_with fail
  refine H1.out.mono ?_
  rintro e w1 ⟨g, rfl, hg, hR1, hb1⟩
  have hs1 := hb1.size
  simp only [World.size_alloc] at hs1 hg
  have HK1 := Lib.hid (HK0.out.next hb1)
  have hgl := hR1.lt
  have HB1 := Lib.hid (below_at HW0.out HW0.out.size hb1)
  have H2 := Lib.hid (l92Board_any g 0 w1 hR1 (by omega))
  clear H1 hR1 hb1
  go_wp2_with fail
  refine H2.out.mono ?_
  rintro e w2 ⟨A2, c2, es, p2, rfl, hO2, hl2, hp2, hR2, hW2⟩
  have HB2 := Lib.hid (Below.only_ HB1.out hW2 (by omega) (by omega))
  have hs2 := hW2.size
  have HK2 := Lib.hid (HK1.out.only hW2 (by omega))
  have hg2 := HB2.out.size
  have H3 := Lib.hid (l92Entry_any g p2 w2 hR2 (by omega))
  have HO2 := Lib.hid hO2
  clear H2 hR2 hW2 hO2
  go_wp2_with fail
  refine H3.out.mono ?_
  rintro e w3 ⟨v, p3, rfl, ⟨x, rfl⟩, hp3, hR3, hW3⟩
  have hK3 := HK2.out.only hW3 (by omega)
  have r0 := hK3.cell 0
  have r1 := hK3.cell 1
  have r2 := hK3.frozen 0
  have r3 := hK3.frozen 1
  simp at r0 r1
  have HOW := Lib.hid ((HO2.out.onlyB hW3 hgl).mono (B' := w.heap.size + 1) hs1)
  have HBW := Lib.hid (Below.only_ HB2.out hW3 (by omega) hg2)
  clear hK3 hW3 hR3
  go_wp2
  refine bodyPost_ret (v := .tuple #[.slice A2 es.length c2, .agg #[.int .i64 x.1, .int .i64 x.2]]) (by simp [results, Try.results11, go_sem, r0, r1]) rfl ?_
  exact ⟨A2, c2, es, x, rfl, (HOW.out.onlyB (((Only.refl w.heap.size w3).set_ (.inl rfl) _).set_ (.inl rfl) _) (by omega)).mono (by omega), hl2, (HBW.out.setCell (Nat.le_refl _) _).setCell (Nat.le_refl _) _⟩
end Go.Proofs.Ytnfmlmkabioepaa

import Derived.Test.YtnfmlmkabioepaaDe
namespace Go.Proofs.Ytnfmlmkabioepaa
open Go.RowKit Go.Sort

theorem outE_len (es : List Ent) (x : Ent) : (outE es x).length ≤ 4 := by unfold outE; exact List.length_take_le _ _

theorem cellsE_set (es : List Ent) : ∀ (k : Nat) (e : Ent) (s : Int), es[k]? = some e → (cellsE es).set (k * 2 + 1) (.int .i64 s) = cellsE (es.set k (e.1, s)) := by
  induction es with
  | nil => intro k e s h; simp at h
  | cons x r ih =>
    intro k e s h
    cases k with
    | zero =>
      simp at h
      subst h
      rfl
    | succ k =>
      have := ih k e s (by simpa using h)
      rw [show (k + 1) * 2 + 1 = (k * 2 + 1) + 1 + 1 by omega, cellsE_cons, List.set_cons_succ, List.set_cons_succ, this, List.set_cons_succ, cellsE_cons]

/-- a score of an owned row written -/
theorem OwE_score {B : Nat} {w : World} {A : Option Addr} {n c : Nat} {es : List Ent} (h : OwE B w A n c es) {k : Nat} (hk : k < n) :
    ∃ b, A = some ⟨b, 0, none⟩ ∧ B ≤ b ∧ b < w.heap.size ∧ w.frozen? ⟨b, k * 2 + 1, none⟩ = false ∧ (w.cell? ⟨b, k * 2 + 1, none⟩).isSome = true ∧ ∀ s : Int, ∃ es' : List Ent, es'.length = es.length ∧ OwE B (w.setCell ⟨b, k * 2 + 1, none⟩ (.int .i64 s)) A n c es' := by
  have hl := h.len
  rw [cellsE_length] at hl
  have hcp : 0 < c := Nat.lt_of_lt_of_le (Nat.lt_of_le_of_lt (Nat.zero_le _) hk) h.le
  obtain ⟨b, cur, rfl, hB, hb, hn, hm, hs, ht⟩ := h.blk hcp
  have he : es[k]? = some es[k] := List.getElem?_eq_getElem (by omega)
  refine ⟨b, rfl, hB, hb.lt, hb.frozen _, ?_, fun s => ⟨es.set k ((es[k]).1, s), by simp, ?_⟩⟩
  · rw [hb.cell, Array.getElem?_eq_getElem (by omega)]; rfl
  · refine Ow.mk_ (by rw [cellsE_length, List.length_set]; omega) hB (hb.set_ _ _) hn hm (by simp; omega) ?_
    rw [← cellsE_set es k _ s he, ← ht]
    rw [Array.toList_setIfInBounds, List.take_set]

theorem Only.own_ {g : Nat} {a b c : World} {row : Option Nat} (h : Only g a b) (k : b.grownBy c row) (hr : ∀ x, row = some x → a.heap.size ≤ x) : Only g a c :=
  ⟨k.os.trans h.os, k.tape.trans h.tape, k.output.trans h.output, Nat.le_trans h.size k.size, fun i hi hne => (k.block i (Nat.lt_of_lt_of_le hi h.size) (by
    intro e
    have := hr i e.symm
    omega)).trans (h.block i hi hne)⟩

/-- a board that was drawn -/
def BoardRes (B g p K : Nat) (w : World) (e : Ending) (w' : World) : Prop :=
  ∃ (A : Option Addr) (c : Nat) (es : List Ent) (p' : Nat), e = .returned (.slice A es.length c) ∧ OwE B w' A es.length c es ∧ es.length ≤ 8 ∧ p' ≤ p + K ∧ Rdr w' g p' ∧ Only g w w'

set_option maxRecDepth 100000 in
set_option maxHeartbeats 4000000 in
theorem l92Board_any (g p : Nat) (w : World) (h : Rdr w g p) (hp : p ≤ 900000000) :
    Calls Try.prog 44 #[.pointer (some ⟨g, 0, none⟩)] w (BoardRes w.heap.size g p 40 w) := by
  obtain ⟨i0, hi0, hz0, hz1, hz2⟩ := info_parts infoE
  have HI := Lib.hid hi0
  have HZ := Lib.hid hz0
  have HS := Lib.hid hz1
  have HBY := Lib.hid hz2
  clear hi0 hz0 hz1 hz2
  have hg := h.lt
  have hW0 : Below w.heap.size w (w.alloc (.cells #[] 25)) := (Below.refl _ _).alloc (Nat.le_refl _) _
  have HR0 := Lib.hid (h.next hW0)
  have HW0 := Lib.hid hW0
  clear h hW0
  go_enter Try.func44, Try.ntmps44
  go_wp2_with fail
  refine (pick_any g 8 p _ HR0.out (by omega)).mono ?_
  rintro e w1 ⟨n, rfl, a1, b1, hR1, hO1⟩
  have c1 := b1 (by omega)
  have HO1 := Lib.hid ((Only.of_below HW0.out g).trans hO1)
  have HR1 := Lib.hid hR1
  obtain ⟨N, rfl⟩ := Int.eq_ofNat_of_zero_le a1
  have hN : N ≤ 7 := by omega
  clear b1 hO1 hR1 a1 c1
  go_wp2_with fail
  go_loopg [3, 5] N (fun gg o i wr => ∃ (k : Nat) (A : Option Addr) (c : Nat) (es : List Ent), k ≤ N ∧ N - k ≤ gg ∧ i = .int .i64 k ∧ o = .slice A es.length c ∧ es.length ≤ 4 ∧ Hid (OwE w.heap.size wr A es.length c es ∧ (∃ p', p' ≤ p + 1 + 4 * k ∧ Rdr wr g p') ∧ Only g w wr))
  case atStart => exact ⟨0, _, 0, [], Nat.zero_le _, by omega, rfl, rfl, Nat.zero_le _, Ow.bare _ _ _ _ _, ⟨p + 1, by omega, HR1.out⟩, HO1.out⟩
  case round =>
    obtain ⟨k, A, c, es, hk, hgg, rfl, rfl, hl4, HH⟩ := hrel
    obtain ⟨HOW, ⟨p', hp', HR⟩, HO⟩ : Hid (OwE w.heap.size wr A es.length c es) ∧ (∃ p', p' ≤ p + 1 + 4 * k ∧ Hid (Rdr wr g p')) ∧ Hid (Only g w wr) := HH.out
    by_cases hlt : k < N
    · go_wp2_with fail
      refine (l92Entry_any g p' _ HR.out (by omega)).mono ?_
      rintro e w2 ⟨v, p2, rfl, ⟨x, rfl⟩, hp2, hR2, hO2⟩
      have HOW2 := Lib.hid (Ow.onlyB HOW.out hO2 hg)
      have HO2 := Lib.hid (HO.out.trans hO2)
      have HR2 := Lib.hid hR2
      clear hR2 hO2
      go_wp2_with fail
      refine (specBoardAdd_any _ _ _ es x _ (Ow.rdE HOW2.out) (by omega)).mono ?_
      rintro e w3 ⟨A3, c3, rfl, hOW3, hB3⟩
      have HO3 := Lib.hid (HO2.out.next hB3)
      have HR3 := Lib.hid (HR2.out.next hB3)
      have HOW2' := Lib.hid (Ow.next HOW2.out hB3)
      have hsz := HR2.out.lt
      have hs2 := HO2.out.size
      have HOW3 := Lib.hid (Ow.mono (B' := w.heap.size) hOW3 (by omega))
      clear hOW3 hB3 HOW2
      by_cases hc : (addE es x).2 = 0
      · have hc' : ((addE es x).2 == 0) = true := by simpa using hc
        have hlen : (addE es x).1.length ≤ 4 := by
          unfold addE at hc ⊢
          split at hc
          · rename_i h1
            rw [if_pos h1]
            split at hc
            · cases hc
            · rename_i h2
              rw [if_neg h2]
              split at hc
              · cases hc
              · rename_i h3
                rw [if_neg h3]
                exact outE_len es x
          · cases hc
        clear hc
        generalize addE es x = r at *
        go_wp2
        go_roundg (N - (k + 1))
        case measure => omega
        case rel => exact ⟨k + 1, A3, c3, r.1, by omega, by omega, by go_num, rfl, hlen, HOW3.out, ⟨p2, by omega, HR3.out⟩, HO3.out⟩
      · have hc' : ((addE es x).2 == 0) = false := by simpa using hc
        clear hc
        generalize addE es x = r at *
        go_wp2
        go_roundg (N - (k + 1))
        case measure => omega
        case rel => exact ⟨k + 1, A, c, es, by omega, by omega, by go_num, rfl, hl4, HOW2'.out, ⟨p2, by omega, HR3.out⟩, HO3.out⟩
    · go_wp2_with fail
      refine (pick_any g 16 p' _ HR.out (by omega)).mono ?_
      rintro e w2 ⟨v4, rfl, a4, b4, hR4, hO4⟩
      have HOW4 := Lib.hid (Ow.onlyB HOW.out hO4 hg)
      have HO4 := Lib.hid (HO.out.trans hO4)
      have HR4 := Lib.hid hR4
      clear b4 hO4 hR4
      by_cases h0 : v4 = 0
      · have h0' : (v4 == 0) = true := by simpa using h0
        clear h0
        go_wp2_with fail
        refine (l92Entry_any g _ _ HR4.out (by omega)).mono ?_
        rintro e w5 ⟨v, p5, rfl, ⟨x, rfl⟩, hp5, hR5, hO5⟩
        have HOW5 := Lib.hid (Ow.onlyB HOW4.out hO5 hg)
        have HO5 := Lib.hid (HO4.out.trans hO5)
        have HR5 := Lib.hid hR5
        have hg5 := hR5.lt
        have hs5 := HO5.out.size
        clear hO5 hR5
        go_wp2_with (at_builtin; refine wpList_append_ow _ rfl (.tmp 30) (.tmp 33) _ rfl w.heap.size 25 i0 _ 2 16 Try.underlying23 HI.out HZ.out HS.out HBY.out rfl (by omega) _ _ _ _ rfl (Ow.alloc HOW5.out _) _ 1 1 (cellsE [x]) rfl (Src.blk (Blk.new _ _ _) rfl) (cellsE_one _) (by unfold maxLen; omega) (by omega) (by simp; omega) ?_; intro A2 c2 w6 hown2 hg2 _)
        have HO := Lib.hid hown2
        have HG := Lib.hid hg2
        clear hown2 hg2
        go_wp2
        go_ret
        have hlo := (HOW5.out.alloc (.cells #[.int .i64 x.1, .int .i64 x.2] 25))
        refine ⟨A2, c2, es ++ [x], p5, by simp, ?_, by simp; omega, by omega, ?_, ?_⟩
        · have := HO.out
          rw [← cellsE_append] at this
          simpa [OwE] using this
        · exact (HR5.out.next ((Below.refl _ _).alloc (Nat.le_refl _) _)).grown HG.out fun k hk => by
            unfold ownB at hk
            split at hk
            · cases hk
            · have := (hlo.lt hk (by omega)).1; omega
        · exact (HO5.out.next ((Below.refl _ _).alloc (Nat.le_refl _) _)).own_ HG.out fun k hk => by
            unfold ownB at hk
            split at hk
            · cases hk
            · exact (hlo.lt hk (by omega)).1
      · have h0' : (v4 == 0) = false := by simpa using h0
        by_cases h1 : v4 = 1
        · have h1' : (v4 == 1) = true := by simpa using h1
          clear h0 h1
          rcases Nat.eq_zero_or_pos es.length with hl0 | hl0
          · have hl' : ¬ (0 : Int) < es.length := by omega
            go_wp2
            go_ret
            exact ⟨A, c, es, p' + 1, by rw [hl0]; rfl, HOW4.out, by omega, by omega, HR4.out, HO4.out⟩
          · have hl' : (0 : Int) < es.length := by omega
            go_wp2_with fail
            refine (pick_any g _ _ _ HR4.out (by omega)).mono ?_
            rintro e w5 ⟨v5, rfl, a5, b5, hR5, hO5⟩
            have c5 := b5 (by omega)
            have HOW5 := Lib.hid (Ow.onlyB HOW4.out hO5 hg)
            have HO5 := Lib.hid (HO4.out.trans hO5)
            have HR5 := Lib.hid hR5
            clear b5 hO5 hR5
            go_wp2_with fail
            refine (pick_any g 20 _ _ HR5.out (by omega)).mono ?_
            rintro e w6 ⟨v6, rfl, a6, b6, hR6, hO6⟩
            have hOW6 := Ow.onlyB HOW5.out hO6 hg
            have HO6 := Lib.hid (HO5.out.trans hO6)
            have HR6 := Lib.hid hR6
            clear b6 hO6 hR6
            obtain ⟨K, rfl⟩ := Int.eq_ofNat_of_zero_le a5
            have hK : K < es.length := by omega
            obtain ⟨b, rfl, hB, hb, hf, hcs, hset⟩ := OwE_score hOW6 hK
            obtain ⟨u, hu⟩ := Option.isSome_iff_exists.1 hcs
            obtain ⟨es', hl', hset'⟩ := hset v6
            have HSET := Lib.hid hset'
            clear hset hset' hOW6 hcs
            go_wp2
            go_ret
            refine ⟨_, c, es', p' + 3, by rw [hl']; rfl, by rw [hl']; exact HSET.out, by omega, by omega, HR6.out.set_ (by simp; omega) _, HO6.out.set_ (.inr (by simp; omega)) _⟩
        · have h1' : (v4 == 1) = false := by simpa using h1
          clear h0 h1
          go_wp2
          go_ret
          exact ⟨A, c, es, p' + 1, rfl, HOW4.out, by omega, by omega, HR4.out, HO4.out⟩
end Go.Proofs.Ytnfmlmkabioepaa

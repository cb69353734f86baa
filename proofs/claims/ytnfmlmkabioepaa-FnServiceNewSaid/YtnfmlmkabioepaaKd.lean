/-
  The drawing of keys (l91Key, DrawServiceNew); the laws' sameInts, and sameService of services without levels.
-/
import Derived.Test.YtnfmlmkabioepaaOw
import Derived.Test.YtnfmlmkabioepaaDr
namespace Go.Proofs.Ytnfmlmkabioepaa
open Go.RowKit Go.Sort

set_option maxRecDepth 100000 in
set_option maxHeartbeats 2000000 in
theorem l91Key_any (g p : Nat) (w : World) (h : Rdr w g p) (hp : p ≤ 1099511627770) :
    Calls Try.prog 56 #[.pointer (some ⟨g, 0, none⟩)] w fun e w' => ∃ (z : Int) (p' : Nat), e = .returned (.int .i64 z) ∧ p' ≤ p + 3 ∧ Rdr w' g p' ∧ Only g w w' := by
  have HR := Lib.hid h
  clear h
  go_enter Try.func56, Try.ntmps56
  go_wp2_with fail
  refine (pick_any g 20 p _ HR.out (by omega)).mono ?_
  rintro e w1 ⟨v1, rfl, a1, b1, hR1, hO1⟩
  have HR1 := Lib.hid hR1
  have HO1 := Lib.hid hO1
  clear b1 hR1 hO1
  by_cases h0 : v1 = 0
  · subst h0
    have hW : Below w1.heap.size w1 (w1.alloc (.cells #[.int .i64 0, .int .i64 9999, .int .i64 10000, .int .i64 (-1)] 3)) := ba (Below.refl _ _)
    have HR2 := Lib.hid (HR1.out.next hW)
    have HO2 := Lib.hid (HO1.out.next hW)
    have HL2 := Lib.hid (Blk.new w1 3 #[.int .i64 0, .int .i64 9999, .int .i64 10000, .int .i64 (-1)])
    clear hW
    go_wp2_with fail
    refine (pick_any g 4 _ _ HR2.out (by omega)).mono ?_
    rintro e w2 ⟨v2, rfl, a2, b2, hR2, hO3⟩
    have c2 := b2 (by omega)
    have hL := HL2.out.only hO3 (by have := HR1.out.lt; omega)
    have HR3 := Lib.hid hR2
    have HO3 := Lib.hid (HO2.out.trans hO3)
    obtain ⟨u, hu⟩ : ∃ u : Int, w2.cell? ⟨w1.heap.size, v2.toNat, none⟩ = some (.int .i64 u) := by
      rw [hL.cell]
      have : v2 = 0 ∨ v2 = 1 ∨ v2 = 2 ∨ v2 = 3 := by omega
      rcases this with rfl | rfl | rfl | rfl
      · exact ⟨0, rfl⟩
      · exact ⟨9999, rfl⟩
      · exact ⟨10000, rfl⟩
      · exact ⟨-1, rfl⟩
    clear b2 hR2 hO3 hL
    go_wp2_with fail
    go_ret
    exact ⟨u, p + 2, rfl, by omega, HR3.out, HO3.out⟩
  · have h0' : (v1 == 0) = false := by simpa using h0
    go_wp2_with fail
    refine (pick_any g 99 _ _ HR1.out (by omega)).mono ?_
    rintro e w2 ⟨v2, rfl, a2, b2, hR2, hO2⟩
    have c2 := b2 (by omega)
    have HR2 := Lib.hid hR2
    have HO2 := Lib.hid (HO1.out.trans hO2)
    clear b2 hR2 hO2
    go_wp2_with fail
    refine (pick_any g 100 _ _ HR2.out (by omega)).mono ?_
    rintro e w3 ⟨v3, rfl, a3, b3, hR3, hO3⟩
    have c3 := b3 (by omega)
    have HR3 := Lib.hid hR3
    have HO3 := Lib.hid (HO2.out.trans hO3)
    clear b3 hR3 hO3
    go_wp2_with fail
    go_ret
    exact ⟨_, p + 3, rfl, by omega, HR3.out, HO3.out⟩

set_option maxRecDepth 100000 in
set_option maxHeartbeats 4000000 in
theorem drawServiceNew_any (A : Option Addr) (n c : Nat) (zs : List Int) (w : World) (hr : RdI .u8 w A n zs) (hz : ∀ z ∈ zs, 0 ≤ z ∧ z ≤ 255) (hn : n ≤ c) (hc : c ≤ maxLen) :
    Calls Try.prog 20 #[.slice A n c] w fun e w' => ∃ (A' : Option Addr) (c' : Nat) (ks : List Int), e = .returned (.slice A' ks.length c') ∧ RdI .i64 w' A' ks.length ks ∧ ks.length ≤ 11 ∧ Below w.heap.size w w' := by
  obtain ⟨i0, hi0, hy0, hy1, hy2⟩ := info_parts infoZ
  have HI := Lib.hid hi0
  have HZ := Lib.hid hy0
  have HS := Lib.hid hy1
  have HBY := Lib.hid hy2
  clear hi0 hy0 hy1 hy2
  have HR := Lib.hid hr
  have HZS := Lib.hid hz
  clear hr hz
  go_enter Try.func20, Try.ntmps20
  go_wp2_with fail
  refine (l6Open_any _ _ _ zs _ HR.out HZS.out hn hc).mono ?_
  rintro e w1 ⟨g, rfl, hg, hR1, hb1⟩
  have hs1 := hb1.size
  have hgl := hR1.lt
  have hW : Below w1.heap.size w1 (w1.alloc (.cells #[] 3)) := ba (Below.refl _ _)
  have HR1 := Lib.hid (hR1.next hW)
  have HB1 := Lib.hid (below_next hb1 hW)
  clear hb1 hR1 hW
  go_wp2_with fail
  refine (pick_any g 11 0 _ HR1.out (by omega)).mono ?_
  rintro e w2 ⟨v2, rfl, a2, b2, hR2, hO2⟩
  have c2 := b2 (by omega)
  have HR2 := Lib.hid hR2
  have hs2 : w1.heap.size + 1 ≤ w2.heap.size := by simpa using hO2.size
  have HB2 := Lib.hid (HB1.out.trans (hO2.below hg (by simp; omega)))
  clear b2 hR2 hO2
  go_wp2_with fail
  refine (pick_any g 20 _ _ HR2.out (by omega)).mono ?_
  rintro e w3 ⟨v3, rfl, a3, b3, hR3, hO3⟩
  have c3 := b3 (by omega)
  have HR3 := Lib.hid hR3
  have hs3 := hO3.size
  have HB3 := Lib.hid (HB2.out.trans (hO3.below hg (by omega)))
  clear b3 hR3 hO3
  have hv3 : v3 / 19 = 0 ∨ v3 / 19 = 1 := by omega
  go_wp2_with fail
  obtain ⟨N, hN, hN11⟩ : ∃ N : Nat, v2 + v3 / 19 = (N : Int) ∧ N ≤ 11 := ⟨(v2 + v3 / 19).toNat, by omega, by omega⟩
  rw [hN]
  have HN := Lib.hid hN
  have hgB : g < w1.heap.size + 1 := by omega
  clear hN
  go_loopw [4, 6] (fun out i wr => ∃ (k : Nat) (A' : Option Addr) (c' : Nat), k ≤ N ∧ i = .int .i64 k ∧ out = .slice A' k c' ∧ Hid (w1.heap.size + 1 ≤ wr.heap.size ∧ Below w.heap.size w wr ∧ ∃ (ks : List Int) (p : Nat), ks.length = k ∧ Rdr wr g p ∧ p ≤ 2 + 3 * k ∧ Ow (w1.heap.size + 1) wr 3 1 A' k c' (cellsI ks))) (fun _ i _ => N - (intOf i).toNat)
  case atStart => exact ⟨0, _, 0, Nat.zero_le _, rfl, rfl, Nat.le_trans hs2 hs3, HB3.out, [], 2, rfl, HR3.out, Nat.le_refl _, Ow.bare _ _ _ _ _⟩
  case round =>
    obtain ⟨k, A', c', hk, rfl, rfl, HH⟩ := hrel
    obtain ⟨hsz, hbel, ks, p, hkl, hrd, hp, how⟩ := HH.out
    have HBL := Lib.hid hbel
    have HRD := Lib.hid hrd
    have HOW := Lib.hid how
    have HKL := Lib.hid hkl
    clear HH hbel hrd how hkl
    by_cases hlt : k < N
    · go_wp2_with fail
      refine (l91Key_any g p _ HRD.out (by omega)).mono ?_
      rintro e w4 ⟨z, p4, rfl, hp4, hR4, hO4⟩
      have hs4 := hO4.size
      have HR4 := Lib.hid hR4
      have HOW4 := Lib.hid (Ow.onlyB HOW.out hO4 hgB)
      have HB4 := Lib.hid (HBL.out.trans (hO4.below hg HBL.out.size))
      clear hR4 hO4
      go_wp2_with (at_builtin; refine wpList_append_ow _ rfl (.tmp 21) (.tmp 24) _ rfl (w1.heap.size + 1) 3 i0 _ 1 8 Try.underlying37 HI.out HZ.out HS.out HBY.out rfl (by omega) _ k c' _ rfl (HOW4.out.alloc _) _ 1 1 (cellsI [z]) rfl (Src.blk (Blk.new _ _ _) rfl) (cellsI_one _) (by unfold maxLen; omega) (by omega) (by simp; omega) ?_; intro A2 c2 w5 hown5 hg5 _; have HO5 := Lib.hid hown5; have HG5 := Lib.hid hg5; clear hown5 hg5)
      have hw5 := HB4.out.alloc HB4.out.size (.cells #[.int .i64 z] 3)
      have hrow := HOW4.out.alloc (.cells #[.int .i64 z] 3)
      refine ⟨⟨k + 1, A2, c2, by omega, by go_num, rfl, ?_, ?_, ks ++ [z], p4, by simp [HKL.out], ?_, by omega, ?_⟩, by simp [intOf]; omega⟩
      · have := HG5.out.size
        simp at this
        omega
      · exact hrow.grown HG5.out hw5 (by omega) (by simp; have := HB4.out.size; omega)
      · exact (HR4.out.next (ba (Below.refl _ _))).grown HG5.out fun b hb => by
          unfold ownB at hb
          split at hb
          · cases hb
          · have := (hrow.lt hb (by omega)).1; omega
      · have := HO5.out
        show Ow _ _ _ 1 _ _ _ ((ks ++ [z]).map (Value.int .i64))
        rw [List.map_append]
        exact this
    · have hkn : k = N := by omega
      subst hkn
      go_wp2
      go_ret
      exact ⟨A', c', ks, by rw [HKL.out]; rfl, by rw [HKL.out]; exact HOW.out.rdI, by rw [HKL.out]; exact hN11, HBL.out⟩

set_option maxRecDepth 100000 in
set_option maxHeartbeats 1000000 in
theorem sameInts_same (A A' : Option Addr) (n c c' : Nat) (zs : List Int) (w : World) (hr : RdI .i64 w A n zs) (hr' : RdI .i64 w A' n zs) (hn : n ≤ 1048576) :
    Calls Try.prog 61 #[.slice A n c, .slice A' n c'] w fun e w' => e = .returned (.bool true) ∧ Below w.heap.size w w' := by
  have HR := Lib.hid hr
  have HR' := Lib.hid hr'
  clear hr hr'
  go_enter Try.func61, Try.ntmps61
  go_wp2
  go_loopw [5] (fun i wr => ∃ k : Nat, k ≤ n ∧ i = .int .i64 k ∧ Hid (Below w.heap.size w wr)) (fun i _ => n - (intOf i).toNat)
  case atStart => exact ⟨0, Nat.zero_le _, rfl, Below.refl _ _⟩
  case round =>
    obtain ⟨k, hk, rfl, HB⟩ := hrel
    by_cases hlt : k < n
    · obtain ⟨b, off, z, hA, hb, hz, e0⟩ := (HR.out.below HB.out).at_ hlt
      obtain ⟨b', off', z', hA', hb', hz', f0⟩ := (HR'.out.below HB.out).at_ hlt
      subst hA hA'
      obtain rfl : z = z' := by rw [hz] at hz'; exact Option.some.inj hz'
      clear hz hz'
      have g0 := fun d os => cell_regrown e0 d os
      have h0 := fun d os => cell_regrown f0 d os
      clear e0 f0
      go_wp2
      refine wp_region_qb (by kernel_rfl) (by kernel_rfl) ?_
      repeat (go_big_quiet_step (fail))
      refine wpQuiet_nil ?_
      intro w1 hb1
      go_wp2
      exact ⟨⟨k + 1, by omega, by go_num, below_next HB.out hb1⟩, by simp [intOf]; omega⟩
    · go_wp2
      go_ret
      exact ⟨rfl, HB.out⟩

set_option maxRecDepth 100000 in
set_option maxHeartbeats 1000000 in
theorem sameTracks_none (A A' : Option Addr) (c c' : Nat) (w : World) :
    Calls Try.prog 60 #[.slice A 0 c, .slice A' 0 c'] w fun e w' => e = .returned (.bool true) ∧ w = w' := by
  go_enter Try.func60, Try.ntmps60
  go_wp2
  go_loop [5, 6, 7, 8, 9] (fun i _ _ _ _ => i = .int .i64 0) (fun _ _ _ _ _ => 0)
  case atStart => exact rfl
  case round =>
    obtain rfl := hrel
    go_wp2
    go_ret
    exact ⟨rfl, rfl⟩

set_option maxRecDepth 100000 in
set_option maxHeartbeats 2000000 in
theorem sameNone_same (t k g t' k' g' : Sl) (S : Svc) (w : World) (hr : RdS w t k g S) (hr' : RdS w t' k' g' S) (hS : S.ts = []) :
    Calls Try.prog 23 #[svV t k g, svV t' k' g'] w fun e w' => e = .returned (.bool true) ∧ Below w.heap.size w w' := by
  obtain ⟨⟨xs, hxs, hr1⟩, hr2, hr3, ⟨_, hn1⟩, ⟨_, hn2⟩, _, hn3⟩ := hr
  obtain ⟨⟨ys, hys, hs1⟩, hs2, hs3, _, _, _⟩ := hr'
  rw [hS, List.map_eq_nil_iff] at hxs hys
  subst hxs hys
  have ht : t.n = 0 := hr1.1.len.symm
  have ht' : t'.n = 0 := hs1.1.len.symm
  have hk : k'.n = k.n := hs2.len.symm.trans hr2.len
  have hg : g'.n = g.n := hs3.len.symm.trans hr3.len
  obtain ⟨ta, tn, tc⟩ := t'
  obtain ⟨ua, un, uc⟩ := t
  obtain ⟨ka, kn, kc⟩ := k'
  obtain ⟨ga, gn, gc⟩ := g'
  simp only at ht ht' hk hg hs1 hs2 hs3
  subst ht ht' hk hg
  have HR2 := Lib.hid hr2
  have HR3 := Lib.hid hr3
  have HS2 := Lib.hid hs2
  have HS3 := Lib.hid hs3
  clear hr1 hr2 hr3 hs1 hs2 hs3
  have hW : Below w.heap.size w ((w.alloc (.cells #[.slice ua 0 uc, .slice k.a k.n k.c, .slice g.a g.n g.c] 41)).alloc (.cells #[.slice ta 0 tc, .slice ka k.n kc, .slice ga g.n gc] 41)) := by go_grown
  have HW := Lib.hid hW
  have HKA := Lib.hid ((Blk.new w 41 #[.slice ua 0 uc, .slice k.a k.n k.c, .slice g.a g.n g.c]).alloc (.cells #[.slice ta 0 tc, .slice ka k.n kc, .slice ga g.n gc] 41))
  have HKB := Lib.hid (Blk.newAt (w.alloc (.cells #[.slice ua 0 uc, .slice k.a k.n k.c, .slice g.a g.n g.c] 41)) 41 #[.slice ta 0 tc, .slice ka k.n kc, .slice ga g.n gc] (w.heap.size + 1) (by simp))
  clear hW
  go_enter Try.func23, Try.ntmps23
  go_wp2_with fail
  refine (sameTracks_none _ _ _ _ _).mono ?_
  rintro e _ ⟨rfl, rfl⟩
  go_wp2_with fail
  refine (sameInts_same _ _ _ _ _ S.keys _ (HR2.out.below HW.out) (HS2.out.below HW.out) hn2).mono ?_
  rintro e w1 ⟨rfl, hb1⟩
  have HW1 := Lib.hid (below_next HW.out hb1)
  have hka := HKA.out.next hb1
  have hkb := HKB.out.next hb1
  have ca := fun o => hka.cell o
  have cb := fun o => hkb.cell o
  clear hb1 hka hkb
  go_wp2_with fail
  refine (sameInts_same _ _ _ _ _ S.tags _ (HR3.out.below HW1.out) (HS3.out.below HW1.out) hn3).mono ?_
  rintro e w2 ⟨rfl, hb2⟩
  have HW2 := Lib.hid (below_next HW1.out hb2)
  clear hb2 ca cb
  go_wp2_with fail
  go_ret
  exact ⟨rfl, HW2.out⟩
end Go.Proofs.Ytnfmlmkabioepaa

/-
  Lemmas and contracts: Ea Li Lw In Ins Lc Si Nw Kd Ba De Db. No condition.
-/
import Derived.RangeFuncNested
import Derived.RangeFuncBound
import Derived.RangeFuncCalls
import Derived.RangeFuncLeaves
import Derived.Shelf.Abstract
import Derived.Shelf.RegionOpen
import Derived.OwnWalkIn
import Derived.TacticsInMore
import Derived.LoopNIn
import Derived.LoopIn
import Derived.Laws.CopyRow
import Derived.Lib.AppendZerosOnto
import Derived.Lib.Overlaps
import Derived.Laws.Externs
import Derived.StillTailTactics
import Derived.Test.YtemnlheidghbmaaGreatDoorKb3
import Derived.Test.YtemnlheidghbmaaGreatDoorKb4
import Derived.Test.YtemnlheidghbmaaGreatDoorKb7
import Derived.Test.YtemnlheidghbmaaGreatDoorKb8
namespace Go.Proofs.YtemnlheidghbmaaGreatDoor
open Go.RowKit Go.Sort
def rep0 : Rep := ⟨0, 0, 0, [], [], 0⟩
def makeOk (l : Lvl) (p key : Int) (xs : List Inp) : Bool := okW l xs && inR p 0 9 && inR key 1 9999
noncomputable def makeR (l : Lvl) (p : Int) (xs : List Inp) (tag : Int) : Rep := ⟨l.id, p, max (scoreW l xs) 0, xs, hashesW l xs, tag⟩
noncomputable def makeW (l : Lvl) (p key : Int) (xs : List Inp) : Rep × Bool :=
 if makeOk l p key xs then (makeR l p xs (tagW key (listW (makeR l p xs 0))), true) else (rep0, false)
def OwRep (w : World) (r : Rep) (si sh : Sl) : Prop := Ow 0 w 80 3 si.a si.n si.c (cellsN r.ins) ∧ Ow 0 w 3 1 sh.a sh.n sh.c (cellsI r.hs) ∧ si.n ≤ 1048576 ∧ sh.n ≤ 1048576
theorem OwRep.rd {w : World} {r : Rep} {si sh : Sl} (h : OwRep w r si sh) : RdR w r si sh := ⟨Ow.rd encIn_len (by decide) h.1, h.2.1.rdI, ⟨h.1.le, h.2.2.1⟩, h.2.1.le, h.2.2.2⟩
theorem OwRep.next {w w' : World} {r : Rep} {si sh : Sl} (h : OwRep w r si sh) (hb : Below w.heap.size w w') : OwRep w' r si sh := ⟨Ow.next h.1 hb, Ow.next h.2.1 hb, h.2.2⟩
def RepPost (B : Nat) (r : Rep × Bool) (w : World) (e : Ending) (w' : World) : Prop :=
 ∃ si sh : Sl, e = .returned (.tuple #[repV r.1 si sh, .bool r.2]) ∧ OwRep w' r.1 si sh ∧ Below B w w'
theorem rdR_zero (w : World) : OwRep w rep0 ⟨none, 0, 0⟩ ⟨none, 0, 0⟩ := ⟨Ow.bare _ _ _ _ _, Ow.bare _ _ _ _ _, by simp, by simp⟩
theorem Blk.all6 {w : World} {g T : Nat} {a0 a1 a2 a3 a4 a5 : Value} (h : Blk w g T #[a0, a1, a2, a3, a4, a5]) (v0 v1 v2 v3 v4 v5 : Value) :
  Blk ((((((w.setCell ⟨g, 0, none⟩ v0).setCell ⟨g, 1, none⟩ v1).setCell ⟨g, 2, none⟩ v2).setCell ⟨g, 3, none⟩ v3).setCell ⟨g, 4, none⟩ v4).setCell ⟨g, 5, none⟩ v5) g T #[v0, v1, v2, v3, v4, v5] := by
 have h1 : Blk (w.setCell ⟨g, 0, none⟩ v0) g T #[v0, a1, a2, a3, a4, a5] := h.set_ 0 v0
 have h2 : Blk ((w.setCell ⟨g, 0, none⟩ v0).setCell ⟨g, 1, none⟩ v1) g T #[v0, v1, a2, a3, a4, a5] := h1.set_ 1 v1
 have h3 : Blk (((w.setCell ⟨g, 0, none⟩ v0).setCell ⟨g, 1, none⟩ v1).setCell ⟨g, 2, none⟩ v2) g T #[v0, v1, v2, a3, a4, a5] := h2.set_ 2 v2
 have h4 : Blk ((((w.setCell ⟨g, 0, none⟩ v0).setCell ⟨g, 1, none⟩ v1).setCell ⟨g, 2, none⟩ v2).setCell ⟨g, 3, none⟩ v3) g T #[v0, v1, v2, v3, a4, a5] := h3.set_ 3 v3
 have h5 : Blk (((((w.setCell ⟨g, 0, none⟩ v0).setCell ⟨g, 1, none⟩ v1).setCell ⟨g, 2, none⟩ v2).setCell ⟨g, 3, none⟩ v3).setCell ⟨g, 4, none⟩ v4) g T #[v0, v1, v2, v3, v4, a5] := h4.set_ 4 v4
 exact h5.set_ 5 v5
theorem Ow.onlyT {B T T' sz n c o : Nat} {A : Option Addr} {w W : World} {cs : Array Value} {vs : List Value} (h : Ow B w T sz A n c vs) (k : Blk w o T' cs) (hne : T ≠ T') (ho : Only o w W) : Ow B W T sz A n c vs :=
 h.keep fun g hg hc => by
  obtain ⟨g', cur, hA, _, hb, _⟩ := h.blk hc
  rw [hA] at hg
  have e : g' = g := by simpa using hg
  subst e
  exact ho.block _ hb.lt (by
   intro e
   injection e with e
   exact (Blk.ne_ hb k hne) e)
set_option maxRecDepth 100000 in
set_option maxHeartbeats 4000000 in
theorem specReplayMake_any (l : Lvl) (ws gs : Sl) (p key : Int) (A : Option Addr) (n c : Nat) (xs : List Inp) (w : World) (hl : RdL w l ws gs) (hr : RdN w A n xs) (hn : n ≤ 1048576) (_hc : n ≤ c) :
  Calls Tryz.prog 82 #[lvlV l ws gs, .int .i64 p, .int .i64 key, .slice A n c] w (RepPost w.heap.size (makeW l p key xs) w) := by
 have HL := Lib.hid hl
 have HN := Lib.hid hr
 clear hl hr
 go_enter Tryz.func82, Tryz.ntmps82
 go_wp2_with fail
 refine (l21Ok_any l ws gs A n c xs _ (HL.out.below (ba (ba (Below.refl _ _)))) (HN.out.below (ba (ba (Below.refl _ _)))) hn).mono ?_
 rintro e w1 ⟨rfl, hb⟩
 have KL := Lib.hid (((Blk.new w 29 (lvlC l ws gs)).alloc _).next hb)
 have KR := Lib.hid ((Blk.newAt _ 33 (repC rep0 ⟨none, 0, 0⟩ ⟨none, 0, 0⟩) (w.heap.size + 1) (by simp)).next hb)
 have HB := Lib.hid (ba (ba hb))
 have HKZ := Lib.hid (show w.heap.size + 1 < w1.heap.size by have := hb.size; simp at this; omega)
 clear hb
 cases h1 : okW l xs
 ·have HF := Lib.hid (show makeW l p key xs = (rep0, false) by simp [makeW, makeOk, h1])
  have cr := fun o => KR.out.cell o
  have fr := fun o => KR.out.frozen o
  have zr := KR.out.lt
  go_wp2_with fail
  refine bodyPost_ret (v := .tuple #[repV rep0 ⟨none, 0, 0⟩ ⟨none, 0, 0⟩, .bool false]) (by simp [results, Tryz.results82, go_sem, cr, rep0]) rfl ?_
  unfold RepPost
  rw [HF.out]
  exact ⟨_, _, rfl, rdR_zero _, by have hb := HB.out; go_grown⟩
 ·have H1 := Lib.hid h1
  clear h1
  go_wp2_with fail
  refine (l6In_any _ _ _ _).mono ?_
  rintro e w' ⟨rfl, rfl⟩
  cases h2 : inR p 0 9
  ·have HF := Lib.hid (show makeW l p key xs = (rep0, false) by simp [makeW, makeOk, h2])
   have cr := fun o => KR.out.cell o
   have fr := fun o => KR.out.frozen o
   have zr := KR.out.lt
   go_wp2_with fail
   refine bodyPost_ret (v := .tuple #[repV rep0 ⟨none, 0, 0⟩ ⟨none, 0, 0⟩, .bool false]) (by simp [results, Tryz.results82, go_sem, cr, rep0]) rfl ?_
   unfold RepPost
   rw [HF.out]
   exact ⟨_, _, rfl, rdR_zero _, by have hb := HB.out; go_grown⟩
  ·have H2 := Lib.hid h2
   clear h2
   go_wp2_with fail
   refine (l6In_any _ _ _ _).mono ?_
   rintro e w' ⟨rfl, rfl⟩
   cases h3 : inR key 1 9999
   ·have HF := Lib.hid (show makeW l p key xs = (rep0, false) by simp [makeW, makeOk, h3])
    have cr := fun o => KR.out.cell o
    have fr := fun o => KR.out.frozen o
    have zr := KR.out.lt
    go_wp2_with fail
    refine bodyPost_ret (v := .tuple #[repV rep0 ⟨none, 0, 0⟩ ⟨none, 0, 0⟩, .bool false]) (by simp [results, Tryz.results82, go_sem, cr, rep0]) rfl ?_
    unfold RepPost
    rw [HF.out]
    exact ⟨_, _, rfl, rdR_zero _, by have hb := HB.out; go_grown⟩
   ·have HF := Lib.hid (show makeW l p key xs = (makeR l p xs (tagW key (listW (makeR l p xs 0))), true) by simp [makeW, makeOk, H1.out, H2.out, h3])
    clear h3
    have HOKX := Lib.hid (okW_ins H1.out)
    go_upto_region 3 with (fail)
    have hcl := fun o => KL.out.cell o
    have HLW := Lib.hid (HL.out.below HB.out)
    have HNW := Lib.hid (HN.out.below HB.out)
    obtain ⟨i0, hi0, hz0, hz1, hz2⟩ := info_parts infoN
    have HI := Lib.hid hi0
    have HZ := Lib.hid hz0
    have HS := Lib.hid hz1
    have HBY := Lib.hid hz2
    clear hi0 hz0 hz1 hz2
    obtain ⟨h, hh⟩ : ∃ h, (hashesW l xs).length = h := ⟨_, rfl⟩
    have HHL := Lib.hid hh
    have hhb : h ≤ 1048576 := by
     rw [← hh]
     unfold hashesW
     split
     ·simp; have := HN.out.len; omega
     ·simp
    clear hh
    have hmx : (if scoreW l xs < 0 then (0 : Int) else scoreW l xs) = max (scoreW l xs) 0 := by
     rw [Int.max_def]
     split <;> split <;> omega
    refine wp_region_grow 15 (by kernel_rfl) (by kernel_rfl) (by kernel_rfl) (fun a b => Below a.heap.size a b) (fun mq w' => Below w1.heap.size w1 w') (fun iq v w' => match iq with | 0 => (v = .pointer (some ⟨w.heap.size, 0, none⟩)) | 1 => (v = .int .i64 l.id) | 2 => (v = .int .i64 p) | 3 => (v = lvlV l ws gs) | 4 => (v = .slice A n c) | 5 => (v = .int .i64 (scoreW l xs)) | 6 => (v = .int .i64 (max (scoreW l xs) 0)) | 7 => (∃ B, v = .slice B 0 0) | 8 => (v = .slice A n c) | 9 => (∃ B c', v = .slice B n c' ∧ Ow 0 w' 80 3 B n c' (cellsN xs)) | 10 => (v = lvlV l ws gs) | 11 => (v = .slice A n c) | 12 => (∃ B c', v = .slice B h c' ∧ Ow 0 w' 3 1 B h c' (cellsI (hashesW l xs))) | 13 => (∃ B c' B' c'', v = .agg #[.int .i64 l.id, .int .i64 p, .int .i64 (max (scoreW l xs) 0), .slice B n c', .slice B' h c'', .int .i64 0] ∧ Ow 0 w' 80 3 B n c' (cellsN xs) ∧ Ow 0 w' 3 1 B' h c'' (cellsI (hashesW l xs))) | 14 => (∃ o, v = .pointer (some ⟨o, 0, none⟩) ∧ w1.heap.size ≤ o ∧ Blk w' o 33 (repC rep0 ⟨none, 0, 0⟩ ⟨none, 0, 0⟩)) | _ => True) (fun sq => { tmps := #[lvlV l ws gs, Value.int .i64 p, Value.int .i64 key, Value.slice A n c, Value.pointer (some (⟨w.heap.size, 0, none⟩ : Addr)), undef, undef, undef, Value.pointer (some (⟨w.heap.size + 1, 0, none⟩ : Addr)), Value.bool false, sq 14, Value.agg #[Value.int .i64 l.id, Value.int .i64 l.ticks, Value.int .i64 l.sx, Value.int .i64 l.sy, Value.slice ws.a ws.n ws.c, Value.slice gs.a gs.n gs.c, Value.int .i64 l.f.1, Value.int .i64 l.f.2.1, Value.int .i64 l.f.2.2.1, Value.int .i64 l.f.2.2.2, Value.int .i64 l.bans], Value.slice A n c, Value.bool true, Value.bool false, Value.bool false, Value.int .i64 p, Value.bool true, Value.bool false, Value.bool false, Value.bool false, Value.int .i64 key, Value.bool true, Value.bool false, Value.bool false, undef, sq 0, sq 1, sq 2, sq 3, sq 4, sq 5, sq 6, sq 7, sq 8, sq 9, sq 10, sq 11, sq 12, sq 13, undef, undef, undef, undef, undef, undef], defers := [] }) (fun _ => undef) ?_ ?_ ?_ ?_
    ·rintro iq v a b hg h
     match iq, h with
     | 0, h => exact h
     | 1, h => exact h
     | 2, h => exact h
     | 3, h => exact h
     | 4, h => exact h
     | 5, h => exact h
     | 6, h => exact h
     | 7, h => exact h
     | 8, h => exact h
     | 9, h => exact (by obtain ⟨B, c', rfl, ho⟩ := h; exact ⟨B, c', rfl, Ow.next ho hg⟩)
     | 10, h => exact h
     | 11, h => exact h
     | 12, h => exact (by obtain ⟨B, c', rfl, ho⟩ := h; exact ⟨B, c', rfl, Ow.next ho hg⟩)
     | 13, h => exact (by obtain ⟨B, c', B', c'', rfl, ho, ho'⟩ := h; exact ⟨B, c', B', c'', rfl, Ow.next ho hg, Ow.next ho' hg⟩)
     | 14, h => exact (by obtain ⟨o, rfl, h1, h2⟩ := h; exact ⟨o, rfl, h1, h2.next hg⟩)
     | (kq + 15), _ => exact trivial
    ·exact ⟨rfl, rfl, rfl, Nat.le_refl _, fun _ _ => rfl⟩
    ·intro mq sq w' iq oq hmq hiq hoq hJ hd Kq hK
     have hiq' : iq = 0 ∨ iq = 1 ∨ iq = 2 ∨ iq = 3 ∨ iq = 4 ∨ iq = 5 ∨ iq = 6 ∨ iq = 7 ∨ iq = 8 ∨ iq = 9 ∨ iq = 10 ∨ iq = 11 ∨ iq = 12 ∨ iq = 13 ∨ iq = 14 := by omega
     rcases hiq' with rfl | rfl | rfl | rfl | rfl | rfl | rfl | rfl | rfl | rfl | rfl | rfl | rfl | rfl | rfl
     ·cases (show some _ = some oq from hoq)
      have hK' := hK
      simp only [updV, Nat.reduceEqDiff, ↓reduceIte] at hK'
      clear hK hd
      generalize sq 0 = x0 at *
      generalize sq 1 = x1 at *
      generalize sq 2 = x2 at *
      generalize sq 3 = x3 at *
      generalize sq 4 = x4 at *
      generalize sq 5 = x5 at *
      generalize sq 6 = x6 at *
      generalize sq 7 = x7 at *
      generalize sq 8 = x8 at *
      generalize sq 9 = x9 at *
      generalize sq 10 = x10 at *
      generalize sq 11 = x11 at *
      generalize sq 12 = x12 at *
      generalize sq 13 = x13 at *
      generalize sq 14 = x14 at *
      go_simp
      exact hK' _ _ (Below.refl _ _) hJ rfl
     ·cases (show some _ = some oq from hoq)
      have d0 := hd 0 (by kernel_rfl) (by decide)
      have hK' := hK
      simp only [updV, Nat.reduceEqDiff, ↓reduceIte] at hK'
      clear hK hd
      generalize sq 0 = x0 at *
      generalize sq 1 = x1 at *
      generalize sq 2 = x2 at *
      generalize sq 3 = x3 at *
      generalize sq 4 = x4 at *
      generalize sq 5 = x5 at *
      generalize sq 6 = x6 at *
      generalize sq 7 = x7 at *
      generalize sq 8 = x8 at *
      generalize sq 9 = x9 at *
      generalize sq 10 = x10 at *
      generalize sq 11 = x11 at *
      generalize sq 12 = x12 at *
      generalize sq 13 = x13 at *
      generalize sq 14 = x14 at *
      obtain rfl := d0
      have cl := (KL.out.next hJ).cell 0
      go_simp
      exact hK' _ _ (Below.refl _ _) hJ rfl
     ·cases (show some _ = some oq from hoq)
      have hK' := hK
      simp only [updV, Nat.reduceEqDiff, ↓reduceIte] at hK'
      clear hK hd
      generalize sq 0 = x0 at *
      generalize sq 1 = x1 at *
      generalize sq 2 = x2 at *
      generalize sq 3 = x3 at *
      generalize sq 4 = x4 at *
      generalize sq 5 = x5 at *
      generalize sq 6 = x6 at *
      generalize sq 7 = x7 at *
      generalize sq 8 = x8 at *
      generalize sq 9 = x9 at *
      generalize sq 10 = x10 at *
      generalize sq 11 = x11 at *
      generalize sq 12 = x12 at *
      generalize sq 13 = x13 at *
      generalize sq 14 = x14 at *
      go_simp
      exact hK' _ _ (Below.refl _ _) hJ rfl
     ·cases (show some _ = some oq from hoq)
      have hK' := hK
      simp only [updV, Nat.reduceEqDiff, ↓reduceIte] at hK'
      clear hK hd
      generalize sq 0 = x0 at *
      generalize sq 1 = x1 at *
      generalize sq 2 = x2 at *
      generalize sq 3 = x3 at *
      generalize sq 4 = x4 at *
      generalize sq 5 = x5 at *
      generalize sq 6 = x6 at *
      generalize sq 7 = x7 at *
      generalize sq 8 = x8 at *
      generalize sq 9 = x9 at *
      generalize sq 10 = x10 at *
      generalize sq 11 = x11 at *
      generalize sq 12 = x12 at *
      generalize sq 13 = x13 at *
      generalize sq 14 = x14 at *
      have cl := fun o => (KL.out.next hJ).cell o
      go_simp
      exact hK' _ _ (Below.refl _ _) hJ rfl
     ·cases (show some _ = some oq from hoq)
      have hK' := hK
      simp only [updV, Nat.reduceEqDiff, ↓reduceIte] at hK'
      clear hK hd
      generalize sq 0 = x0 at *
      generalize sq 1 = x1 at *
      generalize sq 2 = x2 at *
      generalize sq 3 = x3 at *
      generalize sq 4 = x4 at *
      generalize sq 5 = x5 at *
      generalize sq 6 = x6 at *
      generalize sq 7 = x7 at *
      generalize sq 8 = x8 at *
      generalize sq 9 = x9 at *
      generalize sq 10 = x10 at *
      generalize sq 11 = x11 at *
      generalize sq 12 = x12 at *
      generalize sq 13 = x13 at *
      generalize sq 14 = x14 at *
      go_simp
      exact hK' _ _ (Below.refl _ _) hJ rfl
     ·cases (show some _ = some oq from hoq)
      have d3 := hd 3 (by kernel_rfl) (by decide)
      have d4 := hd 4 (by kernel_rfl) (by decide)
      have hK' := hK
      simp only [updV, Nat.reduceEqDiff, ↓reduceIte] at hK'
      clear hK hd
      generalize sq 0 = x0 at *
      generalize sq 1 = x1 at *
      generalize sq 2 = x2 at *
      generalize sq 3 = x3 at *
      generalize sq 4 = x4 at *
      generalize sq 5 = x5 at *
      generalize sq 6 = x6 at *
      generalize sq 7 = x7 at *
      generalize sq 8 = x8 at *
      generalize sq 9 = x9 at *
      generalize sq 10 = x10 at *
      generalize sq 11 = x11 at *
      generalize sq 12 = x12 at *
      generalize sq 13 = x13 at *
      generalize sq 14 = x14 at *
      obtain rfl := d3
      obtain rfl := d4
      go_simp
      refine (specRunScore_any l ws gs A n c xs _ (HLW.out.below hJ) (HNW.out.below hJ) hn).mono ?_
      rintro e w2 ⟨rfl, hb⟩
      exact hK' _ _ hb (below_next hJ hb) rfl
     ·cases (show some _ = some oq from hoq)
      have d5 := hd 5 (by kernel_rfl) (by decide)
      have hK' := hK
      simp only [updV, Nat.reduceEqDiff, ↓reduceIte] at hK'
      clear hK hd
      generalize sq 0 = x0 at *
      generalize sq 1 = x1 at *
      generalize sq 2 = x2 at *
      generalize sq 3 = x3 at *
      generalize sq 4 = x4 at *
      generalize sq 5 = x5 at *
      generalize sq 6 = x6 at *
      generalize sq 7 = x7 at *
      generalize sq 8 = x8 at *
      generalize sq 9 = x9 at *
      generalize sq 10 = x10 at *
      generalize sq 11 = x11 at *
      generalize sq 12 = x12 at *
      generalize sq 13 = x13 at *
      generalize sq 14 = x14 at *
      obtain rfl := d5
      go_simp
      exact hK' _ _ (Below.refl _ _) hJ rfl
     ·cases (show some _ = some oq from hoq)
      have hK' := hK
      simp only [updV, Nat.reduceEqDiff, ↓reduceIte] at hK'
      clear hK hd
      generalize sq 0 = x0 at *
      generalize sq 1 = x1 at *
      generalize sq 2 = x2 at *
      generalize sq 3 = x3 at *
      generalize sq 4 = x4 at *
      generalize sq 5 = x5 at *
      generalize sq 6 = x6 at *
      generalize sq 7 = x7 at *
      generalize sq 8 = x8 at *
      generalize sq 9 = x9 at *
      generalize sq 10 = x10 at *
      generalize sq 11 = x11 at *
      generalize sq 12 = x12 at *
      generalize sq 13 = x13 at *
      generalize sq 14 = x14 at *
      go_simp
      exact hK' _ _ (ba (Below.refl _ _)) (hJ.alloc hJ.size _) ⟨_, rfl⟩
     ·cases (show some _ = some oq from hoq)
      have hK' := hK
      simp only [updV, Nat.reduceEqDiff, ↓reduceIte] at hK'
      clear hK hd
      generalize sq 0 = x0 at *
      generalize sq 1 = x1 at *
      generalize sq 2 = x2 at *
      generalize sq 3 = x3 at *
      generalize sq 4 = x4 at *
      generalize sq 5 = x5 at *
      generalize sq 6 = x6 at *
      generalize sq 7 = x7 at *
      generalize sq 8 = x8 at *
      generalize sq 9 = x9 at *
      generalize sq 10 = x10 at *
      generalize sq 11 = x11 at *
      generalize sq 12 = x12 at *
      generalize sq 13 = x13 at *
      generalize sq 14 = x14 at *
      go_simp
      exact hK' _ _ (Below.refl _ _) hJ rfl
     ·cases (show some _ = some oq from hoq)
      have d7 := hd 7 (by kernel_rfl) (by decide)
      have d8 := hd 8 (by kernel_rfl) (by decide)
      have hK' := hK
      simp only [updV, Nat.reduceEqDiff, ↓reduceIte] at hK'
      clear hK hd
      generalize sq 0 = x0 at *
      generalize sq 1 = x1 at *
      generalize sq 2 = x2 at *
      generalize sq 3 = x3 at *
      generalize sq 4 = x4 at *
      generalize sq 5 = x5 at *
      generalize sq 6 = x6 at *
      generalize sq 7 = x7 at *
      generalize sq 8 = x8 at *
      generalize sq 9 = x9 at *
      generalize sq 10 = x10 at *
      generalize sq 11 = x11 at *
      generalize sq 12 = x12 at *
      generalize sq 13 = x13 at *
      generalize sq 14 = x14 at *
      obtain ⟨B, rfl⟩ := d7
      obtain rfl := d8
      refine step_append_ow _ rfl (.tmp 33) (.tmp 34) _ rfl w'.heap.size 80 i0 _ 3 24 Tryz.underlying30 HI.out HZ.out HS.out HBY.out rfl (by omega) _ 0 0 [] rfl (Ow.bare _ _ _ _ _) _ n c (cellsN xs) rfl (Src.rd encIn_len (HNW.out.below hJ)) (cellsX_oneCell encIn_one xs) (by unfold maxLen; omega) (by omega) (Nat.le_refl _) ?_
      intro A2 c2 w3 hO hg _
      have hb3 := (Ow.bare w'.heap.size _ 80 3 _).grown hg (Below.refl _ _) (Nat.le_refl _) (Nat.le_refl _)
      rw [Nat.zero_add] at hO ⊢
      rw [List.nil_append] at hO
      exact hK' _ _ hb3 (below_next hJ hb3) ⟨_, _, rfl, Ow.mono hO (Nat.zero_le _)⟩
     ·cases (show some _ = some oq from hoq)
      have hK' := hK
      simp only [updV, Nat.reduceEqDiff, ↓reduceIte] at hK'
      clear hK hd
      generalize sq 0 = x0 at *
      generalize sq 1 = x1 at *
      generalize sq 2 = x2 at *
      generalize sq 3 = x3 at *
      generalize sq 4 = x4 at *
      generalize sq 5 = x5 at *
      generalize sq 6 = x6 at *
      generalize sq 7 = x7 at *
      generalize sq 8 = x8 at *
      generalize sq 9 = x9 at *
      generalize sq 10 = x10 at *
      generalize sq 11 = x11 at *
      generalize sq 12 = x12 at *
      generalize sq 13 = x13 at *
      generalize sq 14 = x14 at *
      have cl := fun o => (KL.out.next hJ).cell o
      go_simp
      exact hK' _ _ (Below.refl _ _) hJ rfl
     ·cases (show some _ = some oq from hoq)
      have hK' := hK
      simp only [updV, Nat.reduceEqDiff, ↓reduceIte] at hK'
      clear hK hd
      generalize sq 0 = x0 at *
      generalize sq 1 = x1 at *
      generalize sq 2 = x2 at *
      generalize sq 3 = x3 at *
      generalize sq 4 = x4 at *
      generalize sq 5 = x5 at *
      generalize sq 6 = x6 at *
      generalize sq 7 = x7 at *
      generalize sq 8 = x8 at *
      generalize sq 9 = x9 at *
      generalize sq 10 = x10 at *
      generalize sq 11 = x11 at *
      generalize sq 12 = x12 at *
      generalize sq 13 = x13 at *
      generalize sq 14 = x14 at *
      go_simp
      exact hK' _ _ (Below.refl _ _) hJ rfl
     ·cases (show some _ = some oq from hoq)
      have d10 := hd 10 (by kernel_rfl) (by decide)
      have d11 := hd 11 (by kernel_rfl) (by decide)
      have hK' := hK
      simp only [updV, Nat.reduceEqDiff, ↓reduceIte] at hK'
      clear hK hd
      generalize sq 0 = x0 at *
      generalize sq 1 = x1 at *
      generalize sq 2 = x2 at *
      generalize sq 3 = x3 at *
      generalize sq 4 = x4 at *
      generalize sq 5 = x5 at *
      generalize sq 6 = x6 at *
      generalize sq 7 = x7 at *
      generalize sq 8 = x8 at *
      generalize sq 9 = x9 at *
      generalize sq 10 = x10 at *
      generalize sq 11 = x11 at *
      generalize sq 12 = x12 at *
      generalize sq 13 = x13 at *
      generalize sq 14 = x14 at *
      obtain rfl := d10
      obtain rfl := d11
      go_simp
      refine (specRunHashes_any l ws gs A n c xs _ (HLW.out.below hJ) (HNW.out.below hJ) hn).mono ?_
      rintro e w2 ⟨B, c', rfl, ho, hb⟩
      rw [HHL.out] at ho ⊢
      exact hK' _ _ hb (below_next hJ hb) ⟨_, _, rfl, Ow.mono ho (Nat.zero_le _)⟩
     ·cases (show some _ = some oq from hoq)
      have d1 := hd 1 (by kernel_rfl) (by decide)
      have d2 := hd 2 (by kernel_rfl) (by decide)
      have d6 := hd 6 (by kernel_rfl) (by decide)
      have d9 := hd 9 (by kernel_rfl) (by decide)
      have d12 := hd 12 (by kernel_rfl) (by decide)
      have hK' := hK
      simp only [updV, Nat.reduceEqDiff, ↓reduceIte] at hK'
      clear hK hd
      generalize sq 0 = x0 at *
      generalize sq 1 = x1 at *
      generalize sq 2 = x2 at *
      generalize sq 3 = x3 at *
      generalize sq 4 = x4 at *
      generalize sq 5 = x5 at *
      generalize sq 6 = x6 at *
      generalize sq 7 = x7 at *
      generalize sq 8 = x8 at *
      generalize sq 9 = x9 at *
      generalize sq 10 = x10 at *
      generalize sq 11 = x11 at *
      generalize sq 12 = x12 at *
      generalize sq 13 = x13 at *
      generalize sq 14 = x14 at *
      obtain rfl := d1
      obtain rfl := d2
      obtain rfl := d6
      obtain ⟨B, c', rfl, ho⟩ := d9
      obtain ⟨B', c'', rfl, ho'⟩ := d12
      go_simp
      exact hK' _ _ (Below.refl _ _) hJ ⟨B, c', B', c'', rfl, ho, ho'⟩
     ·cases (show some _ = some oq from hoq)
      have hK' := hK
      simp only [updV, Nat.reduceEqDiff, ↓reduceIte] at hK'
      clear hK hd
      generalize sq 0 = x0 at *
      generalize sq 1 = x1 at *
      generalize sq 2 = x2 at *
      generalize sq 3 = x3 at *
      generalize sq 4 = x4 at *
      generalize sq 5 = x5 at *
      generalize sq 6 = x6 at *
      generalize sq 7 = x7 at *
      generalize sq 8 = x8 at *
      generalize sq 9 = x9 at *
      generalize sq 10 = x10 at *
      generalize sq 11 = x11 at *
      generalize sq 12 = x12 at *
      generalize sq 13 = x13 at *
      generalize sq 14 = x14 at *
      go_simp
      exact hK' _ _ (ba (Below.refl _ _)) (hJ.alloc hJ.size _) ⟨_, rfl, hJ.size, Blk.new _ _ _⟩
    ·intro sq w' hJ hφ
     simp only [List.drop_succ_cons, List.drop_zero]
     have d13 := hφ 13 (by decide)
     have d14 := hφ 14 (by decide)
     clear hφ
     generalize sq 0 = x0 at *
     generalize sq 1 = x1 at *
     generalize sq 2 = x2 at *
     generalize sq 3 = x3 at *
     generalize sq 4 = x4 at *
     generalize sq 5 = x5 at *
     generalize sq 6 = x6 at *
     generalize sq 7 = x7 at *
     generalize sq 8 = x8 at *
     generalize sq 9 = x9 at *
     generalize sq 10 = x10 at *
     generalize sq 11 = x11 at *
     generalize sq 12 = x12 at *
     generalize sq 13 = x13 at *
     generalize sq 14 = x14 at *
     obtain ⟨B, c', B', c'', rfl, hO1, hO2⟩ := d13
     obtain ⟨o, rfl, ho1, hbo⟩ := d14
     obtain ⟨sc, hsc⟩ : ∃ sc, max (scoreW l xs) 0 = sc := ⟨_, rfl⟩
     rw [hsc]
     have HSC := Lib.hid hsc
     clear hmx hsc
     have HO1 := Lib.hid hO1
     have HO2 := Lib.hid hO2
     have KO := Lib.hid hbo
     have hcc1 := hO1.le
     have hcc2 := hO2.le
     replace KR := Lib.hid (KR.out.next hJ)
     have hzo := KR.out.lt
     have hw1z := HB.out.size
     have hw1k : w.heap.size + 1 < o := by
      have h1 : w.heap.size + 1 < w1.heap.size := HKZ.out
      omega
     replace HB := Lib.hid (below_next HB.out hJ)
     clear hO1 hO2 hbo hJ hcl
     have co := fun o => KO.out.cell o
     have fo := fun o => KO.out.frozen o
     have zo := KO.out.lt
     go_upto_region 4 with (fail)
     refine into_world (fun W => Only o w' W ∧ Blk W o 33 (repC (makeR l p xs 0) ⟨B, n, c'⟩ ⟨B', h, c''⟩)) ⟨?_, ?_⟩ ?_
     ·exact (((((((Only.refl o w').set_ (p := ⟨o, 0, none⟩) (.inl rfl) _).set_ (p := ⟨o, 1, none⟩) (.inl rfl) _).set_ (p := ⟨o, 2, none⟩) (.inl rfl) _).set_ (p := ⟨o, 3, none⟩) (.inl rfl) _).set_ (p := ⟨o, 4, none⟩) (.inl rfl) _).set_ (p := ⟨o, 5, none⟩) (.inl rfl) _)
     ·have := Blk.all6 KO.out (.int .i64 l.id) (.int .i64 p) (.int .i64 sc) (.slice B n c') (.slice B' h c'') (.int .i64 0)
      rw [← HSC.out] at this ⊢
      exact this
     rintro W ⟨ho, hko⟩
     replace HO1 := Lib.hid (HO1.out.onlyT KO.out (by decide) ho)
     replace HO2 := Lib.hid (HO2.out.onlyT KO.out (by decide) ho)
     replace KR := Lib.hid (KR.out.only ho (by omega))
     replace HB := Lib.hid (HB.out.trans (ho.below (by omega) HB.out.size))
     replace KO := Lib.hid hko
     clear co fo zo ho hko
     have co := fun o => KO.out.cell o
     have fo := fun o => KO.out.frozen o
     have zo := KO.out.lt
     go_wp2_with fail
     refine (l23List_any (makeR l p xs 0) ⟨B, n, c'⟩ ⟨B', h, c''⟩ _ ⟨Ow.rd encIn_len (by decide) HO1.out, HO2.out.rdI, ⟨hcc1, hn⟩, hcc2, hhb⟩).mono ?_
     rintro e w2 ⟨A2, c2, rfl, hO, hb⟩
     replace KO := Lib.hid (KO.out.next hb)
     replace KR := Lib.hid (KR.out.next hb)
     replace HO1 := Lib.hid (HO1.out.next hb)
     replace HO2 := Lib.hid (HO2.out.next hb)
     replace HB := Lib.hid (below_next HB.out hb)
     have HLI := Lib.hid hO
     have hll : (listW (makeR l p xs 0)).length ≤ 1099511627776 := by
      have e1 : (makeR l p xs 0).ins.length = n := HN.out.len
      have e2 : (makeR l p xs 0).hs.length = h := HHL.out
      simp only [listW, List.length_append, List.length_map, e1, e2, List.length_cons, List.length_nil]
      omega
     have HLL := Lib.hid hll
     clear hO hb co fo zo hll
     go_wp2_with fail
     refine (l4Tag_any key A2 _ c2 (listW (makeR l p xs 0)) _ HLI.out.rdI HLL.out).mono ?_
     rintro e w3 ⟨rfl, rfl⟩
     obtain ⟨tg, htg⟩ : ∃ t, tagW key (listW (makeR l p xs 0)) = t := ⟨_, rfl⟩
     rw [htg]
     have HTG := Lib.hid htg
     clear htg
     have co := fun o => KO.out.cell o
     have fo := fun o => KO.out.frozen o
     have zo := KO.out.lt
     have cr := fun o => KR.out.cell o
     have fr := fun o => KR.out.frozen o
     have zr := KR.out.lt
     go_wp2_with fail
     refine bodyPost_ret (v := .tuple #[repV (makeR l p xs tg) ⟨B, n, c'⟩ ⟨B', h, c''⟩, .bool true]) (by simp [results, Tryz.results82, go_sem, cr, makeR]) rfl ?_
     unfold RepPost
     rw [HF.out, HTG.out]
     have q1 : Only o w3 (w3.setCell ⟨o, 5, none⟩ (.int .i64 tg)) := (Only.refl o w3).set_ (p := ⟨o, 5, none⟩) (.inl rfl) _
     have kr1 := KR.out.only q1 (by omega)
     have q2 := fun v0 v1 v2 v3 v4 v5 => (((((((Only.refl (w.heap.size + 1) (w3.setCell ⟨o, 5, none⟩ (.int .i64 tg))).set_ (p := ⟨w.heap.size + 1, 0, none⟩) (.inl rfl) v0).set_ (p := ⟨w.heap.size + 1, 1, none⟩) (.inl rfl) v1).set_ (p := ⟨w.heap.size + 1, 2, none⟩) (.inl rfl) v2).set_ (p := ⟨w.heap.size + 1, 3, none⟩) (.inl rfl) v3).set_ (p := ⟨w.heap.size + 1, 4, none⟩) (.inl rfl) v4).set_ (p := ⟨w.heap.size + 1, 5, none⟩) (.inl rfl) v5)
     have hb1 := HB.out.trans (q1.below (show w.heap.size ≤ o by omega) HB.out.size)
     refine ⟨⟨B, n, c'⟩, ⟨B', h, c''⟩, rfl, ⟨(HO1.out.onlyT KO.out (by decide) q1).onlyT kr1 (by decide) (q2 _ _ _ _ _ _), (HO2.out.onlyT KO.out (by decide) q1).onlyT kr1 (by decide) (q2 _ _ _ _ _ _), hn, hhb⟩, hb1.trans ((q2 _ _ _ _ _ _).below (by omega) hb1.size)⟩
theorem OwRep.onlyT {w W : World} {r : Rep} {si sh : Sl} {o T' : Nat} {cs : Array Value} (h : OwRep w r si sh) (k : Blk w o T' cs) (h1 : 80 ≠ T') (h2 : 3 ≠ T') (ho : Only o w W) : OwRep W r si sh := ⟨h.1.onlyT k h1 ho, h.2.1.onlyT k h2 ho, h.2.2⟩
end Go.Proofs.YtemnlheidghbmaaGreatDoor
namespace Go.Proofs.YtemnlheidghbmaaGreatDoor
open Go.RowKit Go.Sort
end Go.Proofs.YtemnlheidghbmaaGreatDoor
namespace Go.Proofs.YtemnlheidghbmaaGreatDoor
open Go.RowKit Go.Sort Go.Shelf
attribute [local go_sem] Oper.semAt_some
structure KX (f m : Nat) (a b : World) : Prop where
 os : b.os = a.os
 tape : b.tape = a.tape
 output : b.output = a.output
 size : a.heap.size ≤ b.heap.size
 block : ∀ i, i < m → i ≠ f → b.heap[i]? = a.heap[i]?
section
variable {f m : Nat} {a b c : World}
theorem KX.refl (f m : Nat) (w : World) : KX f m w w := ⟨rfl, rfl, rfl, Nat.le_refl _, fun _ _ _ => rfl⟩
theorem KX.trans (h : KX f m a b) (k : KX f m b c) : KX f m a c := ⟨k.os.trans h.os, k.tape.trans h.tape, k.output.trans h.output, Nat.le_trans h.size k.size, fun i h1 h2 => (k.block i h1 h2).trans (h.block i h1 h2)⟩
theorem KX.of_below (h : Below m a b) (f : Nat) : KX f m a b := ⟨h.os, h.tape, h.output, h.size, fun i h1 _ => h.block i h1⟩
theorem KX.grown {row : Nat} (h : a.grownBy b (some row)) (hm : m ≤ a.heap.size) (hr : row = f ∨ m ≤ row) : KX f m a b := ⟨h.os, h.tape, h.output, h.size, fun i h1 h2 => h.block i (by omega) (by intro e; injection e with e; omega)⟩
theorem KX.set_ {W : World} (m : Nat) (u : Value) : KX f m W (W.setCell ⟨f, 0, none⟩ u) :=
 ⟨rfl, rfl, rfl, by simp, fun i _ h2 => Below.heap_setCell W ⟨f, 0, none⟩ u i h2⟩
theorem Blk.kx {g T : Nat} {cs : Array Value} (hb : Blk a g T cs) (h : KX f m a b) (hg : g < m) (hf : g ≠ f) : Blk b g T cs := (h.block g hg hf).trans hb
theorem Blk.grownBy {g T : Nat} {cs : Array Value} (hb : Blk a g T cs) {row : Option Nat} (h : a.grownBy b row) (hr : ∀ r, row = some r → ∃ o : Obj, a.heap[r]? = some o ∧ o.isCells = false) : Blk b g T cs := by
 refine (h.block g hb.lt ?_).trans hb
 intro e
 obtain ⟨o, ho, hc⟩ := hr g e.symm
 have hb' := hb
 unfold Blk at hb'
 rw [hb'] at ho
 injection ho with ho
 subst ho
 cases hc
end
def Lnk (w : World) : Option Addr → List Bx → Prop
 | p, [] => p = none
 | p, b :: r => ∃ g q, p = some ⟨g, 0, none⟩ ∧ Blk w g 143 #[.int .i64 b.1, .int .i64 b.2.1, .int .i64 b.2.2.1, .int .i64 b.2.2.2, .pointer q] ∧ Lnk w q r
theorem Lnk.keep {w w' : World} (hk : ∀ g cs, Blk w g 143 cs → Blk w' g 143 cs) : ∀ {p : Option Addr} {bs : List Bx}, Lnk w p bs → Lnk w' p bs
 | _, [], h => h
 | _, _ :: _, ⟨g, q, hp, hb, hr⟩ => ⟨g, q, hp, hk g _ hb, Lnk.keep hk hr⟩
end Go.Proofs.YtemnlheidghbmaaGreatDoor
namespace Go.Proofs.YtemnlheidghbmaaGreatDoor
open Go.RowKit Go.Sort
end Go.Proofs.YtemnlheidghbmaaGreatDoor
namespace Go.Proofs.YtemnlheidghbmaaGreatDoor
open Go.RowKit Go.Sort
theorem Src.drew {w : World} {size m : Nat} {A : Option Addr} {news : List Value} (h : Src w size A m news) : Src w.drew size A m news := h
def over (cs : List Value) (o : Nat) (vs : List Value) : List Value := cs.take o ++ vs ++ cs.drop (o + vs.length)
theorem over_length {cs : List Value} {o : Nat} {vs : List Value} (h : o + vs.length ≤ cs.length) : (over cs o vs).length = cs.length := by
 simp [over]; omega
section
variable {P : Program} (w : World)
theorem run_copy_blk (dT sT ty elem : TypeId) (sz g o dLen dCap : Nat) (A : Option Addr) (sLen sCap m : Nat) (cur : Array Value) (T : TypeId) (cs : List Value)
  (hu : P.underlying dT = some (.slice elem)) (hs : (P.info? elem).map (·.size) = some sz) (hg : Blk w g T cur) (hm : Nat.min sLen dLen = m) (hr : Src w sz A m cs) (hA : A = none → sLen = 0)
  (hfit : o + cs.length ≤ cur.size) (h1 : ∀ v ∈ cs, v.oneCell' = true) :
  (Builtin.copy_ #[dT, sT] ty #[.slice (some ⟨g, o, none⟩) dLen dCap, .slice A sLen sCap]).run P w = .ok (goInt m) (w.setRow g (over cur.toList o cs).toArray) := by
 cases hq : P.info? elem with
 | none => simp [hq] at hs
 | some i =>
  have hi : i.size = sz := by simpa [hq] using hs
  have hst := run_storeCells_at P g o T cs 0 cur w hg (by simpa using hfit) h1
  simp only [Nat.add_zero] at hst
  cases A with
  | none =>
   have h0 := hA rfl
   subst h0
   have hm0 : m = 0 := by rw [← hm]; exact Nat.zero_min _
   subst hm0
   obtain rfl : cs = [] := List.eq_nil_of_length_eq_zero (by simpa using hr.1)
   have hw : w.setRow g (over cur.toList o []).toArray = w := by
    have : (over cur.toList o []).toArray = cur := by simp [over]
    rw [this, setRow_self w g cur T (0, 0) hg]
   rw [hw]
   simp [Builtin.copy_, run_underlying hu, Builtin.lenOf, Builtin.firstCells, sizeOf, typeInfo, hq, storeCells]
  | some a =>
   have hcells : ∀ j v, cs[j]? = some v → w.cell? (a.add j) = some v := by
    intro j v hj
    rcases Nat.eq_zero_or_pos m with h0 | h0
    ·subst h0
     obtain rfl : cs = [] := List.eq_nil_of_length_eq_zero (by simpa using hr.1)
     simp at hj
    ·obtain ⟨ad, e, hc⟩ := hr.2 h0
     injection e with e
     subst e
     exact hc j v hj
   have hl := run_loadCells_list (P := P) w a cs hcells
   rw [hr.1] at hl
   simp [Builtin.copy_, run_underlying hu, Builtin.lenOf, Builtin.firstCells, sizeOf, typeInfo, hq, hi, hm, hl, hst, over]
theorem Blk.setRow_ {w : World} {g T : Nat} {cs : Array Value} (h : Blk w g T cs) (cs' : Array Value) : Blk (w.setRow g cs') g T cs' := setRow_heap w g cs cs' T (0, 0) h
theorem only_setRow (w : World) (g : Nat) (cs : Array Value) : w.grownBy (w.setRow g cs) (some g) := by
 refine ⟨rfl, rfl, rfl, by simp [World.setRow], fun i hi hne => ?_⟩
 unfold World.setRow
 simp only [Array.getElem?_modify]
 rw [if_neg (by rintro rfl; exact hne rfl)]
theorem copy_ex (dT elem : TypeId) (sz g o dLen : Nat) (A : Option Addr) (sLen m : Nat) (cur : Array Value) (T : TypeId) (cs : List Value)
  (hu : P.underlying dT = some (.slice elem)) (hs : (P.info? elem).map (·.size) = some sz) (hg : Blk w g T cur) (hm : Nat.min sLen dLen = m) (hr : Src w sz A m cs) (hA : A = none → sLen = 0)
  (hfit : o + cs.length ≤ cur.size) (h1 : ∀ v ∈ cs, v.oneCell' = true) :
  ∃ w', (∀ ty dCap sCap, (Builtin.copy_ #[dT, dT] ty #[.slice (some ⟨g, o, none⟩) dLen dCap, .slice A sLen sCap]).run P w = .ok (goInt m) w') ∧ Blk w' g T (over cur.toList o cs).toArray ∧ w.grownBy w' (some g) :=
 ⟨_, fun ty dCap sCap => run_copy_blk w dT dT ty elem sz g o dLen dCap A sLen sCap m cur T cs hu hs hg hm hr hA hfit h1, hg.setRow_ _, only_setRow _ _ _⟩
end
end Go.Proofs.YtemnlheidghbmaaGreatDoor
namespace Go.Proofs.YtemnlheidghbmaaGreatDoor
open Go.RowKit Go.Sort
theorem all_dropB {α : Type} {p : α → Bool} {xs : List α} {k : Nat} {x : α} (h : xs[k]? = some x) : (xs.drop k).all p = (p x && (xs.drop (k + 1)).all p) := by
 obtain ⟨hk', he⟩ := List.getElem?_eq_some_iff.1 h
 rw [List.drop_eq_getElem_cons hk', he]; rfl
end Go.Proofs.YtemnlheidghbmaaGreatDoor
namespace Go.Proofs.YtemnlheidghbmaaGreatDoor
open Go.RowKit Go.Sort
set_option maxHeartbeats 400000 in
theorem isHash_any (n : Int) (w : World) :
  Calls Tryz.prog 52 #[.int .i64 n] w fun e w' => e = .returned (.bool (hashOk n)) ∧ w = w' := by
 go_enter Tryz.func52, Tryz.ntmps52
 go_wp2_with fail
 refine (inRange_any _ _ _ _).mono ?_
 rintro e w' ⟨rfl, rfl⟩
 go_wp2_with fail
 go_ret
 exact ⟨rfl, rfl⟩
end Go.Proofs.YtemnlheidghbmaaGreatDoor
namespace Go.Proofs.YtemnlheidghbmaaGreatDoor
open Go.RowKit Go.Sort
theorem blk_apart {B T T' sz n c x : Nat} {A : Option Addr} {w w' : World} {cs : Array Value} {vs : List Value} (h : Blk w x T cs) (k : Ow B w T' sz A n c vs) (hne : T ≠ T') (hg : w.grownBy w' (ownB A c)) : Blk w' x T cs :=
 (hg.block x h.lt (by
  intro e
  rcases Nat.eq_zero_or_pos c with h0 | h0
  ·rw [h0] at e; simp [ownB] at e
  ·obtain ⟨g2, _, e2, _, hb2, _⟩ := k.blk h0
   unfold ownB at e
   rw [if_neg (by omega), e2] at e
   injection e with e
   simp only at e
   exact Blk.ne_ h hb2 hne e)).trans h
end Go.Proofs.YtemnlheidghbmaaGreatDoor
namespace Go.Proofs.YtemnlheidghbmaaGreatDoor
open Go.RowKit Go.Sort
set_option maxRecDepth 100000 in
set_option maxHeartbeats 1000000 in
theorem sameInts_same (A A' : Option Addr) (n c c' : Nat) (zs : List Int) (w : World) (hr : RdI .i64 w A n zs) (hr' : RdI .i64 w A' n zs) (hn : n ≤ 1048576) :
  Calls Tryz.prog 24 #[.slice A n c, .slice A' n c'] w fun e w' => e = .returned (.bool true) ∧ Below w.heap.size w w' := by
 have HR := Lib.hid hr
 have HR' := Lib.hid hr'
 clear hr hr'
 go_enter Tryz.func24, Tryz.ntmps24
 go_wp2
 go_loopw [5] (fun i wr => ∃ k : Nat, k ≤ n ∧ i = .int .i64 k ∧ Hid (Below w.heap.size w wr)) (fun i _ => n - (intOf i).toNat)
 case atStart => exact ⟨0, Nat.zero_le _, rfl, Below.refl _ _⟩
 case round =>
  obtain ⟨k, hk, rfl, HB⟩ := hrel
  by_cases hlt : k < n
  ·obtain ⟨b, off, z, hA, hb, hz, e0⟩ := (HR.out.below HB.out).at_ hlt
   obtain ⟨b', off', z', hA', hb', hz', f0⟩ := (HR'.out.below HB.out).at_ hlt
   subst hA hA'
   obtain rfl : z = z' := by rw [hz] at hz'; exact Option.some.inj hz'
   clear hz hz'
   have g0 := fun d os => cell_regrown e0 d os
   have h0 := fun d os => cell_regrown f0 d os
   clear e0 f0
   go_wp2
   refine wp_region_qb (by kernel_rfl) (by kernel_rfl) ?_
   repeat (go_big_quiet_step (fail))
   refine wpQuiet_nil ?_
   intro w1 hb1
   go_wp2
   exact ⟨⟨k + 1, by omega, by go_num, below_next HB.out hb1⟩, by simp [intOf]; omega⟩
  ·go_wp2
   go_ret
   exact ⟨rfl, HB.out⟩
end Go.Proofs.YtemnlheidghbmaaGreatDoor
namespace Go.Proofs.YtemnlheidghbmaaGreatDoor
open Go.RowKit Go.Sort
end Go.Proofs.YtemnlheidghbmaaGreatDoor
namespace Go.Proofs.YtemnlheidghbmaaGreatDoor
open Go.RowKit Go.Sort
end Go.Proofs.YtemnlheidghbmaaGreatDoor
namespace Go.Proofs.YtemnlheidghbmaaGreatDoor
open Go.RowKit Go.Sort
theorem cellsE_set (es : List Ent) : ∀ (k : Nat) (e : Ent) (s : Int), es[k]? = some e → (cellsE es).set (k * 2 + 1) (.int .i64 s) = cellsE (es.set k (e.1, s)) := by
 induction es with
 | nil => intro k e s h; simp at h
 | cons x r ih =>
  intro k e s h
  cases k with
  | zero =>
   simp at h
   subst h
   rfl
  | succ k =>
   have := ih k e s (by simpa using h)
   rw [show (k + 1) * 2 + 1 = (k * 2 + 1) + 1 + 1 by omega, cellsE_cons, List.set_cons_succ, List.set_cons_succ, this, List.set_cons_succ, cellsE_cons]
theorem Only.own_ {g : Nat} {a b c : World} {row : Option Nat} (h : Only g a b) (k : b.grownBy c row) (hr : ∀ x, row = some x → a.heap.size ≤ x) : Only g a c :=
 ⟨k.os.trans h.os, k.tape.trans h.tape, k.output.trans h.output, Nat.le_trans h.size k.size, fun i hi hne => (k.block i (Nat.lt_of_lt_of_le hi h.size) (by
  intro e
  have := hr i e.symm
  omega)).trans (h.block i hi hne)⟩
end Go.Proofs.YtemnlheidghbmaaGreatDoor

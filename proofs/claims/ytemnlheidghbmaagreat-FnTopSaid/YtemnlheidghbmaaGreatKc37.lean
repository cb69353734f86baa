/-
  Lemmas and contracts: Es Ex Pv Pw Sm. No condition.
-/
import Derived.Deep.CutBlock
import Derived.Laws.StructEq
import Derived.Test.YtemnlheidghbmaaGreatKc3
import Derived.Test.YtemnlheidghbmaaGreatKc27
import Derived.Test.YtemnlheidghbmaaGreatKc29
import Derived.Test.YtemnlheidghbmaaGreatKc36
namespace Go.Proofs.YtemnlheidghbmaaGreat
open Go.RowKit Go.Sort
def OwLw (B : Nat) (w : World) (l : Lvl) (ws gs : Sl) : Prop := Ow B w 31 4 ws.a ws.n ws.c (cellsB l.walls) ∧ Ow B w 31 4 gs.a gs.n gs.c (cellsB l.gates) ∧ ws.n ≤ 1048576 ∧ gs.n ≤ 1048576
section
variable {B C : Nat} {w w' : World} {l l' : Lvl} {ws gs : Sl}
theorem OwLv.lw (h : OwLv B w l ws gs) : OwLw B w l ws gs := ⟨h.wl, h.gt, by have := h.wn; omega, by have := h.gn; omega⟩
theorem OwLw.rd (h : OwLw B w l ws gs) : RdL w l ws gs := ⟨Ow.rd encB_len (by decide) h.1, Ow.rd encB_len (by decide) h.2.1, ⟨h.1.le, h.2.2.1⟩, h.2.1.le, h.2.2.2⟩
theorem OwLw.onlyT {o T' : Nat} {cs : Array Value} (h : OwLw B w l ws gs) (k : Blk w o T' cs) (hne : 31 ≠ T') (ho : Only o w w') : OwLw B w' l ws gs := ⟨h.1.onlyT k hne ho, h.2.1.onlyT k hne ho, h.2.2⟩
theorem OwLw.keepB (h : OwLw B w l ws gs) (hk : ∀ i, B ≤ i → i < w.heap.size → w'.heap[i]? = w.heap[i]?) : OwLw B w' l ws gs := ⟨h.1.keep fun x hx hc => hk x (h.1.lt hx hc).1 (h.1.lt hx hc).2, h.2.1.keep fun x hx hc => hk x (h.2.1.lt hx hc).1 (h.2.1.lt hx hc).2, h.2.2⟩
theorem OwLw.of (h : OwLw B w l ws gs) (h1 : l'.walls = l.walls) (h2 : l'.gates = l.gates) : OwLw B w l' ws gs := ⟨h1 ▸ h.1, h2 ▸ h.2.1, h.2.2⟩
theorem Ow.apartB {T T' sz sz' n n' c c' : Nat} {A A' : Option Addr} {vs vs' : List Value} (h : Ow B w T sz A n c vs) (hlt : ∀ x, A.map (·.block) = some x → 0 < c → x < C) (k : Ow C w T' sz' A' n' c' vs') (hg : w.grownBy w' (ownB A' c')) : Ow B w' T sz A n c vs :=
 h.keep fun x hx hc => hg.block x (h.lt hx hc).2 (fun e => by have := hlt x hx hc; have := row_base k x e.symm; omega)
end
theorem three_get {w : World} {b : Nat} {z0 z1 z2 v : Int} (h : Blk w b 3 #[.int .i64 z0, .int .i64 z1, .int .i64 z2]) (h0 : 0 ≤ v) (h1 : v < 3) : ∃ u : Int, w.cell? ⟨b, v.toNat, none⟩ = some (.int .i64 u) := by
 rw [h.cell]
 have : v = 0 ∨ v = 1 ∨ v = 2 := by omega
 rcases this with rfl | rfl | rfl <;> exact ⟨_, rfl⟩
def BentPost (g p K B : Nat) (w : World) (e : Ending) (w' : World) : Prop :=
 ∃ (l : Lvl) (ws gs : Sl) (q : Nat), e = .returned (lvlV l ws gs) ∧ OwLw B w' l ws gs ∧ q ≤ p + K ∧ Dr w g q w'
def BentMid (g p K B : Nat) (w wx : World) : Prop :=
 ∃ (l : Lvl) (ws gs : Sl) (q : Nat), q ≤ p + K ∧ Dr w g q wx ∧ Blk wx (w.heap.size + 1) 33 (lvlC lv0 ⟨none, 0, 0⟩ ⟨none, 0, 0⟩) ∧ Blk wx w.heap.size 33 (lvlC l ws gs) ∧ OwLw B wx l ws gs
set_option maxRecDepth 100000 in
set_option maxHeartbeats 8000000 in
theorem l91Bent_any (g p B : Nat) (l : Lvl) (ws gs : Sl) (w : World) (h : Rdr w g p) (hp : p ≤ 900000) (hl : OwLv B w l ws gs) (hB : g < B) (hBw : B ≤ w.heap.size) :
  Calls Tryz.prog 21 #[.pointer (some ⟨g, 0, none⟩), lvlV l ws gs] w (BentPost g p 100 B w) := by
 have hg := h.lt
 have H := Lib.hid h
 have HL0 := Lib.hid hl
 have hwn := hl.wn
 have hgn := hl.gn
 obtain ⟨i0, hi0, hz0, hz1, hz2⟩ := info_parts infoB
 have HI := Lib.hid hi0
 have HZ := Lib.hid hz0
 have HS := Lib.hid hz1
 have HBY := Lib.hid hz2
 clear h hl hi0 hz0 hz1 hz2
 go_enter Tryz.func21, Tryz.ntmps21
 go_upto_region 1 with (fail)
 refine into_world (fun W => Dr w g p W ∧ OwLv B W l ws gs ∧ Blk W w.heap.size 33 (lvlC l ws gs) ∧ Blk W (w.heap.size + 1) 33 (lvlC lv0 ⟨none, 0, 0⟩ ⟨none, 0, 0⟩)) ⟨Dr.next ⟨H.out, Only.refl _ _⟩ (ba (ba (Below.refl _ _))), HL0.out.next (ba (ba (Below.refl _ _))), (Blk.new _ _ _).alloc _, Blk.newAt _ _ _ _ (by simp)⟩ ?_
 rintro W ⟨hD, hOL, hKL, hKR⟩
 have HD := Lib.hid hD
 have HOL := Lib.hid hOL
 have KL := Lib.hid hKL
 have KR := Lib.hid hKR
 clear hD hOL hKL hKR
 have n0 : w.heap.size ≠ g := by omega
 have n1 : w.heap.size + 1 ≠ g := by omega
 go_wp2_with fail
 refine (pick_any g 24 _ _ HD.out.1 (by omega)).mono ?_
 rintro e w1 ⟨v, rfl, a1, b1, hR, hO⟩
 replace HD := Lib.hid (HD.out.step hR hO)
 replace KL := Lib.hid (KL.out.only hO n0)
 replace KR := Lib.hid (KR.out.only hO n1)
 replace HOL := Lib.hid (HOL.out.only hO hB)
 have hs1 := KR.out.lt
 clear b1 hR hO
 go_upto_block 0 with (fail)
 go_cut [5] (fun _ wx => Hid (BentMid g p 100 B w wx))
 case rest =>
  obtain ⟨l', ws', gs', q, hq, hD, hKR, hKL, hOL⟩ := hcut.out
  replace HD := Lib.hid hD
  replace KR := Lib.hid hKR
  replace KL := Lib.hid hKL
  replace HOL := Lib.hid hOL
  clear hcut hD hKR hKL hOL
  go_upto_region 16 with (fail)
  have KR2 := Lib.hid (setLv (l := l') (ws := ws') (gs := gs') KR.out)
  have HRA := Lib.hid (rangeLv KL.out)
  have HTH := Lib.hid (thereLv KR.out)
  have HD2 := Lib.hid (Dr.sets hg (Nat.le_succ _) (lvlC l' ws' gs').toList 0 _ HD.out)
  have HOL2 := Lib.hid (OwLw.onlyT HOL.out KR.out (by decide) (onlySets (.inl rfl) (lvlC l' ws' gs').toList 0 _ (Only.refl _ _)))
  clear HI HZ HS HBY
  go_wp2_with (refine wpList_load_mid rfl 33 (.tmp 3) rfl w.heap.size 0 rfl (lvlC l' ws' gs').toList _ HRA.out Tryz.underlying33 rfl (by kernel_rfl) ?_; refine wpList_store_mid rfl 33 (.tmp 4) (.tmp 65) rfl (w.heap.size + 1) 0 (lvlC l' ws' gs') rfl rfl HTH.out (by kernel_rfl) (oneLv _ _ _) ?_; clear HRA HTH KR KL HD HOL; generalize World.setCells _ _ _ _ = Z at *; have cr := fun o => KR2.out.cell o)
  refine bodyPost_ret (v := lvlV l' ws' gs') (by simp [results, Tryz.results21, go_sem, cr]) rfl ?_
  exact ⟨l', ws', gs', q, rfl, HOL2.out, hq, HD2.out⟩
 case first =>
  by_cases h0 : v = 0
  ·have h0' : (v == 0) = true := by simpa using h0
   clear h0
   have hW : Below w1.heap.size w1 (w1.alloc (.cells #[.int .i64 (-1), .int .i64 99, .int .i64 100] 3)) := ba (Below.refl _ _)
   have HL := Lib.hid (Blk.new w1 3 #[.int .i64 (-1), .int .i64 99, .int .i64 100])
   have hn8 : w1.heap.size ≠ g := by have := HD.out.1.lt; omega
   replace HD := Lib.hid (HD.out.next hW)
   replace KR := Lib.hid (KR.out.next hW)
   replace KL := Lib.hid (KL.out.next hW)
   replace HOL := Lib.hid (HOL.out.next hW)
   clear hW
   go_wp2_with fail
   refine (pick_any g 3 _ _ HD.out.1 (by omega)).mono ?_
   rintro e w9 ⟨v9, rfl, a9, b9, hR, hO⟩
   have c9 := b9 (by omega)
   replace HD := Lib.hid (HD.out.step hR hO)
   replace KR := Lib.hid (KR.out.only hO n1)
   replace KL := Lib.hid (KL.out.only hO n0)
   replace HOL := Lib.hid (HOL.out.only hO hB)
   obtain ⟨u, hu⟩ := three_get (HL.out.only hO hn8) a9 c9
   clear b9 hR hO HL
   have cl := fun o => KL.out.cell o
   have fl := fun o => KL.out.frozen o
   have zl := KL.out.lt
   go_wp2_with fail
   go_meet
   exact ⟨⟨u, l.ticks, l.sx, l.sy, l.walls, l.gates, l.f, l.bans⟩, ws, gs, p + 1 + 1, by omega, HD.out.set (by simp) hg _, KR.out.far (p := ⟨w.heap.size, 0, none⟩) (by show w.heap.size + 1 ≠ w.heap.size; omega) _, KL.out.set_ 0 _, (HOL.out.lw.onlyT KL.out (by decide) (Only.set_ (p := ⟨w.heap.size, 0, none⟩) (Only.refl _ _) (.inl rfl) _)).of rfl rfl⟩
  have h0' : (v == 0) = false := by simpa using h0
  by_cases h1 : v = 1
  ·have h1' : (v == 1) = true := by simpa using h1
   clear h0 h1
   have hW : Below w1.heap.size w1 (w1.alloc (.cells #[.int .i64 0, .int .i64 1, .int .i64 60, .int .i64 61] 3)) := ba (Below.refl _ _)
   have HL := Lib.hid (Blk.new w1 3 #[.int .i64 0, .int .i64 1, .int .i64 60, .int .i64 61])
   have hn8 : w1.heap.size ≠ g := by have := HD.out.1.lt; omega
   replace HD := Lib.hid (HD.out.next hW)
   replace KR := Lib.hid (KR.out.next hW)
   replace KL := Lib.hid (KL.out.next hW)
   replace HOL := Lib.hid (HOL.out.next hW)
   clear hW
   go_wp2_with fail
   refine (pick_any g 4 _ _ HD.out.1 (by omega)).mono ?_
   rintro e w9 ⟨v9, rfl, a9, b9, hR, hO⟩
   have c9 := b9 (by omega)
   replace HD := Lib.hid (HD.out.step hR hO)
   replace KR := Lib.hid (KR.out.only hO n1)
   replace KL := Lib.hid (KL.out.only hO n0)
   replace HOL := Lib.hid (HOL.out.only hO hB)
   obtain ⟨u, hu⟩ := four_get (HL.out.only hO hn8) a9 c9
   clear b9 hR hO HL
   have cl := fun o => KL.out.cell o
   have fl := fun o => KL.out.frozen o
   have zl := KL.out.lt
   go_wp2_with fail
   go_meet
   exact ⟨⟨l.id, u, l.sx, l.sy, l.walls, l.gates, l.f, l.bans⟩, ws, gs, p + 1 + 1, by omega, HD.out.set (by simp) hg _, KR.out.far (p := ⟨w.heap.size, 1, none⟩) (by show w.heap.size + 1 ≠ w.heap.size; omega) _, KL.out.set_ 1 _, (HOL.out.lw.onlyT KL.out (by decide) (Only.set_ (p := ⟨w.heap.size, 1, none⟩) (Only.refl _ _) (.inl rfl) _)).of rfl rfl⟩
  have h1' : (v == 1) = false := by simpa using h1
  by_cases h2 : v = 2
  ·have h2' : (v == 2) = true := by simpa using h2
   clear h0 h1 h2
   go_wp2_with fail
   refine (l91Vec_any g _ _ HD.out.1 (by omega)).mono ?_
   rintro e w3 ⟨x, y, q1, rfl, hq1, hD1⟩
   replace KR := Lib.hid (KR.out.only hD1.2 n1)
   replace KL := Lib.hid (KL.out.only hD1.2 n0)
   replace HOL := Lib.hid (HOL.out.only hD1.2 hB)
   replace HD := Lib.hid (HD.out.step hD1.1 hD1.2)
   clear hD1
   have cl := fun o => KL.out.cell o
   have fl := fun o => KL.out.frozen o
   have zl := KL.out.lt
   go_wp2_with fail
   go_meet
   exact ⟨⟨l.id, l.ticks, x, y, l.walls, l.gates, l.f, l.bans⟩, ws, gs, q1, by omega, (HD.out.set (by simp) hg _).set (by simp) hg _, (KR.out.far (p := ⟨w.heap.size, 2, none⟩) (by show w.heap.size + 1 ≠ w.heap.size; omega) _).far (p := ⟨w.heap.size, 3, none⟩) (by show w.heap.size + 1 ≠ w.heap.size; omega) _, (KL.out.set_ 2 _).set_ 3 _, (HOL.out.lw.onlyT KL.out (by decide) (Only.set_ (p := ⟨w.heap.size, 3, none⟩) (Only.set_ (p := ⟨w.heap.size, 2, none⟩) (Only.refl _ _) (.inl rfl) _) (.inl rfl) _)).of rfl rfl⟩
  have h2' : (v == 2) = false := by simpa using h2
  by_cases h3 : v = 3
  ·have h3' : (v == 3) = true := by simpa using h3
   clear h0 h1 h2 h3
   have cl := fun o => KL.out.cell o
   have fl := fun o => KL.out.frozen o
   have zl := KL.out.lt
   go_wp2_with (at_builtin; refine wpList_append_ow _ rfl (.tmp 30) (.tmp 32) _ rfl w1.heap.size 31 i0 _ 4 32 Tryz.underlying29 HI.out HZ.out HS.out HBY.out rfl (by omega) _ 0 0 [] rfl (Ow.bare _ _ _ _ _) _ ws.n ws.c (cellsB l.walls) rfl (HOL.out.wl.alloc _).src (cellsX_oneCell encB_one _) (by unfold maxLen; omega) (by omega) (by simp) ?_; intro A1 c1 w2 hown hg2 hn2)
   simp only [Nat.zero_add, List.nil_append] at hown
   have hb : Below w1.heap.size w1 w2 := (Ow.bare w1.heap.size _ 31 4 (some ⟨w1.heap.size, 0, none⟩)).grown hg2 (ba (Below.refl _ _)) (Nat.le_refl _) (by simp)
   have hgw := HD.out.1.lt
   have z2 := hb.size
   have HLT := Lib.hid (fun x hx hc => (HOL.out.gt.lt hx hc).2 : ∀ x, gs.a.map (·.block) = some x → 0 < gs.c → x < w1.heap.size)
   replace HD := Lib.hid (HD.out.next hb)
   replace KR := Lib.hid (KR.out.next hb)
   replace KL := Lib.hid (KL.out.next hb)
   replace HOL := Lib.hid (HOL.out.next hb)
   have HOW := Lib.hid hown
   clear hown hg2 hn2 hb cl fl zl
   go_wp2_with fail
   refine (l91Box_any g _ _ HD.out.1 (by omega)).mono ?_
   rintro e w3 ⟨b1, q1, rfl, hq1, hD1⟩
   replace KR := Lib.hid (KR.out.only hD1.2 n1)
   replace KL := Lib.hid (KL.out.only hD1.2 n0)
   replace HOL := Lib.hid (HOL.out.only hD1.2 hB)
   replace HOW := Lib.hid (HOW.out.onlyG hD1.2 hgw)
   replace HD := Lib.hid (HD.out.step hD1.1 hD1.2)
   have z3 := hD1.2.size
   clear hD1
   go_wp2_with fail
   refine (l91Box_any g _ _ HD.out.1 (by omega)).mono ?_
   rintro e w4 ⟨b2, q2, rfl, hq2, hD2⟩
   replace KR := Lib.hid (KR.out.only hD2.2 n1)
   replace KL := Lib.hid (KL.out.only hD2.2 n0)
   replace HOL := Lib.hid (HOL.out.only hD2.2 hB)
   replace HOW := Lib.hid (HOW.out.onlyG hD2.2 hgw)
   replace HD := Lib.hid (HD.out.step hD2.1 hD2.2)
   have z4 := hD2.2.size
   clear hD2
   have cl := fun o => KL.out.cell o
   have fl := fun o => KL.out.frozen o
   have zl := KL.out.lt
   have hW : Below w4.heap.size w4 (w4.alloc (.cells #[.int .i64 b1.1, .int .i64 b1.2.1, .int .i64 b1.2.2.1, .int .i64 b1.2.2.2, .int .i64 b2.1, .int .i64 b2.2.1, .int .i64 b2.2.2.1, .int .i64 b2.2.2.2] 31)) := ba (Below.refl _ _)
   go_wp2_with (at_builtin; refine wpList_append_ow _ rfl (.tmp 33) (.tmp 38) _ rfl w1.heap.size 31 i0 _ 4 32 Tryz.underlying29 HI.out HZ.out HS.out HBY.out rfl (by omega) _ ws.n c1 (cellsB l.walls) rfl (HOW.out.alloc _) _ 2 2 (cellsB [b1, b2]) rfl (Src.blk (Blk.new _ _ _) rfl) (cellsX_oneCell encB_one _) (by unfold maxLen; omega) (by omega) (by simp; omega) ?_; intro A5 c5 w5 hown hg5 hn5; have KL5 := Lib.hid (blk_apart (KL.out.next hW) (HOW.out.next hW) (by decide) hg5); clear cl fl zl; have c5l := fun o => KL5.out.cell o; have f5l := fun o => KL5.out.frozen o; have z5l := KL5.out.lt)
   have KR5 := Lib.hid (blk_apart (KR.out.next hW) (HOW.out.next hW) (by decide) hg5)
   have HD5 := Lib.hid ((HD.out.next hW).grown hg hg5 (fun b hb => by have := row_base HOW.out b hb; omega))
   have HG5 := Lib.hid (Ow.apartB (HOL.out.next hW).gt HLT.out (HOW.out.next hW) hg5)
   have HW5 := Lib.hid hown
   clear hown hg5 hn5 hW c5l f5l
   go_meet
   refine ⟨⟨l.id, l.ticks, l.sx, l.sy, l.walls ++ [b1, b2], l.gates, l.f, l.bans⟩, ⟨A5, ws.n + 2, c5⟩, gs, q2, by omega, HD5.out.set (by simp) hg _, KR5.out.far (p := ⟨w.heap.size, 4, none⟩) (by show w.heap.size + 1 ≠ w.heap.size; omega) _, KL5.out.set_ 4 _, ?_⟩
   have hho := Only.set_ (p := ⟨w.heap.size, 4, none⟩) (Only.refl w.heap.size w5) (.inl rfl) (Value.slice A5 (ws.n + 2) c5)
   refine ⟨Ow.onlyT (Ow.mono (by show Ow _ _ _ _ _ _ _ (cellsX encB (l.walls ++ [b1, b2])); rw [cellsX_append]; exact HW5.out) (by omega)) KL5.out (by decide) hho, Ow.onlyT HG5.out KL5.out (by decide) hho, ?_, ?_⟩
   ·show ws.n + 2 ≤ 1048576
    omega
   ·show gs.n ≤ 1048576
    omega
  have h3' : (v == 3) = false := by simpa using h3
  by_cases h4 : v = 4
  ·have h4' : (v == 4) = true := by simpa using h4
   clear h0 h1 h2 h3 h4
   have cl := fun o => KL.out.cell o
   have fl := fun o => KL.out.frozen o
   have zl := KL.out.lt
   go_wp2_with (at_builtin; refine wpList_append_ow _ rfl (.tmp 43) (.tmp 45) _ rfl w1.heap.size 31 i0 _ 4 32 Tryz.underlying29 HI.out HZ.out HS.out HBY.out rfl (by omega) _ 0 0 [] rfl (Ow.bare _ _ _ _ _) _ gs.n gs.c (cellsB l.gates) rfl (HOL.out.gt.alloc _).src (cellsX_oneCell encB_one _) (by unfold maxLen; omega) (by omega) (by simp) ?_; intro A1 c1 w2 hown hg2 hn2)
   simp only [Nat.zero_add, List.nil_append] at hown
   have hb : Below w1.heap.size w1 w2 := (Ow.bare w1.heap.size _ 31 4 (some ⟨w1.heap.size, 0, none⟩)).grown hg2 (ba (Below.refl _ _)) (Nat.le_refl _) (by simp)
   have hgw := HD.out.1.lt
   have z2 := hb.size
   have HLT := Lib.hid (fun x hx hc => (HOL.out.wl.lt hx hc).2 : ∀ x, ws.a.map (·.block) = some x → 0 < ws.c → x < w1.heap.size)
   replace HD := Lib.hid (HD.out.next hb)
   replace KR := Lib.hid (KR.out.next hb)
   replace KL := Lib.hid (KL.out.next hb)
   replace HOL := Lib.hid (HOL.out.next hb)
   have HOW := Lib.hid hown
   clear hown hg2 hn2 hb cl fl zl
   go_wp2_with fail
   refine (l91Box_any g _ _ HD.out.1 (by omega)).mono ?_
   rintro e w3 ⟨b1, q1, rfl, hq1, hD1⟩
   replace KR := Lib.hid (KR.out.only hD1.2 n1)
   replace KL := Lib.hid (KL.out.only hD1.2 n0)
   replace HOL := Lib.hid (HOL.out.only hD1.2 hB)
   replace HOW := Lib.hid (HOW.out.onlyG hD1.2 hgw)
   replace HD := Lib.hid (HD.out.step hD1.1 hD1.2)
   have z3 := hD1.2.size
   clear hD1
   go_wp2_with fail
   refine (l91Box_any g _ _ HD.out.1 (by omega)).mono ?_
   rintro e w4 ⟨b2, q2, rfl, hq2, hD2⟩
   replace KR := Lib.hid (KR.out.only hD2.2 n1)
   replace KL := Lib.hid (KL.out.only hD2.2 n0)
   replace HOL := Lib.hid (HOL.out.only hD2.2 hB)
   replace HOW := Lib.hid (HOW.out.onlyG hD2.2 hgw)
   replace HD := Lib.hid (HD.out.step hD2.1 hD2.2)
   have z4 := hD2.2.size
   clear hD2
   have cl := fun o => KL.out.cell o
   have fl := fun o => KL.out.frozen o
   have zl := KL.out.lt
   have hW : Below w4.heap.size w4 (w4.alloc (.cells #[.int .i64 b1.1, .int .i64 b1.2.1, .int .i64 b1.2.2.1, .int .i64 b1.2.2.2, .int .i64 b2.1, .int .i64 b2.2.1, .int .i64 b2.2.2.1, .int .i64 b2.2.2.2] 31)) := ba (Below.refl _ _)
   go_wp2_with (at_builtin; refine wpList_append_ow _ rfl (.tmp 46) (.tmp 51) _ rfl w1.heap.size 31 i0 _ 4 32 Tryz.underlying29 HI.out HZ.out HS.out HBY.out rfl (by omega) _ gs.n c1 (cellsB l.gates) rfl (HOW.out.alloc _) _ 2 2 (cellsB [b1, b2]) rfl (Src.blk (Blk.new _ _ _) rfl) (cellsX_oneCell encB_one _) (by unfold maxLen; omega) (by omega) (by simp; omega) ?_; intro A5 c5 w5 hown hg5 hn5; have KL5 := Lib.hid (blk_apart (KL.out.next hW) (HOW.out.next hW) (by decide) hg5); clear cl fl zl; have c5l := fun o => KL5.out.cell o; have f5l := fun o => KL5.out.frozen o; have z5l := KL5.out.lt)
   have KR5 := Lib.hid (blk_apart (KR.out.next hW) (HOW.out.next hW) (by decide) hg5)
   have HD5 := Lib.hid ((HD.out.next hW).grown hg hg5 (fun b hb => by have := row_base HOW.out b hb; omega))
   have HG5 := Lib.hid (Ow.apartB (HOL.out.next hW).wl HLT.out (HOW.out.next hW) hg5)
   have HW5 := Lib.hid hown
   clear hown hg5 hn5 hW c5l f5l
   go_meet
   refine ⟨⟨l.id, l.ticks, l.sx, l.sy, l.walls, l.gates ++ [b1, b2], l.f, l.bans⟩, ws, ⟨A5, gs.n + 2, c5⟩, q2, by omega, HD5.out.set (by simp) hg _, KR5.out.far (p := ⟨w.heap.size, 5, none⟩) (by show w.heap.size + 1 ≠ w.heap.size; omega) _, KL5.out.set_ 5 _, ?_⟩
   have hho := Only.set_ (p := ⟨w.heap.size, 5, none⟩) (Only.refl w.heap.size w5) (.inl rfl) (Value.slice A5 (gs.n + 2) c5)
   refine ⟨Ow.onlyT HG5.out KL5.out (by decide) hho, Ow.onlyT (Ow.mono (by show Ow _ _ _ _ _ _ _ (cellsX encB (l.gates ++ [b1, b2])); rw [cellsX_append]; exact HW5.out) (by omega)) KL5.out (by decide) hho, ?_, ?_⟩
   ·show ws.n ≤ 1048576
    omega
   ·show gs.n + 2 ≤ 1048576
    omega
  have h4' : (v == 4) = false := by simpa using h4
  by_cases h5 : v = 5
  ·have h5' : (v == 5) = true := by simpa using h5
   clear h0 h1 h2 h3 h4 h5
   go_wp2_with fail
   refine (l91Box_any g _ _ HD.out.1 (by omega)).mono ?_
   rintro e w3 ⟨bx, q1, rfl, hq1, hD1⟩
   replace KR := Lib.hid (KR.out.only hD1.2 n1)
   replace KL := Lib.hid (KL.out.only hD1.2 n0)
   replace HOL := Lib.hid (HOL.out.only hD1.2 hB)
   replace HD := Lib.hid (HD.out.step hD1.1 hD1.2)
   clear hD1
   have cl := fun o => KL.out.cell o
   have fl := fun o => KL.out.frozen o
   have zl := KL.out.lt
   go_wp2_with fail
   go_meet
   refine ⟨⟨l.id, l.ticks, l.sx, l.sy, l.walls, l.gates, bx, l.bans⟩, ws, gs, q1, by omega, ?_, ?_, (((KL.out.set_ 6 _).set_ 7 _).set_ 8 _).set_ 9 _, ?_⟩
   ·iterate 4 (refine Dr.set ?_ (by simp) hg _)
    exact HD.out
   ·exact (((KR.out.far (p := ⟨w.heap.size, 6, none⟩) (by show w.heap.size + 1 ≠ w.heap.size; omega) _).far (p := ⟨w.heap.size, 7, none⟩) (by show w.heap.size + 1 ≠ w.heap.size; omega) _).far (p := ⟨w.heap.size, 8, none⟩) (by show w.heap.size + 1 ≠ w.heap.size; omega) _).far (p := ⟨w.heap.size, 9, none⟩) (by show w.heap.size + 1 ≠ w.heap.size; omega) _
   ·exact (HOL.out.lw.onlyT KL.out (by decide) (Only.set_ (p := ⟨w.heap.size, 9, none⟩) (Only.set_ (p := ⟨w.heap.size, 8, none⟩) (Only.set_ (p := ⟨w.heap.size, 7, none⟩) (Only.set_ (p := ⟨w.heap.size, 6, none⟩) (Only.refl _ _) (.inl rfl) _) (.inl rfl) _) (.inl rfl) _) (.inl rfl) _)).of rfl rfl
  have h5' : (v == 5) = false := by simpa using h5
  by_cases h6 : v = 6
  ·have h6' : (v == 6) = true := by simpa using h6
   clear h0 h1 h2 h3 h4 h5 h6
   go_wp2_with fail
   refine (pick_any g 6 _ _ HD.out.1 (by omega)).mono ?_
   rintro e w9 ⟨v9, rfl, a9, b9, hR, hO⟩
   have c9 := b9 (by omega)
   replace HD := Lib.hid (HD.out.step hR hO)
   replace KR := Lib.hid (KR.out.only hO n1)
   replace KL := Lib.hid (KL.out.only hO n0)
   replace HOL := Lib.hid (HOL.out.only hO hB)
   clear b9 hR hO
   have cl := fun o => KL.out.cell o
   have fl := fun o => KL.out.frozen o
   have zl := KL.out.lt
   go_wp2_with fail
   go_meet
   exact ⟨⟨l.id, l.ticks, l.sx, l.sy, l.walls, l.gates, l.f, v9 - 1⟩, ws, gs, p + 1 + 1, by omega, HD.out.set (by simp) hg _, KR.out.far (p := ⟨w.heap.size, 10, none⟩) (by show w.heap.size + 1 ≠ w.heap.size; omega) _, KL.out.set_ 10 _, (HOL.out.lw.onlyT KL.out (by decide) (Only.set_ (p := ⟨w.heap.size, 10, none⟩) (Only.refl _ _) (.inl rfl) _)).of rfl rfl⟩
  have h6' : (v == 6) = false := by simpa using h6
  clear h0 h1 h2 h3 h4 h5 h6
  go_wp2_with fail
  go_meet
  exact ⟨l, ws, gs, p + 1, by omega, HD.out, KR.out, KL.out, HOL.out.lw⟩
end Go.Proofs.YtemnlheidghbmaaGreat
namespace Go.Proofs.YtemnlheidghbmaaGreat
open Go.RowKit Go.Sort
def SvOutL (w : World) (e : Ending) (w' : World) : Prop := ∃ (t k g : Sl) (S : Svc) (l : Lvl) (ws gs : Sl), e = .returned (.tuple #[svV t k g, lvlV l ws gs]) ∧ RdS w' t k g S ∧ RdL w' l ws gs ∧ Below w.heap.size w w'
theorem below_setL {B o : Nat} {w w0 : World} (ho : B ≤ o) : ∀ (vs : List Value) (j : Nat) (w' : World), Below B w0 w' → Below B w0 (w'.setCells o j vs)
 | [], _, _, h => h
 | v :: vs, j, _, h => below_setL (w := w) ho vs (j + 1) _ (h.setCell (p := ⟨o, j, none⟩) ho v)
set_option maxRecDepth 100000 in
set_option maxHeartbeats 4000000 in
theorem drawServiceLevel_any (A : Option Addr) (n c : Nat) (zs : List Int) (w : World) (h : Bys w A n c zs) : Calls Tryz.prog 6 #[.slice A n c] w (SvOutL w) := by
 obtain ⟨hr, hz, hn, hc⟩ := h
 have HR := Lib.hid hr
 have HZS := Lib.hid hz
 clear hr hz
 go_enter Tryz.func6, Tryz.ntmps6
 go_wp2_with fail
 refine (l6Open_any _ _ _ zs _ (HR.out.below (ba (ba (Below.refl _ _)))) HZS.out hn hc).mono ?_
 rintro e w1 ⟨g, rfl, hg, hR1, hb1⟩
 simp only [World.size_alloc] at hg
 have hgl := hR1.lt
 have n0 : w.heap.size ≠ g := by omega
 have n1 : w.heap.size + 1 ≠ g := by omega
 have KR := Lib.hid (((Blk.new w 26 (svC sl0 sl0 sl0)).alloc _).next hb1)
 have KQ := Lib.hid ((Blk.newAt _ 33 (lvlC lv0 sl0 sl0) (w.heap.size + 1) (by simp)).next hb1)
 have HB := Lib.hid (show Below w.heap.size w w1 from (fun x => ba (ba x)) hb1)
 have HR1 := Lib.hid hR1
 clear hb1 hR1
 go_wp2_with fail
 refine (l92Service_any g 0 _ HR1.out (by omega)).mono ?_
 rintro e w2 ⟨t, k, gg, S, sx, q, rfl, ho, hid, _, hq, hD⟩
 have hz2 := hD.2.size
 replace HB := Lib.hid (HB.out.trans (hD.2.below (by omega) (by omega)))
 replace KR := Lib.hid (KR.out.only hD.2 n0)
 replace KQ := Lib.hid (KQ.out.only hD.2 n1)
 have HRD := Lib.hid hD.1
 have HO := Lib.hid ho
 have HID := Lib.hid hid
 clear hD ho hid
 go_upto_region 3 with (fail)
 refine into_world (fun Y => Rdr Y g q ∧ Below w.heap.size w Y ∧ Blk Y w.heap.size 26 (svC sl0 sl0 sl0) ∧ Blk Y w2.heap.size 26 (svC t k gg) ∧ OwS (g + 1) w2.heap.size Y t k gg S ∧ Blk Y (w.heap.size + 1) 33 (lvlC lv0 sl0 sl0)) ⟨HRD.out.next (ba (Below.refl _ _)), HB.out.alloc HB.out.size _, KR.out.alloc _, Blk.new _ _ _, HO.out.next (ba (Below.refl _ _)), KQ.out.alloc _⟩ ?_
 rintro Y ⟨hR, hB, hKR, hKS, ho, hKQ⟩
 replace HRD := Lib.hid hR
 replace HB := Lib.hid hB
 replace KR := Lib.hid hKR
 replace KQ := Lib.hid hKQ
 have KS := Lib.hid hKS
 replace HO := Lib.hid ho
 clear hR hB hKR hKS ho
 have HDS := Lib.hid (DS.of (q := g) (r := w.heap.size) HO.out (by omega) (by omega))
 have hgY := HRD.out.lt
 have hsY := KS.out.lt
 have cs := fun o => KS.out.cell o
 have fs := fun o => KS.out.frozen o
 have zs := KS.out.lt
 go_wp2_with fail
 refine (l92Ruined_any g q w.heap.size t k gg S _ HRD.out (by omega) HDS.out (by omega) HID.out).mono ?_
 rintro e w3 ⟨t2, k2, g2, S2, q2, rfl, hds, hq2, hD⟩
 have hz3 := hD.2.size
 replace HB := Lib.hid (HB.out.trans (hD.2.below (by omega) (by omega)))
 replace KR := Lib.hid (KR.out.only hD.2 n0)
 replace KQ := Lib.hid (KQ.out.only hD.2 n1)
 replace HRD := Lib.hid hD.1
 replace HDS := Lib.hid hds
 clear hds hD cs fs zs
 go_wp2_with fail
 refine (l91Level_any g _ _ HRD.out (by omega)).mono ?_
 rintro e w4 ⟨l, ws, gs, q4, rfl, hol, hq4, hD⟩
 have hz4 := hD.2.size
 have hg4 := HRD.out.lt
 replace HB := Lib.hid (HB.out.trans (hD.2.below (by omega) (by omega)))
 replace KR := Lib.hid (KR.out.only hD.2 n0)
 replace KQ := Lib.hid (KQ.out.only hD.2 n1)
 replace HRD := Lib.hid hD.1
 replace HDS := Lib.hid (HDS.out.only hD.2)
 have HLV := Lib.hid hol
 clear hol hD
 go_wp2_with fail
 refine (l91Bent_any g _ w3.heap.size l ws gs _ HRD.out (by omega) HLV.out hg4 hz4).mono ?_
 rintro e w5 ⟨l', ws', gs', q5, rfl, hol, hq5, hD⟩
 have hz5 := hD.2.size
 replace HB := Lib.hid (HB.out.trans (hD.2.below (by omega) (by omega)))
 replace KR := Lib.hid (KR.out.only hD.2 n0)
 replace KQ := Lib.hid (KQ.out.only hD.2 n1)
 replace HDS := Lib.hid (HDS.out.only hD.2)
 replace HLV := Lib.hid hol
 clear hol hD
 have cr := fun o => KR.out.cell o
 have fr := fun o => KR.out.frozen o
 have zr := KR.out.lt
 have cq := fun o => KQ.out.cell o
 have fq := fun o => KQ.out.frozen o
 have zq := KQ.out.lt
 go_wp2_with fail
 refine bodyPost_ret (v := .tuple #[svV t2 k2 g2, lvlV l' ws' gs']) (by simp [results, Tryz.results6, go_sem, cr, cq]) rfl ?_
 refine (fun hk hb => ⟨t2, k2, g2, S2, l', ws', gs', rfl, (HDS.out.step hk).rd, (HLV.out.keepB fun i h1 h2 => hk.block i h2 (by omega) (by omega) (by omega)).rd, hb⟩ : Kp g w.heap.size w5 _ → Below w.heap.size w _ → SvOutL w _ _) ?_ ?_
 ·exact (Kp.of_only2 (only_set3 _ _ _ _ _) g).trans (Kp.of_only3 (onlySets (.inl rfl) (lvlC l' ws' gs').toList 0 _ (Only.refl _ _)) g)
 ·exact below_setL (w := w) (Nat.le_succ _) (lvlC l' ws' gs').toList 0 _ (below_set3 HB.out (Nat.le_refl _))
end Go.Proofs.YtemnlheidghbmaaGreat
namespace Go.Proofs.YtemnlheidghbmaaGreat
open Go.RowKit Go.Sort
theorem validS_mk {S : Svc} (h1 : S.keys.length = 10) (h2 : S.ts.length ≤ 4) (h3 : S.tags.length ≤ 12) (h4 : S.keys.all keyOk = true) (h5 : ∀ k, k < S.ts.length → trkOk S k = true) (h6 : S.tags.all hashOk = true) : validS S = true := by
 unfold validS
 simp only [Bool.and_eq_true, decide_eq_true_eq, List.all_eq_true]
 exact ⟨⟨⟨⟨⟨h1, h2⟩, h3⟩, List.all_eq_true.1 h4⟩, fun k hk => h5 k (List.mem_range.1 hk)⟩, List.all_eq_true.1 h6⟩
end Go.Proofs.YtemnlheidghbmaaGreat
namespace Go.Proofs.YtemnlheidghbmaaGreat
open Go.RowKit Go.Sort
def ltT (a b : Trk) : Prop := a.l.id < b.l.id
theorem pair_ids {S : Svc} (h : validS S = true) : S.ts.Pairwise ltT := by
 rw [List.pairwise_iff_getElem]
 intro i j hi hj hij
 exact valid_lt h j i _ _ hij (List.getElem?_eq_getElem hi) (List.getElem?_eq_getElem hj)
theorem valid_pair {S : Svc} (hp : S.ts.Pairwise ltT) (ha : ∀ t ∈ S.ts, levelOk t.l = true ∧ validE t.b = true ∧ t.b.all (keyed S.keys) = true) : ∀ k, k < S.ts.length → trkOk S k = true := by
 intro k hk
 have ht := List.getElem?_eq_getElem hk
 obtain ⟨a1, a2, a3⟩ := ha _ (List.getElem_mem hk)
 rw [trkOk_some ht]
 simp only [Bool.and_eq_true]
 refine ⟨⟨⟨a1, a2⟩, ?_⟩, a3⟩
 by_cases h0 : 0 < k
 ·have h1 : prevId S.ts k = (S.ts[k - 1]'(by omega)).l.id := by simp [prevId, List.getElem?_eq_getElem (show k - 1 < S.ts.length by omega)]
  have h2 : ltT (S.ts[k - 1]'(by omega)) S.ts[k] := (List.pairwise_iff_getElem.1 hp) (k - 1) k (by omega) hk (by omega)
  have h3 : (S.ts[k - 1]'(by omega)).l.id < (S.ts[k]).l.id := h2
  simp [h0, h1]
  exact h3
 ·simp [h0]
theorem insert_pair {ts : List Trk} {l : Lvl} (hp : ts.Pairwise ltT) (hn : ∀ t ∈ ts, t.l.id ≠ l.id) : (ts.take (placeOf ts l.id) ++ ⟨l, []⟩ :: ts.drop (placeOf ts l.id)).Pairwise ltT := by
 have hsplit : ts.take (placeOf ts l.id) = ts.takeWhile (fun t => decide (t.l.id < l.id)) ∧ ts.drop (placeOf ts l.id) = ts.dropWhile (fun t => decide (t.l.id < l.id)) := by
  unfold placeOf
  have e := List.takeWhile_append_dropWhile (p := fun t : Trk => decide (t.l.id < l.id)) (l := ts)
  constructor
  ·conv => lhs; arg 2; rw [← e]
   exact List.take_left' rfl
  ·conv => lhs; arg 2; rw [← e]
   exact List.drop_left' rfl
 rw [hsplit.1, hsplit.2]
 have hw : ts = ts.takeWhile (fun t => decide (t.l.id < l.id)) ++ ts.dropWhile (fun t => decide (t.l.id < l.id)) := (List.takeWhile_append_dropWhile).symm
 have hA : ∀ t ∈ ts.takeWhile (fun t => decide (t.l.id < l.id)), t.l.id < l.id := fun t ht => by
  have := List.all_takeWhile (p := fun t : Trk => decide (t.l.id < l.id)) (l := ts)
  have := List.all_eq_true.1 this t ht
  simpa using this
 rw [hw] at hp
 obtain ⟨p1, p2, p3⟩ := List.pairwise_append.1 hp
 have hB : ∀ t ∈ ts.dropWhile (fun t => decide (t.l.id < l.id)), l.id < t.l.id := by
  intro t ht
  cases hd : ts.dropWhile (fun t => decide (t.l.id < l.id)) with
  | nil => rw [hd] at ht; cases ht
  | cons b r =>
   have hb : ¬ b.l.id < l.id := by
    have := List.head_dropWhile_not (fun t : Trk => decide (t.l.id < l.id)) (l := ts) (by rw [hd]; simp)
    simp only [hd, List.head_cons] at this
    simpa using this
   have hbm : b ∈ ts := by rw [hw, hd]; simp
   have hbn := hn b hbm
   rw [hd] at ht p2
   rcases List.mem_cons.1 ht with rfl | ht
   ·omega
   ·have : b.l.id < t.l.id := (List.pairwise_cons.1 p2).1 t ht
    omega
 rw [List.pairwise_append]
 refine ⟨p1, List.pairwise_cons.2 ⟨fun t ht => hB t ht, p2⟩, fun a ha b hb => ?_⟩
 rcases List.mem_cons.1 hb with rfl | hb
 ·exact hA a ha
 ·exact p3 a ha b hb
theorem level_valid {S : Svc} {l : Lvl} (h : validS S = true) (h2 : levelOk l = true) (hf : S.ts.findIdx? (hasId l.id) = none) (h4 : S.ts.length < 4) : validS ⟨S.ts.take (placeOf S.ts l.id) ++ ⟨l, []⟩ :: S.ts.drop (placeOf S.ts l.id), S.keys, S.tags⟩ = true := by
 obtain ⟨k1, k2, k3, k4, k5, k6⟩ := validS_of h
 refine validS_mk k1 ?_ k3 k4 (valid_pair (insert_pair (pair_ids h) fun t ht => ?_) fun t ht => ?_) k6
 ·simp only [List.length_append, List.length_cons, List.length_take, List.length_drop]
  omega
 ·obtain ⟨i, hi, rfl⟩ := List.getElem_of_mem ht
  exact findIdx_no hf (List.getElem?_eq_getElem hi)
 ·have old : ∀ t ∈ S.ts, levelOk t.l = true ∧ validE t.b = true ∧ t.b.all (keyed S.keys) = true := fun t ht => by
   obtain ⟨i, hi, rfl⟩ := List.getElem_of_mem ht
   obtain ⟨a1, a2, _, a4⟩ := valid_trk h (List.getElem?_eq_getElem hi)
   exact ⟨a1, a2, a4⟩
  rcases List.mem_append.1 ht with ht | ht
  ·exact old t (List.mem_of_mem_take ht)
  ·rcases List.mem_cons.1 ht with rfl | ht
   ·exact ⟨h2, rfl, by simp⟩
   ·exact old t (List.mem_of_mem_drop ht)
theorem level_done {S S2 : Svc} {l : Lvl} (h : levelS S l = (S2, true)) : validS S = true ∧ validS S2 = true ∧ levelOk l = true ∧ S2.ts.length = S.ts.length + 1 ∧ (∀ t ∈ S.ts, t ∈ S2.ts) ∧ (⟨l, []⟩ : Trk) ∈ S2.ts := by
 unfold levelS at h
 split at h
 ·rename_i hv
  simp only [Bool.and_eq_true] at hv
  split at h
  ·cases h
  ·rename_i hn
   simp only [Bool.or_eq_true, decide_eq_true_eq, not_or] at hn
   injection h with h _
   have hf : S.ts.findIdx? (hasId l.id) = none := by
    cases hx : S.ts.findIdx? (hasId l.id) with
    | none => rfl
    | some i => rw [hx] at hn; simp at hn
   subst h
   refine ⟨hv.1, level_valid hv.1 hv.2 hf (by omega), hv.2, ?_, fun t ht => ?_, by simp⟩
   ·have : placeOf S.ts l.id ≤ S.ts.length := by unfold placeOf; exact (List.takeWhile_prefix _).length_le
    simp only [List.length_append, List.length_cons, List.length_take, List.length_drop]
    omega
   ·rw [← List.take_append_drop (placeOf S.ts l.id) S.ts] at ht
    rcases List.mem_append.1 ht with ht | ht
    ·exact List.mem_append_left _ ht
    ·exact List.mem_append_right _ (List.mem_cons_of_mem _ ht)
 ·cases h
theorem mem_find {S : Svc} (h : validS S = true) {t : Trk} (ht : t ∈ S.ts) : ∃ i, S.ts.findIdx? (hasId t.l.id) = some i ∧ S.ts[i]? = some t := by
 obtain ⟨i, hi, rfl⟩ := List.getElem_of_mem ht
 exact ⟨i, findIdx_at h (List.getElem?_eq_getElem hi) rfl, List.getElem?_eq_getElem hi⟩
theorem level_twice {S S2 : Svc} {l : Lvl} (h : levelS S l = (S2, true)) : levelS S2 l = (S2, false) := by
 obtain ⟨_, h2, h3, _, _, h6⟩ := level_done h
 obtain ⟨i, hi, _⟩ := mem_find h2 h6
 exact levelS_known h2 h3 hi
theorem level_top {S S2 : Svc} {l : Lvl} (h : levelS S l = (S2, true)) : topS S2 l.id = ([], true) ∧ ∀ t ∈ S.ts, topS S2 t.l.id = (t.b, true) := by
 obtain ⟨_, h2, _, _, h5, h6⟩ := level_done h
 refine ⟨?_, fun t ht => ?_⟩
 ·obtain ⟨i, hi, hs⟩ := mem_find h2 h6
  exact topS_at h2 hi hs
 ·obtain ⟨i, hi, hs⟩ := mem_find h2 (h5 t ht)
  exact topS_at h2 hi hs
end Go.Proofs.YtemnlheidghbmaaGreat
namespace Go.Proofs.YtemnlheidghbmaaGreat
open Go.RowKit Go.Sort
theorem fieldsOf_of {P : Program} {t : TypeId} {fs : Array Field} (h : P.underlying t = some (.struct fs)) : P.fieldsOf t = fs := by unfold Program.fieldsOf; rw [h]
theorem eqE_run (e e' : Ent) (w : World) : (Op.equalIn 10000 68 (.agg #[.int .i64 e.1, .int .i64 e.2]) (.agg #[.int .i64 e'.1, .int .i64 e'.2])).run Tryz.prog w = .ok (decide (e = e')) w := by
 obtain ⟨a, b⟩ := e
 obtain ⟨a', b'⟩ := e'
 have hf := fieldsOf_of Tryz.underlying68
 rw [show (10000 : Nat) = 9999 + 1 from rfl, run_equalIn_struct w 9999 68 _ _ (by rw [hf]; exact Tryz.underlying68) (by kernel_rfl), hf]
 by_cases h1 : a = a' <;> by_cases h2 : b = b' <;> simp [Op.eqFields, go_sem, h1, h2]
set_option maxHeartbeats 1000000 in
theorem sameBoard_any (A A' : Option Addr) (n n' c c' : Nat) (es fs : List Ent) (w : World) (hr : RdE w A n es) (hr' : RdE w A' n' fs) (hn : n ≤ 1099511627776) (hn' : n' ≤ 1099511627776) :
  Calls Tryz.prog 11 #[.slice A n c, .slice A' n' c'] w fun e w' => e = .returned (.bool (decide (es = fs))) ∧ Below w.heap.size w w' := by
 have HR := Lib.hid hr; clear hr
 have HR' := Lib.hid hr'; clear hr'
 by_cases hnn : n = n'
 ·subst hnn
  go_enter Tryz.func11, Tryz.ntmps11
  go_wp2
  go_loopw [5] (fun i wr => ∃ k : Nat, k ≤ n ∧ i = .int .i64 k ∧ Hid (Below w.heap.size w wr ∧ es.take k = fs.take k)) (fun i _ => n - (intOf i).toNat)
  case atStart => exact ⟨0, Nat.zero_le _, rfl, Below.refl _ _, rfl⟩
  case round =>
   obtain ⟨k, hk, rfl, HB⟩ := hrel
   by_cases hlt : k < n
   ·obtain ⟨b, off, e, rfl, hb, he, h0, h1⟩ := (HR.out.below HB.out.1).at_ hlt
    obtain ⟨b', off', e', rfl, hb', he', h0', h1'⟩ := (HR'.out.below HB.out.1).at_ hlt
    have HE := Lib.hid he
    have HE' := Lib.hid he'
    clear he he'
    have hG := fun (x y : Operand) (W : World) => run_eqGuard_agg (P := Tryz.prog) W .neq 68 x y #[.int .i64 e.1, .int .i64 e.2] #[.int .i64 e'.1, .int .i64 e'.2] (by kernel_rfl)
    have hN := fun (W : World) => run_neq_struct (P := Tryz.prog) W 68 #[.int .i64 e.1, .int .i64 e.2] #[.int .i64 e'.1, .int .i64 e'.2]
    simp only [eqE_run, Result.andThen_ok] at hN
    cases hd : decide (e = e') with
    | true =>
     rw [hd] at hN
     have hee : e = e' := of_decide_eq_true hd
     clear hd
     go_wp2
     go_quiet (fail)
     go_wp2
     exact ⟨⟨k + 1, by omega, by go_num, ⟨HB.out.1.os, HB.out.1.tape, HB.out.1.output, HB.out.1.size, HB.out.1.block⟩, take_next HB.out.2 HE.out (by rw [hee]; exact HE'.out)⟩, by simp [intOf]; omega⟩
    | false =>
     rw [hd] at hN
     have hee := Lib.hid (of_decide_eq_false hd)
     clear hd
     go_wp2
     go_quiet (fail)
     go_wp2
     go_ret
     refine ⟨ret_bool (by symm; rw [decide_eq_false_iff_not]; rintro rfl; exact hee.out (by have := HE.out.symm.trans HE'.out; simpa using this)), ⟨HB.out.1.os, HB.out.1.tape, HB.out.1.output, HB.out.1.size, HB.out.1.block⟩⟩
   ·go_wp2
    go_ret
    have hkn : k = n := by omega
    exact ⟨ret_bool (by symm; rw [decide_eq_true_iff]; exact take_all HB.out.2 (by rw [HR.out.len]; omega) (by rw [HR'.out.len]; omega)), HB.out.1⟩
 ·have hne : ((n : Int) != n') = true := by simp; omega
  go_enter Tryz.func11, Tryz.ntmps11
  go_wp2
  go_ret
  exact ⟨ret_bool (by symm; rw [decide_eq_false_iff_not]; rintro rfl; exact hnn (HR.out.len.symm.trans HR'.out.len)), Below.refl _ _⟩
end Go.Proofs.YtemnlheidghbmaaGreat

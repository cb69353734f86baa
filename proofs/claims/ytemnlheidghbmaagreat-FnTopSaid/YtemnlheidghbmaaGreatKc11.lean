/-
  Lemmas and contracts: Lw In Ins. No condition.
-/
import Derived.RangeFuncNested
import Derived.RangeFuncBound
import Derived.RangeFuncCalls
import Derived.RangeFuncLeaves
import Derived.Shelf.Abstract
import Derived.Shelf.RegionOpen
import Derived.OwnWalkIn
import Derived.TacticsInMore
import Derived.LoopNIn
import Derived.LoopIn
import Derived.Laws.CopyRow
import Derived.Lib.AppendZerosOnto
import Derived.Lib.Overlaps
import Derived.Laws.Externs
import Derived.StillTailTactics
import Derived.Test.YtemnlheidghbmaaGreatKc2
import Derived.Test.YtemnlheidghbmaaGreatKc3
import Derived.Test.YtemnlheidghbmaaGreatKc10
namespace Go.Proofs.YtemnlheidghbmaaGreat
open Go.RowKit Go.Sort Go.Shelf
attribute [local go_sem] Oper.semAt_some
structure KX (f m : Nat) (a b : World) : Prop where
 os : b.os = a.os
 tape : b.tape = a.tape
 output : b.output = a.output
 size : a.heap.size ≤ b.heap.size
 block : ∀ i, i < m → i ≠ f → b.heap[i]? = a.heap[i]?
section
variable {f m : Nat} {a b c : World}
theorem KX.refl (f m : Nat) (w : World) : KX f m w w := ⟨rfl, rfl, rfl, Nat.le_refl _, fun _ _ _ => rfl⟩
theorem KX.trans (h : KX f m a b) (k : KX f m b c) : KX f m a c := ⟨k.os.trans h.os, k.tape.trans h.tape, k.output.trans h.output, Nat.le_trans h.size k.size, fun i h1 h2 => (k.block i h1 h2).trans (h.block i h1 h2)⟩
theorem KX.of_below (h : Below m a b) (f : Nat) : KX f m a b := ⟨h.os, h.tape, h.output, h.size, fun i h1 _ => h.block i h1⟩
theorem KX.grown {row : Nat} (h : a.grownBy b (some row)) (hm : m ≤ a.heap.size) (hr : row = f ∨ m ≤ row) : KX f m a b := ⟨h.os, h.tape, h.output, h.size, fun i h1 h2 => h.block i (by omega) (by intro e; injection e with e; omega)⟩
theorem KX.putObj {w : World} (hm : m ≤ w.heap.size) (W : World) (l : Nat) (o o' : Obj) (hl : w.heap.size ≤ l) (h : W.heap[l]? = some o) (_ : o.isCells = false) (_ : o.isWalk = false) : KX f m W (W.putObj l o') :=
 KX.grown (grownBy_putObj' W l o') (by have := (Array.getElem?_eq_some_iff.1 h).1; omega) (.inr (by omega))
theorem KX.set_ {W : World} (m : Nat) (u : Value) : KX f m W (W.setCell ⟨f, 0, none⟩ u) :=
 ⟨rfl, rfl, rfl, by simp, fun i _ h2 => Below.heap_setCell W ⟨f, 0, none⟩ u i h2⟩
theorem Blk.kx {g T : Nat} {cs : Array Value} (hb : Blk a g T cs) (h : KX f m a b) (hg : g < m) (hf : g ≠ f) : Blk b g T cs := (h.block g hg hf).trans hb
theorem Blk.grownBy {g T : Nat} {cs : Array Value} (hb : Blk a g T cs) {row : Option Nat} (h : a.grownBy b row) (hr : ∀ r, row = some r → ∃ o : Obj, a.heap[r]? = some o ∧ o.isCells = false) : Blk b g T cs := by
 refine (h.block g hb.lt ?_).trans hb
 intro e
 obtain ⟨o, ho, hc⟩ := hr g e.symm
 have hb' := hb
 unfold Blk at hb'
 rw [hb'] at ho
 injection ho with ho
 subst ho
 cases hc
end
def Lnk (w : World) : Option Addr → List Bx → Prop
 | p, [] => p = none
 | p, b :: r => ∃ g q, p = some ⟨g, 0, none⟩ ∧ Blk w g 128 #[.int .i64 b.1, .int .i64 b.2.1, .int .i64 b.2.2.1, .int .i64 b.2.2.2, .pointer q] ∧ Lnk w q r
theorem Lnk.keep {w w' : World} (hk : ∀ g cs, Blk w g 128 cs → Blk w' g 128 cs) : ∀ {p : Option Addr} {bs : List Bx}, Lnk w p bs → Lnk w' p bs
 | _, [], h => h
 | _, _ :: _, ⟨g, q, hp, hb, hr⟩ => ⟨g, q, hp, hk g _ hb, Lnk.keep hk hr⟩
def upto {α : Type} (f : Nat → α) (k : Nat) : List α := (List.range k).map f
theorem upto_succ {α : Type} (f : Nat → α) (k : Nat) : upto f (k + 1) = upto f k ++ [f k] := by simp [upto, List.range_succ]
theorem upto_length {α : Type} (f : Nat → α) (k : Nat) : (upto f k).length = k := by simp [upto]
def backE (bs : List Bx) (k : Nat) : Nat × Bx := (bs.length - 1 - k, bs[bs.length - 1 - k]?.getD (0, 0, 0, 0))
theorem back_all (bs : List Bx) : ((upto (backE bs) bs.length).map (·.2)).reverse = bs := by
 apply List.ext_getElem
 ·simp [upto]
 ·intro i h1 h2
  simp [upto, backE]
  have h3 : bs.length - 1 - (bs.length - 1 - i) = i := by omega
  simp [h3, h2]
abbrev encsB (x : Nat × Bx) : Array Value := #[.int .i64 (x.1 : Int), .agg #[.int .i64 x.2.1, .int .i64 x.2.2.1, .int .i64 x.2.2.2.1, .int .i64 x.2.2.2.2]]
set_option maxRecDepth 100000 in
set_option maxHeartbeats 4000000 in
theorem back1_in (F : Fence) (n : Nat) (h7 : F.fn 130) (hro : F.round = none) (hn : 1 ≤ n) (l f Bs m : Nat) (A : Option Addr) (len cap : Nat) (bs : List Bx) (hlen : len ≤ 1048576) (hBm : Bs < m) (hBf : Bs ≠ f) (hA : 0 < len → ∀ b, A.map (·.block) = some b → b < m ∧ b ≠ f) (J Jx : List (Nat × Bx) → World → Prop)
  (hY : ∀ pre x W, J pre W → pre.length < len → YieldAt F (n - 1) Tryz.prog l (encsB x) W fun e W' =>
   (e = .returned (.bool true) ∧ J (pre ++ [x]) W' ∧ KX f m W W') ∨ (e = .returned (.bool false) ∧ Jx (pre ++ [x]) W'))
  (W : World) (hBs : Blk W Bs 29 #[.slice A len cap]) (hr : RdB W A len bs) (h0 : J [] W) :
  CallsIn F n Tryz.prog 130 #[.func (.yield l) #[] #[], .pointer (some ⟨Bs, 0, none⟩)] W fun e W' => (∃ v, e = .returned v) ∧
   ((∃ ys, ys = upto (backE bs) len ∧ J ys W') ∨ (∃ pre, (∃ k, k ≤ len ∧ pre = upto (backE bs) k) ∧ Jx pre W')) := by
 have HR := Lib.hid hr
 have HL := Lib.hid hr.len
 have HA := Lib.hid hA
 have HBs := Lib.hid hBs
 have c0 : W.cell? ⟨Bs, 0, none⟩ = some (.slice A len cap) := hBs.cell 0
 clear hr hA hBs
 refine callsIn_of_wp Tryz.func130 rfl h7 ?_ hro
 simp only [Tryz.ntmps130, List.size_toArray, List.length_cons, List.length_nil, Nat.reduceAdd, Nat.reduceSub, Array.replicate_succ, Array.replicate_zero, List.push_toArray, List.append_toArray, List.nil_append, List.cons_append]
 gi_wp2
 gi_loopw [3] (fun i wr => ∃ q : Nat, q ≤ len ∧ i = .int .i64 ((q : Int) - 1) ∧ Hid (J (upto (backE bs) (len - q)) wr ∧ KX f m W wr)) (fun i _ => (intOf i + 1).toNat)
 case atStart => exact ⟨len, Nat.le_refl _, rfl, by rw [Nat.sub_self]; exact h0, KX.refl _ _ _⟩
 case round =>
  obtain ⟨q, hq, rfl, HJ⟩ := hrel
  have d0 : wr.cell? ⟨Bs, 0, none⟩ = some (.slice A len cap) := (HBs.out.kx HJ.out.2 hBm hBf).cell 0
  cases q with
  | zero =>
   rw [show ((0 : Nat) : Int) - 1 = -1 from rfl]
   gi_wp2
   go_end0
   exact ⟨⟨_, rfl⟩, .inl ⟨_, rfl, HJ.out.1⟩⟩
  | succ q =>
   rw [show ((q + 1 : Nat) : Int) - 1 = (q : Int) by omega]
   obtain ⟨b, off, x, hAe, hb, hx, e0, e1, e2, e3⟩ := RdB.cells HR.out (k := q) (by omega)
   obtain ⟨hbm, hbf⟩ := HA.out (by omega) b (by rw [hAe]; rfl)
   have hk := HJ.out.2.block b hbm hbf
   have g0 : wr.cell? ⟨b, off + q * 4, none⟩ = some (.int .i64 x.1) := (World.cell?_of_block (w := W) hk).trans e0
   have g1 : wr.cell? ⟨b, off + q * 4 + 1, none⟩ = some (.int .i64 x.2.1) := (World.cell?_of_block (w := W) hk).trans e1
   have g2 : wr.cell? ⟨b, off + q * 4 + 2, none⟩ = some (.int .i64 x.2.2.1) := (World.cell?_of_block (w := W) hk).trans e2
   have g3 : wr.cell? ⟨b, off + q * 4 + 3, none⟩ = some (.int .i64 x.2.2.2) := (World.cell?_of_block (w := W) hk).trans e3
   have hbe : backE bs (len - (q + 1)) = (q, x) := by
    have hl := HL.out
    unfold backE
    rw [hl, show len - 1 - (len - (q + 1)) = q by omega, hx]; rfl
   have hup : upto (backE bs) (len - q) = upto (backE bs) (len - (q + 1)) ++ [(q, x)] := by
    rw [← hbe, ← upto_succ, show len - (q + 1) + 1 = len - q by omega]
   have HUP := Lib.hid hup
   obtain ⟨fn, tmps, assign, body, hy, hR⟩ := hY _ (q, x) wr HJ.out.1 (by rw [upto_length]; omega)
   dsimp only [encsB] at hy
   have HHR := Lib.hid hR
   subst hAe
   clear e0 e1 e2 e3 hk hx hup hbe hR
   gi_wp2
   refine HHR.out.mono ?_
   rintro e W3 (⟨rfl, hJ3, hk3⟩ | ⟨rfl, hJx3⟩)
   ·have HK := Lib.hid (HJ.out.2.trans hk3)
    have HJ3 := Lib.hid hJ3
    clear hk3 hJ3
    gi_wp2
    go_roundw
    case rel => exact ⟨q, by omega, rfl, by rw [HUP.out]; exact HJ3.out, HK.out⟩
    case measure => simp [intOf]
   ·have HX := Lib.hid hJx3
    clear hJx3
    gi_wp2
    refine bodyPost_ret (results_none rfl _ _ _) rfl ?_
    exact ⟨⟨_, rfl⟩, .inr ⟨_, ⟨len - q, by omega, HUP.out.symm⟩, HX.out⟩⟩
theorem back_in (F : Fence) (n : Nat) (h6 : F.fn 115) (hro : F.round = none) (A : Option Addr) (len cap : Nat) (w : World) :
  CallsIn F n Tryz.prog 115 #[.slice A len cap] w fun e w' => e = .returned (.func (.func 130) #[] #[.pointer (some ⟨w.heap.size, 0, none⟩)]) ∧ w' = w.alloc (.cells #[.slice A len cap] 29) := by
 refine callsIn_of_wp Tryz.func115 rfl h6 ?_ hro
 simp only [Tryz.ntmps115, List.size_toArray, List.length_cons, List.length_nil, Nat.reduceAdd, Nat.reduceSub, Array.replicate_succ, Array.replicate_zero, List.push_toArray, List.append_toArray, List.nil_append, List.cons_append]
 gi_wp2
 go_ret
 exact ⟨rfl, rfl⟩
theorem back_stops (F : Fence) (n : Nat) (h7 : F.fn 130) (hro : F.round = none) (hn : 1 ≤ n) (f Bs : Nat) (A : Option Addr) (len cap : Nat) (bs : List Bx) (hlen : len ≤ 1048576) (w : World) (hBf : Bs ≠ f) (hA : 0 < len → ∀ b, A.map (·.block) = some b → b ≠ f)
  (hBs : Blk w Bs 29 #[.slice A len cap]) (hr : RdB w A len bs) :
  SeqStopsK F n Tryz.prog 130 #[.pointer (some ⟨Bs, 0, none⟩)] encsB (KX f w.heap.size) (fun ys => ys = upto (backE bs) len) (fun pre => ∃ k, k ≤ len ∧ pre = upto (backE bs) k) len w := fun l J Jx W hW _ _ hY h0 => by
 refine back1_in F n h7 hro hn l f Bs w.heap.size A len cap bs hlen hBs.lt hBf (fun h b hb => ?_) J Jx hY W (hBs.next hW) (hr.below hW) h0
 refine ⟨?_, hA h b hb⟩
 obtain ⟨b', off, hAe, hlt, _⟩ := hr.2 h
 rw [hAe] at hb
 simp at hb
 omega
set_option maxRecDepth 100000 in
set_option maxHeartbeats 4000000 in
theorem linked_in (F : Fence) (n : Nat) (h3 : F.fn 94) (h5 : F.fn 115) (h7 : F.fn 130) (hro : F.round = none) (hn : 3 ≤ n) (A : Option Addr) (len cap : Nat) (bs : List Bx) (hlen : len ≤ 1048576) (w : World) (hr : RdB w A len bs) :
  CallsIn F n Tryz.prog 94 #[.slice A len cap] w fun e W' => ∃ p, e = .returned (.pointer p) ∧ Lnk W' p bs ∧ Below w.heap.size w W' := by
 have h1 : 1 ≤ n := by omega
 have HR := Lib.hid hr
 have HL := Lib.hid hr.len
 clear hr
 refine callsIn_of_wp_marks Tryz.func94 rfl h3 ?_ hro
 simp only [Tryz.ntmps94, List.size_toArray, List.length_cons, List.length_nil, Nat.reduceAdd, Nat.reduceSub, Array.replicate_succ, Array.replicate_zero, List.push_toArray, List.append_toArray, List.nil_append, List.cons_append]
 gi_wp2_with (gi_at_call 115; refine (back_in F (n - 1) h5 hro _ _ _ _).mono ?_; rintro e w' ⟨rfl, rfl⟩)
 obtain ⟨W0, hW0⟩ : ∃ W0, (w.alloc (.cells #[.pointer none] 125)).alloc (.cells #[.slice A len cap] 29) = W0 := ⟨_, rfl⟩
 have hsz : W0.heap.size = w.heap.size + 2 := by rw [← hW0]; simp
 have b0 : Blk W0 w.heap.size 125 #[.pointer none] := by rw [← hW0]; exact (Blk.new _ _ _).alloc _
 have b1 : Blk W0 (w.heap.size + 1) 29 #[.slice A len cap] := by rw [← hW0]; exact Blk.newAt _ _ _ _ (by simp)
 have hB0 : Below w.heap.size w W0 := by rw [← hW0]; go_grown
 rw [hW0]
 clear hW0
 refine wpIn_rangeFunc_ownH hro h1 (gf := 130) (lb := #[.pointer (some ⟨w.heap.size + 1, 0, none⟩)]) rfl h7 (enters_of Tryz.func130 (by kernel_rfl) rfl)
  (back_stops F (n - 1) h7 hro (by omega) w.heap.size (w.heap.size + 1) A len cap bs hlen W0 (by omega) (fun h b hb => by
   obtain ⟨b', off, hAe, hlt, _⟩ := HR.out.2 h
   rw [hAe] at hb
   simp at hb
   omega) b1 (HR.out.below hB0)) KX.trans (KX.putObj (Nat.le_refl _)) (Below.refl _ _) (fun _ => rfl)
  (fun pre W => (∃ p, Blk W w.heap.size 125 #[.pointer p] ∧ Lnk W p ((pre.map (·.2)).reverse)) ∧ Below w.heap.size w W ∧ W0.heap.size ≤ W.heap.size)
  (fun _ _ _ => False)
  (fun pre X Y row hs hg hr => by
   obtain ⟨⟨p, hb, hl⟩, hB, hS⟩ := hs
   exact ⟨⟨p, hb.grownBy hg fun r e => (hr r e).2, Lnk.keep (fun g cs h => h.grownBy hg fun r e => (hr r e).2) hl⟩, hB.grown hg hB.size (fun k e => by have := (hr k e).1; omega), Nat.le_trans hS hg.size⟩)
  (fun _ _ _ _ _ hs _ _ => hs)
  ⟨⟨none, b0, rfl⟩, hB0, Nat.le_refl _⟩
  (fun x a' W => ∃ Bx, w.heap.size < Bx ∧ Blk W Bx 31 #[.int .i64 x.2.1, .int .i64 x.2.2.1, .int .i64 x.2.2.2.1, .int .i64 x.2.2.2.2] ∧ a' = { tmps := #[.slice A len cap, undef, .pointer none, .pointer (some ⟨w.heap.size, 0, none⟩), undef, .pointer (some ⟨Bx, 0, none⟩), .slice A len cap, .func (.func 130) #[] #[.pointer (some ⟨w.heap.size + 1, 0, none⟩)], .int .i64 (x.1 : Int), .agg #[.int .i64 x.2.1, .int .i64 x.2.2.1, .int .i64 x.2.2.2.1, .int .i64 x.2.2.2.2], undef, undef, undef, undef, undef], defers := [] })
  (fun x a' _ X Y row hs hg hr => by obtain ⟨Bx, h1, h2, h3⟩ := hs; exact ⟨Bx, h1, h2.grownBy hg fun r e => (hr r e).2, h3⟩)
  ?assign ?body ?done ?stop
 case assign =>
  rintro l pre x W K ⟨⟨p, hb, hl⟩, hB, hS⟩ hK
  gi_wp2
  exact hK _ _ ((KeepsOthers.alloc _ _).from _) (KX.of_below ((Below.refl _ W).alloc hS _) _) ⟨⟨p, hb.alloc _, Lnk.keep (fun g cs h => h.alloc _) hl⟩, hB.alloc hB.size _, by simp; omega⟩ ⟨W.heap.size, hb.lt, Blk.new _ _ _, rfl⟩
 case body =>
  rintro l pre x a' W hlW ⟨r, hr⟩ ⟨⟨p, hb, hl⟩, hB, hS⟩ ⟨Bx, hBx, bX, rfl⟩ hlt
  have c0 : W.cell? ⟨w.heap.size, 0, none⟩ = some (.pointer p) := hb.cell 0
  have f0 := hb.frozen 0
  have e0 : W.cell? ⟨Bx, 0, none⟩ = some (.int .i64 x.2.1) := bX.cell 0
  have e1 : W.cell? ⟨Bx, 1, none⟩ = some (.int .i64 x.2.2.1) := bX.cell 1
  have e2 : W.cell? ⟨Bx, 2, none⟩ = some (.int .i64 x.2.2.2.1) := bX.cell 2
  have e3 : W.cell? ⟨Bx, 3, none⟩ = some (.int .i64 x.2.2.2.2) := bX.cell 3
  have hlt0 := hb.lt
  have HBb := Lib.hid hb
  have HLl := Lib.hid hl
  clear hb hl bX
  gi_wp2
  refine ⟨((KeepsOthers.setCell _ _ _).trans (KeepsOthers.alloc _ _)).from _, (KX.set_ _ _).trans (KX.of_below ((Below.refl _ _).alloc (by simp; omega) _) _), ⟨some ⟨W.heap.size, 0, none⟩, (HBb.out.set_ 0 _).alloc _, ?_⟩, (hB.setCell (Nat.le_refl _) _).alloc (by simp; omega) _, by simp; omega⟩
  rw [show ((pre ++ [x]).map (·.2)).reverse = x.2 :: ((pre.map (·.2)).reverse) by simp]
  exact ⟨W.heap.size, p, rfl, Blk.newAt _ _ _ _ (by simp), Lnk.keep (fun g cs h => (h.far (p := ⟨w.heap.size, 0, none⟩) (Blk.ne_ h HBb.out (by decide)) _).alloc _) HLl.out⟩
 case done =>
  rintro D ys W hD rfl ⟨⟨p, hb, hl⟩, hB, hS⟩ hK
  have c0 : W.cell? ⟨w.heap.size, 0, none⟩ = some (.pointer p) := hb.cell 0
  have hbk : Lnk W p bs := by have h := back_all bs; rw [HL.out] at h; rw [h] at hl; exact hl
  have HBK := Lib.hid hbk
  clear hb hl hbk
  gi_wp2
  refine ⟨by simp, .inl ⟨_, _, rfl, run_takeDeferred hK, ?_⟩⟩
  exact ⟨_, results_tmp rfl _ _ _, p, rfl, Lnk.keep (fun g cs h => h.grownBy (grownBy_putObj' _ D (.deferred none)) (fun r e => by cases e; exact ⟨_, hK, rfl⟩)) HBK.out, hB.trans (belowK_b (w := w) (Nat.le_refl _) W D _ _ (by omega) hK rfl rfl)⟩
 case stop =>
  rintro D c pre W _ _ h _
  exact h.elim
theorem linked_any (A : Option Addr) (len cap : Nat) (bs : List Bx) (hlen : len ≤ 1048576) (w : World) (hr : RdB w A len bs) :
  Calls Tryz.prog 94 #[.slice A len cap] w fun e W' => ∃ p, e = .returned (.pointer p) ∧ Lnk W' p bs ∧ Below w.heap.size w W' :=
 callsIn_wide.1 (linked_in Fence.wide 3 trivial trivial trivial rfl (Nat.le_refl _) A len cap bs hlen w hr)
set_option maxHeartbeats 2000000 in
theorem free_any (l : Lvl) (ws gs : Sl) (x y : Int) (w : World) (hr : RdB w ws.a ws.n l.walls) (hn : ws.n ≤ 1048576) :
  Calls Tryz.prog 60 #[lvlV l ws gs, .agg #[.int .i64 x, .int .i64 y]] w fun e w' => e = .returned (.bool (l.walls.all fun b => !touchI b x y 500)) ∧ Below w.heap.size w w' := by
 have HR := Lib.hid hr; clear hr
 go_enter Tryz.func60, Tryz.ntmps60
 go_wp2_with fail
 refine (linked_any ws.a ws.n ws.c l.walls hn _ (HR.out.below (by go_grown))).mono ?_
 rintro e w1 ⟨p, rfl, hl, hb1⟩
 have HK1 := Lib.hid ((Blk.newAt _ _ _ (w.heap.size + 1) (by simp)).next hb1)
 have HB1 := Lib.hid (ba (ba hb1))
 have HL1 := Lib.hid hl
 clear hb1 hl
 go_wp2_with fail
 go_loopg [5] l.walls.length (fun gg i wr => ∃ (q : Option Addr) (k : Nat), k ≤ l.walls.length ∧ l.walls.length - k ≤ gg ∧ i = .pointer q ∧ Hid (Below w.heap.size w wr ∧ Blk wr (w.heap.size + 1) 28 #[.int .i64 x, .int .i64 y] ∧ Lnk wr q (l.walls.drop k) ∧ (l.walls.all fun b => !touchI b x y 500) = ((l.walls.drop k).all fun b => !touchI b x y 500)))
 case atStart => exact ⟨p, 0, Nat.zero_le _, by omega, rfl, HB1.out, HK1.out, HL1.out, rfl⟩
 case round =>
  obtain ⟨q, k, hk, hg, rfl, HB⟩ := hrel
  by_cases hlt : k < l.walls.length
  ·have hd := List.drop_eq_getElem_cons hlt
   have HD := Lib.hid hd
   have hl := HB.out.2.2.1
   rw [hd] at hl
   obtain ⟨g, q', rfl, hbk, hl'⟩ := hl
   have HBK := Lib.hid hbk
   have HLK := Lib.hid hl'
   generalize hz : l.walls[k] = z at *
   have HZ := Lib.hid hz
   have e0 : wr.cell? ⟨g, 0, none⟩ = some (.int .i64 z.1) := hbk.cell 0
   have e1 : wr.cell? ⟨g, 1, none⟩ = some (.int .i64 z.2.1) := hbk.cell 1
   have e2 : wr.cell? ⟨g, 2, none⟩ = some (.int .i64 z.2.2.1) := hbk.cell 2
   have e3 : wr.cell? ⟨g, 3, none⟩ = some (.int .i64 z.2.2.2) := hbk.cell 3
   have d0 : wr.cell? ⟨w.heap.size + 1, 0, none⟩ = some (.int .i64 x) := HB.out.2.1.cell 0
   have d1 : wr.cell? ⟨w.heap.size + 1, 1, none⟩ = some (.int .i64 y) := HB.out.2.1.cell 1
   have e0' := fun d os => cell_regrown e0 d os
   have e1' := fun d os => cell_regrown e1 d os
   have e2' := fun d os => cell_regrown e2 d os
   have e3' := fun d os => cell_regrown e3 d os
   have d0' := fun d os => cell_regrown d0 d os
   have d1' := fun d os => cell_regrown d1 d os
   clear hd hbk hl' hz e0 e1 e2 e3 d0 d1
   go_wp2_with fail
   refine wp_region_qb (by kernel_rfl) (by kernel_rfl) ?_
   repeat (go_big_quiet_step ((go_at_call 95; exact Calls.regrown_of (touches_any _ _ _ _ _))))
   refine wpQuiet_nil ?_
   intro w2 hb2
   have HB2 := Lib.hid hb2
   have c4 : w2.cell? ⟨g, 4, none⟩ = some (.pointer q') := (HBK.out.next hb2).cell 4
   clear hb2
   cases ht : touchI z x y 500
   ·have HT := Lib.hid ht
    clear ht
    go_wp2_with fail
    go_roundg (l.walls.length - (k + 1))
    case measure => omega
    case rel => exact ⟨q', k + 1, by omega, by omega, rfl, below_next HB.out.1 HB2.out, HB.out.2.1.next HB2.out, Lnk.keep (fun g cs h => h.next HB2.out) HLK.out, by rw [HB.out.2.2.2, HD.out, List.all_cons, HT.out]; rfl⟩
   ·have HT := Lib.hid ht
    clear ht
    go_wp2_with fail
    go_ret
    exact ⟨ret_bool (by rw [HB.out.2.2.2, HD.out, List.all_cons, HT.out]; rfl), below_next HB.out.1 HB2.out⟩
  ·have hd : l.walls.drop k = [] := List.drop_of_length_le (by omega)
   have hl := HB.out.2.2.1
   rw [hd] at hl
   have hq : q = none := hl
   subst hq
   have HD := Lib.hid hd
   clear hd hl
   go_wp2
   go_ret
   exact ⟨ret_bool (by rw [HB.out.2.2.2, HD.out]; rfl), HB.out.1⟩
end Go.Proofs.YtemnlheidghbmaaGreat
namespace Go.Proofs.YtemnlheidghbmaaGreat
open Go.RowKit Go.Sort
end Go.Proofs.YtemnlheidghbmaaGreat
namespace Go.Proofs.YtemnlheidghbmaaGreat
open Go.RowKit Go.Sort
theorem Src.drew {w : World} {size m : Nat} {A : Option Addr} {news : List Value} (h : Src w size A m news) : Src w.drew size A m news := h
def over (cs : List Value) (o : Nat) (vs : List Value) : List Value := cs.take o ++ vs ++ cs.drop (o + vs.length)
theorem over_length {cs : List Value} {o : Nat} {vs : List Value} (h : o + vs.length ≤ cs.length) : (over cs o vs).length = cs.length := by
 simp [over]; omega
section
variable {P : Program} (w : World)
theorem run_copy_blk (dT sT ty elem : TypeId) (sz g o dLen dCap : Nat) (A : Option Addr) (sLen sCap m : Nat) (cur : Array Value) (T : TypeId) (cs : List Value)
  (hu : P.underlying dT = some (.slice elem)) (hs : (P.info? elem).map (·.size) = some sz) (hg : Blk w g T cur) (hm : Nat.min sLen dLen = m) (hr : Src w sz A m cs) (hA : A = none → sLen = 0)
  (hfit : o + cs.length ≤ cur.size) (h1 : ∀ v ∈ cs, v.oneCell' = true) :
  (Builtin.copy_ #[dT, sT] ty #[.slice (some ⟨g, o, none⟩) dLen dCap, .slice A sLen sCap]).run P w = .ok (goInt m) (w.setRow g (over cur.toList o cs).toArray) := by
 cases hq : P.info? elem with
 | none => simp [hq] at hs
 | some i =>
  have hi : i.size = sz := by simpa [hq] using hs
  have hst := run_storeCells_at P g o T cs 0 cur w hg (by simpa using hfit) h1
  simp only [Nat.add_zero] at hst
  cases A with
  | none =>
   have h0 := hA rfl
   subst h0
   have hm0 : m = 0 := by rw [← hm]; exact Nat.zero_min _
   subst hm0
   obtain rfl : cs = [] := List.eq_nil_of_length_eq_zero (by simpa using hr.1)
   have hw : w.setRow g (over cur.toList o []).toArray = w := by
    have : (over cur.toList o []).toArray = cur := by simp [over]
    rw [this, setRow_self w g cur T (0, 0) hg]
   rw [hw]
   simp [Builtin.copy_, run_underlying hu, Builtin.lenOf, Builtin.firstCells, sizeOf, typeInfo, hq, storeCells]
  | some a =>
   have hcells : ∀ j v, cs[j]? = some v → w.cell? (a.add j) = some v := by
    intro j v hj
    rcases Nat.eq_zero_or_pos m with h0 | h0
    ·subst h0
     obtain rfl : cs = [] := List.eq_nil_of_length_eq_zero (by simpa using hr.1)
     simp at hj
    ·obtain ⟨ad, e, hc⟩ := hr.2 h0
     injection e with e
     subst e
     exact hc j v hj
   have hl := run_loadCells_list (P := P) w a cs hcells
   rw [hr.1] at hl
   simp [Builtin.copy_, run_underlying hu, Builtin.lenOf, Builtin.firstCells, sizeOf, typeInfo, hq, hi, hm, hl, hst, over]
theorem Blk.setRow_ {w : World} {g T : Nat} {cs : Array Value} (h : Blk w g T cs) (cs' : Array Value) : Blk (w.setRow g cs') g T cs' := setRow_heap w g cs cs' T (0, 0) h
theorem only_setRow (w : World) (g : Nat) (cs : Array Value) : w.grownBy (w.setRow g cs) (some g) := by
 refine ⟨rfl, rfl, rfl, by simp [World.setRow], fun i hi hne => ?_⟩
 unfold World.setRow
 simp only [Array.getElem?_modify]
 rw [if_neg (by rintro rfl; exact hne rfl)]
theorem copy_ex (dT elem : TypeId) (sz g o dLen : Nat) (A : Option Addr) (sLen m : Nat) (cur : Array Value) (T : TypeId) (cs : List Value)
  (hu : P.underlying dT = some (.slice elem)) (hs : (P.info? elem).map (·.size) = some sz) (hg : Blk w g T cur) (hm : Nat.min sLen dLen = m) (hr : Src w sz A m cs) (hA : A = none → sLen = 0)
  (hfit : o + cs.length ≤ cur.size) (h1 : ∀ v ∈ cs, v.oneCell' = true) :
  ∃ w', (∀ ty dCap sCap, (Builtin.copy_ #[dT, dT] ty #[.slice (some ⟨g, o, none⟩) dLen dCap, .slice A sLen sCap]).run P w = .ok (goInt m) w') ∧ Blk w' g T (over cur.toList o cs).toArray ∧ w.grownBy w' (some g) :=
 ⟨_, fun ty dCap sCap => run_copy_blk w dT dT ty elem sz g o dLen dCap A sLen sCap m cur T cs hu hs hg hm hr hA hfit h1, hg.setRow_ _, only_setRow _ _ _⟩
theorem wp_copy_blk {o : Oper} {a : Act} {K : Act → World → Prop} {Q : Exit → Act → World → Prop} (d s : Operand) (t : TypeId)
  (ho : o.op = .call { callee := .builtin .copy, args := #[d, s], argTypes := #[t, t] }) (elem : TypeId) (sz g off dLen dCap : Nat) (A : Option Addr) (sLen sCap m : Nat) (cur : Array Value) (T : TypeId) (cs : List Value)
  (hd : a.eval d = .slice (some ⟨g, off, none⟩) dLen dCap) (hs : a.eval s = .slice A sLen sCap)
  (hu : P.underlying t = some (.slice elem)) (hsz : (P.info? elem).map (·.size) = some sz) (hg : Blk w g T cur) (hm : Nat.min sLen dLen = m) (hr : Src w sz A m cs) (hA : A = none → sLen = 0)
  (hfit : off + cs.length ≤ cur.size) (h1 : ∀ v ∈ cs, v.oneCell' = true)
  (h : ∀ w', Blk w' g T (over cur.toList off cs).toArray → w.grownBy w' (some g) → K (a.put o.dst (goInt m)) w') : o.wp P a w K Q := by
 unfold Oper.wp execOp
 simp only [ho, resolve, invoke, builtin, Sem.run_bind, Sem.run_pure, Result.andThen_ok, List.map_toArray, List.map_cons, List.map_nil, hd, hs, run_copy_blk (P := P) w t t o.type elem sz g off dLen dCap A sLen sCap m cur T cs hu hsz hg hm hr hA hfit h1]
 exact h _ (hg.setRow_ _) (only_setRow _ _ _)
theorem wpList_copy_blk {ops : Array Oper} {rest : List Oper} {o : Oper} {a : Act} {Q : Exit → Act → World → Prop} (hgd : o.guard = none) (d s : Operand) (t : TypeId)
  (ho : o.op = .call { callee := .builtin .copy, args := #[d, s], argTypes := #[t, t] }) (elem : TypeId) (sz g off dLen dCap : Nat) (A : Option Addr) (sLen sCap m : Nat) (cur : Array Value) (T : TypeId) (cs : List Value)
  (hd : a.eval d = .slice (some ⟨g, off, none⟩) dLen dCap) (hs : a.eval s = .slice A sLen sCap)
  (hu : P.underlying t = some (.slice elem)) (hsz : (P.info? elem).map (·.size) = some sz) (hg : Blk w g T cur) (hm : Nat.min sLen dLen = m) (hr : Src w sz A m cs) (hA : A = none → sLen = 0)
  (hfit : off + cs.length ≤ cur.size) (h1 : ∀ v ∈ cs, v.oneCell' = true)
  (h : ∀ w', Blk w' g T (over cur.toList off cs).toArray → w.grownBy w' (some g) → wpList P ops Q rest (a.put o.dst (goInt m)) w') : wpList P ops Q (o :: rest) a w :=
 wpList_plain hgd fun _ hK => wp_copy_blk w d s t ho elem sz g off dLen dCap A sLen sCap m cur T cs hd hs hu hsz hg hm hr hA hfit h1 fun w' hb hgr => hK _ _ (h w' hb hgr)
end
theorem wpList_append_make {P : Program} (w : World) {ops : Array Oper} {rest : List Oper} {o : Oper} {a : Act} {Q : Exit → Act → World → Prop} (hgd : o.guard = none) (s x : Operand) (t tn : TypeId)
  (ho : o.op = .call { callee := .builtin .append, args := #[s, x], argTypes := #[t, tn] }) (e : TypeId) (i : TypeInfo) (z : Value) (sz bytes : Nat) (kq kn : IntKind)
  (ht : P.underlying t = some (.slice e)) (htn : P.underlying tn = some (.int kn)) (hi : P.info? e = some i) (hz : i.zero = some z) (hsize : i.size = sz) (hby : i.bytes = bytes) (hzs : z.cells.size = sz) (hsz : 0 < sz)
  (A : Option Addr) (n c : Nat) (olds : List Value) (hs : a.eval s = .slice A n c) (hr : Src w sz A n olds) (hA : A = none → n = 0)
  (l N : Nat) (hx : a.eval x = .int kq l) (h0 : 0 < l) (hN : n + l = N) (hroom : c < N) (hbig : N * bytes ≤ 140737488355328) (hN63 : N ≤ 1099511627777)
  (h : ∀ G ROW w', N ≤ G → G ≤ maxLen → ROW.size = G * sz → ROW.toList.take (n * sz) = olds → Blk w' w.heap.size e ROW → Below w.heap.size w w' → wpList P ops Q rest (a.put o.dst (.slice (some ⟨w.heap.size, 0, none⟩) N G)) w') : wpList P ops Q (o :: rest) a w := by
 subst hN
 have hold : (Builtin.firstCells i.size n (.slice A n c)).run P w.drew = .ok olds.toArray w.drew := by
  rw [hsize]
  cases A with
  | none =>
   have := hA rfl
   subst this
   obtain rfl : olds = [] := List.eq_nil_of_length_eq_zero (by simpa using hr.1)
   exact run_firstCells_none w.drew sz 0 0 c
  | some ad =>
   refine run_firstCells_some w.drew sz n ad n c olds hr.1 (fun j v hj => ?_)
   rcases Nat.eq_zero_or_pos n with hn | hn
   ·subst hn
    obtain rfl : olds = [] := List.eq_nil_of_length_eq_zero (by simpa using hr.1)
    simp at hj
   ·obtain ⟨ad', e1, hc⟩ := hr.2 hn
    injection e1 with e1
    subst e1
    exact hc j v hj
 have hrun := Lib.run_append_grow_zeros (P := P) w t tn o.type e i z kq kn ht htn hi hz A n c olds hold l h0 (by omega) hroom (by omega) (by rw [hby]; have : l * bytes ≤ (n + l) * bytes := Nat.mul_le_mul_right _ (by omega); omega) (by rw [hby]; exact growslice_fits hroom hbig)
 refine Lib.wpList_append_run w hgd s x t tn ho _ _ hs hx _ _ hrun ?_
 have hG := grownCap_ge w (n + l) c e
 refine h _ _ _ hG (grownCap_le_maxLen w (n + l) c e (by unfold maxLen; omega)) ?_ ?_ (Blk.new w.drew e _) ?_
 ·simp only [Array.size_append, List.size_toArray, hr.1, Builtin.zeroCells, hzs]
  simp
  rw [← Nat.add_mul, ← Nat.add_mul]
  congr 1
  omega
 ·simp only [Array.toList_append, List.append_assoc]
  rw [List.take_append_of_le_length (by simp [hr.1])]
  exact List.take_of_length_le (by simp [hr.1])
 ·exact ⟨rfl, rfl, rfl, by simp [World.alloc], fun k hk => Below.heap_alloc w.drew _ k hk⟩
theorem over_then {cs vs D : List Value} {a : Nat} (h : a ≤ cs.length) : (over (over cs a vs) (a + vs.length) D).take (a + vs.length + D.length) = cs.take a ++ vs ++ D := by
 have h1 : (over cs a vs).take (a + vs.length) = cs.take a ++ vs := by
  unfold over
  rw [List.take_append_of_le_length (by simp; omega), List.take_of_length_le (by simp; omega)]
 rw [over, h1, List.take_append_of_le_length (by simp; omega), List.take_of_length_le (by simp; omega)]
theorem over_before {cs vs D : List Value} {a : Nat} (h : a + vs.length ≤ cs.length) : (over (over cs (a + vs.length) D) a vs).take (a + vs.length + D.length) = cs.take a ++ vs ++ D := by
 have h1 : (over cs (a + vs.length) D).take a = cs.take a := by
  unfold over
  rw [List.append_assoc, List.take_append_of_le_length (by simp; omega), List.take_take, Nat.min_eq_left (by omega)]
 have h2 : (over cs (a + vs.length) D).drop (a + vs.length) = D ++ cs.drop (a + vs.length + D.length) := by
  unfold over
  rw [List.append_assoc, List.drop_append_of_le_length (by simp; omega), List.drop_of_length_le (by simp; omega), List.nil_append]
 rw [over, h1, h2]
 rw [← List.append_assoc, List.take_append_of_le_length (by simp; omega), List.take_of_length_le (by simp; omega)]
end Go.Proofs.YtemnlheidghbmaaGreat

/-
  Lemmas and contracts: YVkz. No condition.
-/
import Derived.Test.YtpcjdalgebgofaaGreatDoorKa20
import Derived.Test.YtpcjdalgebgofaaGreatDoorKa21
import Derived.Test.YtpcjdalgebgofaaGreatDoorKa22
import Derived.Test.YtpcjdalgebgofaaGreatDoorKa23
set_option linter.unusedSimpArgs false
set_option linter.unusedVariables false
set_option linter.unusedSectionVars false
namespace Go.Proofs.YtpcjdalgebgofaaGreatDoorY
open Go.RowKit Go.Sort
theorem tick_any (l:Lvl) (ws gs:Sl) (c:Car) (x:Inp) (w:World) (hr:RdL w l ws gs) (hn:ws.n≤1048576) (ht0:0≤c.turn) (ht1:c.turn≤15) (hg0:0≤c.gate) (hs0 : -1≤x.s) (hs1:x.s≤1) (hfx:slow c.fx) (hfy:slow c.fy) (hw:∀ b ∈ l.walls,boxOk b=true) (hgs:∀ b ∈ l.gates,boxOk b=true) (hff:boxOk l.f=true) :
  Calls Qy.prog 119 #[.agg #[.int .i64 x.s,.int .i64 x.p],lvlV l ws gs,carV c] w fun e w'=>e=.returned (carV (driveW l (tickC c) x))∧Below w.heap.size w w':=by
 cases hx:freeW l.walls (wrap64 (c.ax+(fastW c.fx c.fy (turnW c x).toNat x.p).1)) c.ay
 ·cases hy:freeW l.walls c.ax (wrap64 (c.ay+(fastW c.fx c.fy (turnW c x).toNat x.p).2))
  ·exact tick_w00 l ws gs c x w hr hn ht0 ht1 hg0 hs0 hs1 hfx hfy hw hgs hff hx hy
  ·exact tick_w01 l ws gs c x w hr hn ht0 ht1 hg0 hs0 hs1 hfx hfy hw hgs hff hx hy
 ·cases hy:freeW l.walls (wrap64 (c.ax+(fastW c.fx c.fy (turnW c x).toNat x.p).1)) (wrap64 (c.ay+(fastW c.fx c.fy (turnW c x).toNat x.p).2))
  ·exact tick_w10 l ws gs c x w hr hn ht0 ht1 hg0 hs0 hs1 hfx hfy hw hgs hff hx hy
  ·exact tick_w11 l ws gs c x w hr hn ht0 ht1 hg0 hs0 hs1 hfx hfy hw hgs hff hx hy
theorem backW_slow {v:Int} (h:slow v):slow (backW v):=by
 obtain ⟨h1,h2⟩:=h
 have e:wrap64 (-v) = -v:=by unfold wrap64;omega
 unfold backW
 rw [e]
 have key : -2000≤(-v).tdiv 2∧(-v).tdiv 2≤2000:=by
  rcases Int.le_total 0 (-v) with h|h
  ·rw [Int.tdiv_eq_ediv_of_nonneg h];omega
  ·have e:(-v).tdiv 2 = -((v).tdiv 2):=by rw [Int.neg_tdiv]
   rw [e,Int.tdiv_eq_ediv_of_nonneg (by omega)];omega
 have e2:wrap64 ((-v).tdiv 2)=(-v).tdiv 2:=by unfold wrap64;omega
 rw [e2]
 exact key
theorem moveY_slow (l:Lvl) (c:Car) (hx:slow c.fx) (hy:slow c.fy):slow (moveY l c).fx∧slow (moveY l c).fy:=by
 unfold moveY;split
 ·exact ⟨hx,hy⟩
 ·exact ⟨hx,backW_slow hy⟩
theorem moveW_slow (l:Lvl) (c:Car) (hx:slow c.fx) (hy:slow c.fy):slow (moveW l c).fx∧slow (moveW l c).fy:=by
 unfold moveW;split
 ·exact moveY_slow l _ hx hy
 ·exact moveY_slow l _ (backW_slow hx) hy
structure CarIn (c:Car):Prop where
 fx:slow c.fx
 fy:slow c.fy
 t0:0≤c.turn
 t1:c.turn≤15
 g0:0≤c.gate
theorem driveW_in (l:Lvl) (c:Car) (x:Inp) (h:CarIn c):CarIn (driveW l c x):=by
 have hs:=fastW_slow h.fx h.fy (turnW c x).toNat x.p
 have hm:=moveW_slow l ⟨c.tick,c.ax,c.ay,(fastW c.fx c.fy (turnW c x).toNat x.p).1,(fastW c.fx c.fy (turnW c x).toNat x.p).2,turnW c x,c.gate,c.dn,c.ov⟩ hs.1 hs.2
 have hk:=moveW_keeps l ⟨c.tick,c.ax,c.ay,(fastW c.fx c.fy (turnW c x).toNat x.p).1,(fastW c.fx c.fy (turnW c x).toNat x.p).2,turnW c x,c.gate,c.dn,c.ov⟩
 have hg:=h.g0
 unfold driveW
 split
 ·refine ⟨hm.1,hm.2,?_,?_,?_⟩
  ·show 0≤(movedW l c x).turn;rw [show (movedW l c x).turn=turnW c x from hk.2.1];unfold turnW;omega
  ·show (movedW l c x).turn≤15;rw [show (movedW l c x).turn=turnW c x from hk.2.1];unfold turnW;omega
  ·show 0≤gateW l (movedW l c x)
   have:(movedW l c x).gate=c.gate:=hk.1
   unfold gateW;split <;> omega
 ·exact ⟨h.fx,h.fy,h.t0,h.t1,h.g0⟩
end Go.Proofs.YtpcjdalgebgofaaGreatDoorY

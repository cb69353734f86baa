/-
  Lemmas and contracts: E2 Qt E3 E4. No condition.
-/
import Derived.StillTailTactics
import Derived.Test.YtkgfmgajhgfgjaaGreatDoorKa1
import Derived.Test.YtkgfmgajhgfgjaaGreatDoorKa4
set_option linter.unusedSimpArgs false
set_option linter.unusedVariables false
set_option linter.unusedSectionVars false
namespace Go.Proofs.YtkgfmgajhgfgjaaGreatDoor
open Go.RowKit Go.Sort
theorem cell_regrown_ {w w':World} {b:Nat} (h:Below w.heap.size w w') (hb:b<w.heap.size) (o:Nat):w'.cell? ⟨b,o,none⟩=w.cell? ⟨b,o,none⟩:=(bcell h).1 b o hb
structure Car where
 tick:Int
 ax:Int
 ay:Int
 fx:Int
 fy:Int
 turn:Int
 gate:Int
 dn:Bool
 ov:Bool
def carV (c:Car):Value:=.agg #[.int .i64 c.tick,.int .i64 c.ax,.int .i64 c.ay,.int .i64 c.fx,.int .i64 c.fy,.int .i64 c.turn,.int .i64 c.gate,.bool c.dn,.bool c.ov]
noncomputable def fastW (fx fy:Int) (d:Nat) (p:Int):Int × Int :=
 if p=1 then clampW (wrap64 (fx+mulW (dirW d) 200)) (wrap64 (fy+mulW (dirW ((d+12) % 16)) 200)) 2000
 else if p=2 then (mulW fx 700,mulW fy 700) else (mulW fx 950,mulW fy 950)
set_option maxRecDepth 100000 in
set_option maxHeartbeats 2000000 in
theorem l13Fast_any (c:Car) (d:Nat) (hd:d<16) (p:Int) (w:World) :
  Calls Tryz.prog 295 #[carV c,.int .i64 d,.int .i64 p] w fun e w'=>e=.returned (.agg #[.int .i64 (fastW c.fx c.fy d p).1,.int .i64 (fastW c.fx c.fy d p).2])∧Below w.heap.size w w':=by
 have hcase:fastW c.fx c.fy d p=fastW c.fx c.fy d p:=rfl
 by_cases h1:p=1
 ·have hfw:fastW c.fx c.fy d p=clampW (wrap64 (c.fx+mulW (dirW d) 200)) (wrap64 (c.fy+mulW (dirW ((d+12) % 16)) 200)) 2000:=by simp [fastW,h1]
  rw [hfw]
  clear hfw hcase
  subst h1
  generalize he2:(d+12) % 16=d2
  unfold carV
  go_enter Tryz.func295,Tryz.ntmps295
  go_wp2_with fail
  refine (l2Direction_at d d2 hd he2 _).mono ?_
  rintro e w1 ⟨rfl,hb1⟩
  clear he2
  have HB1:=Lib.hid (ba (ba hb1))
  have K1:=Lib.hid (((Blk.new w 93 #[.int .i64 c.tick,.int .i64 c.ax,.int .i64 c.ay,.int .i64 c.fx,.int .i64 c.fy,.int .i64 c.turn,.int .i64 c.gate,.bool c.dn,.bool c.ov]).alloc _).next hb1)
  have R1:=Lib.hid ((Blk.newAt (w.alloc (.cells #[.int .i64 c.tick,.int .i64 c.ax,.int .i64 c.ay,.int .i64 c.fx,.int .i64 c.fy,.int .i64 c.turn,.int .i64 c.gate,.bool c.dn,.bool c.ov] 93)) 24 #[.int .i64 0,.int .i64 0] (w.heap.size+1) (by simp)).next hb1)
  clear hb1
  go_wp2_with fail
  refine (l2Scale_any (dirW d) (dirW d2) 200 _).mono ?_
  rintro e w2 ⟨rfl,hb2⟩
  have HB2:=Lib.hid (below_next HB1.out hb2)
  have K2:=Lib.hid (K1.out.next hb2)
  have R2:=Lib.hid (R1.out.next hb2)
  clear hb2
  have ck:=fun o=>K2.out.cell o
  have zk:=K2.out.lt
  go_wp2_with fail
  refine (l2Clamp_any _ _ 2000 (by decide) _).mono ?_
  rintro e w3 ⟨rfl,hb3⟩
  have HB3:=Lib.hid (below_next HB2.out (ba hb3))
  have R3:=Lib.hid (R2.out.next (ba hb3))
  have hb:=HB3.out
  clear hb3 ck zk
  have cr:=fun o=>R3.out.cell o
  have fr:=fun o=>R3.out.frozen o
  have zr:=R3.out.lt
  go_wp2_with fail
  refine bodyPost_ret (v:=.agg #[.int .i64 (clampW (wrap64 (c.fx+mulW (dirW d) 200)) (wrap64 (c.fy+mulW (dirW d2) 200)) 2000).1,.int .i64 (clampW (wrap64 (c.fx+mulW (dirW d) 200)) (wrap64 (c.fy+mulW (dirW d2) 200)) 2000).2]) (by simp [results,Tryz.results295,go_sem,cr]) rfl ⟨rfl,?_⟩
  go_grown
 ·by_cases h2:p=2
  ·have hfw:fastW c.fx c.fy d p=(mulW c.fx 700,mulW c.fy 700):=by simp [fastW,h2]
   rw [hfw]
   clear hfw hcase h1
   subst h2
   unfold carV
   go_enter Tryz.func295,Tryz.ntmps295
   go_wp2_with fail
   refine (l2Scale_any c.fx c.fy 700 _).mono ?_
   rintro e w1 ⟨rfl,hb1⟩
   have R1:=Lib.hid ((Blk.newAt (w.alloc (.cells #[.int .i64 c.tick,.int .i64 c.ax,.int .i64 c.ay,.int .i64 c.fx,.int .i64 c.fy,.int .i64 c.turn,.int .i64 c.gate,.bool c.dn,.bool c.ov] 93)) 24 #[.int .i64 0,.int .i64 0] (w.heap.size+1) (by simp)).next hb1)
   have hb:=ba (ba hb1)
   clear hb1
   have cr:=fun o=>R1.out.cell o
   have fr:=fun o=>R1.out.frozen o
   have zr:=R1.out.lt
   go_wp2_with fail
   refine bodyPost_ret (v:=.agg #[.int .i64 (mulW c.fx 700),.int .i64 (mulW c.fy 700)]) (by simp [results,Tryz.results295,go_sem,cr]) rfl ⟨rfl,?_⟩
   go_grown
  ·have hfw:fastW c.fx c.fy d p=(mulW c.fx 950,mulW c.fy 950):=by simp [fastW,h1,h2]
   rw [hfw]
   clear hfw hcase
   have b1:(p == 1)=false:=by simpa using h1
   have b2:(p == 2)=false:=by simpa using h2
   unfold carV
   go_enter Tryz.func295,Tryz.ntmps295
   go_wp2_with fail
   refine (l2Scale_any c.fx c.fy 950 _).mono ?_
   rintro e w1 ⟨rfl,hb1⟩
   have R1:=Lib.hid ((Blk.newAt (w.alloc (.cells #[.int .i64 c.tick,.int .i64 c.ax,.int .i64 c.ay,.int .i64 c.fx,.int .i64 c.fy,.int .i64 c.turn,.int .i64 c.gate,.bool c.dn,.bool c.ov] 93)) 24 #[.int .i64 0,.int .i64 0] (w.heap.size+1) (by simp)).next hb1)
   have hb:=ba (ba hb1)
   clear hb1
   have cr:=fun o=>R1.out.cell o
   have fr:=fun o=>R1.out.frozen o
   have zr:=R1.out.lt
   go_wp2_with fail
   refine bodyPost_ret (v:=.agg #[.int .i64 (mulW c.fx 950),.int .i64 (mulW c.fy 950)]) (by simp [results,Tryz.results295,go_sem,cr]) rfl ⟨rfl,?_⟩
   go_grown
def backW (v:Int):Int:=wrap64 ((wrap64 (-v)).tdiv 2)
def moveY (l:Lvl) (c:Car):Car:=if freeW l.walls c.ax (wrap64 (c.ay+c.fy)) then ⟨c.tick,c.ax,wrap64 (c.ay+c.fy),c.fx,c.fy,c.turn,c.gate,c.dn,c.ov⟩ else ⟨c.tick,c.ax,c.ay,c.fx,backW c.fy,c.turn,c.gate,c.dn,c.ov⟩
def moveW (l:Lvl) (c:Car):Car:=if freeW l.walls (wrap64 (c.ax+c.fx)) c.ay then moveY l ⟨c.tick,wrap64 (c.ax+c.fx),c.ay,c.fx,c.fy,c.turn,c.gate,c.dn,c.ov⟩ else moveY l ⟨c.tick,c.ax,c.ay,backW c.fx,c.fy,c.turn,c.gate,c.dn,c.ov⟩
set_option maxRecDepth 100000 in
set_option maxHeartbeats 4000000 in
theorem l13Move_any (l:Lvl) (ws gs:Sl) (c:Car) (w:World) (hr:RdB w ws.a ws.n l.walls) (hn:ws.n≤1099511627776) :
  Calls Tryz.prog 296 #[lvlV l ws gs,carV c] w fun e w'=>e=.returned (carV (moveW l c))∧Below w.heap.size w w':=by
 have HR:=Lib.hid hr
 clear hr
 rw [show carV c=.agg #[.int .i64 c.tick,.int .i64 c.ax,.int .i64 c.ay,.int .i64 c.fx,.int .i64 c.fy,.int .i64 c.turn,.int .i64 c.gate,.bool c.dn,.bool c.ov] from rfl]
 go_enter Tryz.func296,Tryz.ntmps296
 go_upto_region 2 with (fail)
 refine into_world (fun W=>Below w.heap.size w W∧Blk W w.heap.size 29 #[.int .i64 l.id,.int .i64 l.ticks,.int .i64 l.sx,.int .i64 l.sy,.slice ws.a ws.n ws.c,.slice gs.a gs.n gs.c,.int .i64 l.f.1,.int .i64 l.f.2.1,.int .i64 l.f.2.2.1,.int .i64 l.f.2.2.2,.int .i64 l.bans]∧Blk W (w.heap.size+1) 93 #[.int .i64 c.tick,.int .i64 c.ax,.int .i64 c.ay,.int .i64 c.fx,.int .i64 c.fy,.int .i64 c.turn,.int .i64 c.gate,.bool c.dn,.bool c.ov]∧Blk W (w.heap.size+2) 93 #[.int .i64 0,.int .i64 0,.int .i64 0,.int .i64 0,.int .i64 0,.int .i64 0,.int .i64 0,.bool false,.bool false]∧Blk W (w.heap.size+3) 24 #[.int .i64 (wrap64 (c.ax+c.fx)),.int .i64 c.ay]) ⟨by go_grown,(((Blk.new _ _ _).alloc _).alloc _).alloc _,((Blk.newAt _ _ _ _ (by simp)).alloc _).alloc _,(Blk.newAt _ _ _ _ (by simp)).alloc _,Blk.newAt _ _ _ _ (by simp)⟩ ?_
 rintro W ⟨hb,kl,ks,kr,kx⟩
 have HB:=Lib.hid hb
 have KL:=Lib.hid kl
 have KS:=Lib.hid ks
 have KR:=Lib.hid kr
 have cl:=fun o=>kl.cell o
 have zl:=kl.lt
 have cx:=fun o=>kx.cell o
 have zx:=kx.lt
 clear hb kl ks kr kx
 go_wp2_with fail
 refine (l11Free_any l ws gs (wrap64 (c.ax+c.fx)) c.ay _ (HR.out.below HB.out) hn).mono ?_
 rintro e w1 ⟨rfl,hb1⟩
 have HB1:=Lib.hid (below_next HB.out hb1)
 have KL1:=Lib.hid (KL.out.next hb1)
 have KS1:=Lib.hid (KS.out.next hb1)
 have KR1:=Lib.hid (KR.out.next hb1)
 have hs1:=hb1.size
 have cs:=fun o=>KS1.out.cell o
 have fs:=fun o=>KS1.out.frozen o
 have zs:=KS1.out.lt
 have cx1:w1.cell? ⟨w.heap.size+3,0,none⟩=some (.int .i64 (wrap64 (c.ax+c.fx))):=(cell_regrown_ hb1 zx 0).trans (cx 0)
 have cx2:w1.cell? ⟨w.heap.size+3,1,none⟩=some (.int .i64 c.ay):=(cell_regrown_ hb1 zx 1).trans (cx 1)
 clear cl zl cx hb1
 cases hf:freeW l.walls (wrap64 (c.ax+c.fx)) c.ay
 ·skip
  have hm:moveW l c=moveY l (⟨c.tick,c.ax,c.ay,(backW c.fx),c.fy,c.turn,c.gate,c.dn,c.ov⟩:Car):=by simp [moveW,hf]
  have HM1:=Lib.hid hm
  clear hm hf
  go_upto_region 6 with (fail)
  refine into_world (fun W=>Below w.heap.size w W∧w1.heap.size<W.heap.size∧Blk W w.heap.size 29 #[.int .i64 l.id,.int .i64 l.ticks,.int .i64 l.sx,.int .i64 l.sy,.slice ws.a ws.n ws.c,.slice gs.a gs.n gs.c,.int .i64 l.f.1,.int .i64 l.f.2.1,.int .i64 l.f.2.2.1,.int .i64 l.f.2.2.2,.int .i64 l.bans]∧Blk W (w.heap.size+1) 93 #[.int .i64 c.tick,.int .i64 c.ax,.int .i64 c.ay,.int .i64 (backW c.fx),.int .i64 c.fy,.int .i64 c.turn,.int .i64 c.gate,.bool c.dn,.bool c.ov]∧Blk W (w.heap.size+2) 93 #[.int .i64 0,.int .i64 0,.int .i64 0,.int .i64 0,.int .i64 0,.int .i64 0,.int .i64 0,.bool false,.bool false]∧Blk W w1.heap.size 24 #[.int .i64 c.ax,.int .i64 (wrap64 (c.ay+c.fy))]) ⟨?_,by simp,?_,?_,?_,Blk.newAt _ _ _ _ (by simp)⟩ ?_
  ·have hb:=HB1.out
   go_grown
  ·exact (KL1.out.far (by simp) _).alloc _
  ·exact (KS1.out.set_ 3 _).alloc _
  ·exact (KR1.out.far (by simp) _).alloc _
  clear cs fs zs cx1 cx2
  rintro W2 ⟨hb2,hs2,kl2,ks2,kr2,ky2⟩
  have HB2:=Lib.hid hb2
  have KL2:=Lib.hid kl2
  have KS2:=Lib.hid ks2
  have KR2:=Lib.hid kr2
  have cl:=fun o=>kl2.cell o
  have zl:=kl2.lt
  have cy:=fun o=>ky2.cell o
  have zy:=ky2.lt
  clear hb2 kl2 ks2 kr2 ky2
  go_wp2_with fail
  refine (l11Free_any l ws gs c.ax (wrap64 (c.ay+c.fy)) _ (HR.out.below HB2.out) hn).mono ?_
  rintro e w3 ⟨rfl,hb3⟩
  have HB3:=Lib.hid (below_next HB2.out hb3)
  have KS3:=Lib.hid (KS2.out.next hb3)
  have KR3:=Lib.hid (KR2.out.next hb3)
  have hs3:=hb3.size
  have cs:=fun o=>KS3.out.cell o
  have fs:=fun o=>KS3.out.frozen o
  have zs:=KS3.out.lt
  have cr:=fun o=>KR3.out.cell o
  have fr:=fun o=>KR3.out.frozen o
  have zr:=KR3.out.lt
  have cy1:w3.cell? ⟨w1.heap.size,0,none⟩=some (.int .i64 c.ax):=(cell_regrown_ hb3 zy 0).trans (cy 0)
  have cy2:w3.cell? ⟨w1.heap.size,1,none⟩=some (.int .i64 (wrap64 (c.ay+c.fy))):=(cell_regrown_ hb3 zy 1).trans (cy 1)
  clear cl zl cy hb3
  cases hg:freeW l.walls c.ax (wrap64 (c.ay+c.fy))
  ·skip
   have hm:moveY l (⟨c.tick,c.ax,c.ay,(backW c.fx),c.fy,c.turn,c.gate,c.dn,c.ov⟩:Car)=(⟨c.tick,c.ax,c.ay,(backW c.fx),(backW c.fy),c.turn,c.gate,c.dn,c.ov⟩:Car):=by simp [moveY,hg]
   have HM2:=Lib.hid hm
   clear hm hg
   go_wp2_with fail
   refine bodyPost_ret (v:=carV (⟨c.tick,c.ax,c.ay,(backW c.fx),(backW c.fy),c.turn,c.gate,c.dn,c.ov⟩:Car)) (by simp [results,Tryz.results296,go_sem,cr,carV,backW]) rfl ⟨by rw [HM1.out,HM2.out],?_⟩
   have hb:=HB3.out
   go_grown
  ·skip
   have hm:moveY l (⟨c.tick,c.ax,c.ay,(backW c.fx),c.fy,c.turn,c.gate,c.dn,c.ov⟩:Car)=(⟨c.tick,c.ax,(wrap64 (c.ay+c.fy)),(backW c.fx),c.fy,c.turn,c.gate,c.dn,c.ov⟩:Car):=by simp [moveY,hg]
   have HM2:=Lib.hid hm
   clear hm hg
   go_wp2_with fail
   refine bodyPost_ret (v:=carV (⟨c.tick,c.ax,(wrap64 (c.ay+c.fy)),(backW c.fx),c.fy,c.turn,c.gate,c.dn,c.ov⟩:Car)) (by simp [results,Tryz.results296,go_sem,cr,carV]) rfl ⟨by rw [HM1.out,HM2.out],?_⟩
   have hb:=HB3.out
   go_grown
 ·skip
  have hm:moveW l c=moveY l (⟨c.tick,(wrap64 (c.ax+c.fx)),c.ay,c.fx,c.fy,c.turn,c.gate,c.dn,c.ov⟩:Car):=by simp [moveW,hf]
  have HM1:=Lib.hid hm
  clear hm hf
  go_upto_region 6 with (fail)
  refine into_world (fun W=>Below w.heap.size w W∧w1.heap.size<W.heap.size∧Blk W w.heap.size 29 #[.int .i64 l.id,.int .i64 l.ticks,.int .i64 l.sx,.int .i64 l.sy,.slice ws.a ws.n ws.c,.slice gs.a gs.n gs.c,.int .i64 l.f.1,.int .i64 l.f.2.1,.int .i64 l.f.2.2.1,.int .i64 l.f.2.2.2,.int .i64 l.bans]∧Blk W (w.heap.size+1) 93 #[.int .i64 c.tick,.int .i64 (wrap64 (c.ax+c.fx)),.int .i64 c.ay,.int .i64 c.fx,.int .i64 c.fy,.int .i64 c.turn,.int .i64 c.gate,.bool c.dn,.bool c.ov]∧Blk W (w.heap.size+2) 93 #[.int .i64 0,.int .i64 0,.int .i64 0,.int .i64 0,.int .i64 0,.int .i64 0,.int .i64 0,.bool false,.bool false]∧Blk W w1.heap.size 24 #[.int .i64 (wrap64 (c.ax+c.fx)),.int .i64 (wrap64 (c.ay+c.fy))]) ⟨?_,by simp,?_,?_,?_,Blk.newAt _ _ _ _ (by simp)⟩ ?_
  ·have hb:=HB1.out
   go_grown
  ·exact ((KL1.out.far (by simp) _).far (by simp) _).alloc _
  ·exact ((KS1.out.set_ 1 _).set_ 2 _).alloc _
  ·exact ((KR1.out.far (by simp) _).far (by simp) _).alloc _
  clear cs fs zs cx1 cx2
  rintro W2 ⟨hb2,hs2,kl2,ks2,kr2,ky2⟩
  have HB2:=Lib.hid hb2
  have KL2:=Lib.hid kl2
  have KS2:=Lib.hid ks2
  have KR2:=Lib.hid kr2
  have cl:=fun o=>kl2.cell o
  have zl:=kl2.lt
  have cy:=fun o=>ky2.cell o
  have zy:=ky2.lt
  clear hb2 kl2 ks2 kr2 ky2
  go_wp2_with fail
  refine (l11Free_any l ws gs (wrap64 (c.ax+c.fx)) (wrap64 (c.ay+c.fy)) _ (HR.out.below HB2.out) hn).mono ?_
  rintro e w3 ⟨rfl,hb3⟩
  have HB3:=Lib.hid (below_next HB2.out hb3)
  have KS3:=Lib.hid (KS2.out.next hb3)
  have KR3:=Lib.hid (KR2.out.next hb3)
  have hs3:=hb3.size
  have cs:=fun o=>KS3.out.cell o
  have fs:=fun o=>KS3.out.frozen o
  have zs:=KS3.out.lt
  have cr:=fun o=>KR3.out.cell o
  have fr:=fun o=>KR3.out.frozen o
  have zr:=KR3.out.lt
  have cy1:w3.cell? ⟨w1.heap.size,0,none⟩=some (.int .i64 (wrap64 (c.ax+c.fx))):=(cell_regrown_ hb3 zy 0).trans (cy 0)
  have cy2:w3.cell? ⟨w1.heap.size,1,none⟩=some (.int .i64 (wrap64 (c.ay+c.fy))):=(cell_regrown_ hb3 zy 1).trans (cy 1)
  clear cl zl cy hb3
  cases hg:freeW l.walls (wrap64 (c.ax+c.fx)) (wrap64 (c.ay+c.fy))
  ·skip
   have hm:moveY l (⟨c.tick,(wrap64 (c.ax+c.fx)),c.ay,c.fx,c.fy,c.turn,c.gate,c.dn,c.ov⟩:Car)=(⟨c.tick,(wrap64 (c.ax+c.fx)),c.ay,c.fx,(backW c.fy),c.turn,c.gate,c.dn,c.ov⟩:Car):=by simp [moveY,hg]
   have HM2:=Lib.hid hm
   clear hm hg
   go_wp2_with fail
   refine bodyPost_ret (v:=carV (⟨c.tick,(wrap64 (c.ax+c.fx)),c.ay,c.fx,(backW c.fy),c.turn,c.gate,c.dn,c.ov⟩:Car)) (by simp [results,Tryz.results296,go_sem,cr,carV,backW]) rfl ⟨by rw [HM1.out,HM2.out],?_⟩
   have hb:=HB3.out
   go_grown
  ·skip
   have hm:moveY l (⟨c.tick,(wrap64 (c.ax+c.fx)),c.ay,c.fx,c.fy,c.turn,c.gate,c.dn,c.ov⟩:Car)=(⟨c.tick,(wrap64 (c.ax+c.fx)),(wrap64 (c.ay+c.fy)),c.fx,c.fy,c.turn,c.gate,c.dn,c.ov⟩:Car):=by simp [moveY,hg]
   have HM2:=Lib.hid hm
   clear hm hg
   go_wp2_with fail
   refine bodyPost_ret (v:=carV (⟨c.tick,(wrap64 (c.ax+c.fx)),(wrap64 (c.ay+c.fy)),c.fx,c.fy,c.turn,c.gate,c.dn,c.ov⟩:Car)) (by simp [results,Tryz.results296,go_sem,cr,carV]) rfl ⟨by rw [HM1.out,HM2.out],?_⟩
   have hb:=HB3.out
   go_grown
end Go.Proofs.YtkgfmgajhgfgjaaGreatDoor
namespace Go.Proofs.YtkgfmgajhgfgjaaGreatDoor
open Go.RowKit Go.Sort
section
variable {P:Program} {ops:Array Oper} {md:Region.Mode} {C:World→Prop}
def headAny (P:Program) (md:Region.Mode) (ops:Array Oper) (C:World→Prop) (n:Nat) (L:Array Bool→Act→Prop):Nat→Array Bool→Act→Prop
 | 0,listed,a=>L listed a
 | f+1,listed,a=>Region.ready md ops listed≠[]∧∀ i ∈ Region.ready md ops listed,i<n∧qOp P ops C i (headAny P md ops C n L f (listed.setIfInBounds i true)) a
theorem any_of_head {n g:Nat} {L:Array Bool→Act→Prop} {Q':Exit→Act→World→Prop} (hL:∀ listed a,L listed a→∀ w,C w→wpAny P md ops Q' g listed a w) (f:Nat) :
  ∀ (listed:Array Bool) (a:Act) (w:World),C w→headAny P md ops C n L f listed a→wpAny P md ops Q' (f+g) listed a w:=by
 induction f with
 | zero=>intro listed a w hw h;rw [Nat.zero_add];exact hL _ _ h w hw
 | succ f ih =>
  intro listed a w hw h
  have e:f+1+g=(f+g)+1:=by omega
  rw [e]
  exact ⟨fun h0=>absurd h0 h.1,fun i hi=>wpOp_of_qOp hw (fun a' w' hw' k=>ih _ a' w' hw' k) (h.2 i hi).2⟩
theorem head_first {n i:Nat} {oi:Oper} {v:Value} {L:Array Bool→Act→Prop} (hi:ops[i]?=some oi) (hsel:∀ (j:Nat) (o:Oper) cs b,ops[j]?=some o→o.op≠.select cs b)
  (hs:Region.sinkB md ops n=true) (hc:Region.chainB md ops n=true) (hn:n<ops.size) (hin:i<n)
  (hdone:∀ listed a,L listed a→∀ j ∈ Region.ready md ops listed,n≤j) (f:Nat) :
  ∀ (listed:Array Bool) (a:Act),HeadInv md ops n listed →
   (∀ j oj,ops[j]?=some oj→j≠i→listed.getD j true=false→(∀ e ∈ oj.after,Region.binds md e=true→e.on≠i)→oi.apart ops oj=true) →
   i ∈ Region.ready md ops listed→YieldsIn P ops C oi v a →
   headAny P md ops C n L f (listed.setIfInBounds i true) (a.put oi.dst v)→headAny P md ops C n L (f+1) listed a:=by
 induction f with
 | zero =>
  intro listed a inv _ hr hy H
  have hne:Region.ready md ops listed≠[]:=List.ne_nil_of_mem hr
  refine ⟨hne,fun j hj=>?_⟩
  have hjn:j<n:=by
   by_cases h:j<n
   ·exact h
   ·exact absurd hj (tail_waits hs hc hn inv _ i rfl hin (mem_ready.1 hr).1 j (by omega))
  by_cases e:j=i
  ·subst e;exact ⟨hjn,hy.qOp hi H⟩
  ·have:=hdone _ _ H j (ready_mono hj e)
   omega
 | succ f ih =>
  intro listed a inv hfree hr hy H
  refine ⟨List.ne_nil_of_mem hr,fun j hj=>?_⟩
  have hjn:j<n:=by
   by_cases h:j<n
   ·exact h
   ·exact absurd hj (tail_waits hs hc hn inv _ i rfl hin (mem_ready.1 hr).1 j (by omega))
  by_cases e:j=i
  ·subst e;exact ⟨hjn,hy.qOp hi H⟩
  obtain ⟨hjun,oj,hoj,hall⟩:=mem_ready.1 hj
  have hnot:∀ d ∈ oj.after,Region.binds md d=true→d.on≠i:=by
   intro d hd hb hq
   have:=hall d hd hb
   rw [hq,getD_both (mem_ready.1 hr).1] at this
   cases this
  refine ⟨hjn,qOp_mono (fun a' h3=>ih (listed.setIfInBounds j true) a' (inv.set hj hjn) ?_ (ready_mono hr (Ne.symm e)) h3.1 ?_)
   (qOp_put hoj (hfree j oj hoj e hjun hnot) (fun cs b=>hsel i oi cs b hi) (fun cs b=>hsel j oj cs b hoj) hy (H.2 j (ready_mono hj e)).2)⟩
  ·intro k ok hk hki hun hno
   refine hfree k ok hk hki ?_ hno
   by_cases q:j=k
   ·subst q;exact hjun
   ·rwa [getD_set_ne true q] at hun
  ·rw [Array.setIfInBounds_comm _ _ e]
   exact h3.2
theorem head_lex {n g:Nat} {K:Act→Prop} (hsel:Region.noSelect ops=true) (hs:Region.sinkB md ops n=true) (hc:Region.chainB md ops n=true) (hn:n<ops.size) (l:List Oper) :
  ∀ (k:Nat) (listed:Array Bool) (a:Act),(∀ j,j<l.length→l[j]?=ops[k+j]?)→k+l.length=n→HeadInv md ops n listed →
  Region.lexHead md ops g l.length k listed=true→wpQuiet P ops C K l a →
  headAny P md ops C n (fun listed' a'=>Region.seqB md ops g n listed'=true∧K a') l.length listed a:=by
 induction l with
 | nil =>
  intro k listed a _ hk _ hB h
  obtain rfl:k=n:=by simpa using hk
  exact ⟨by simpa [Region.lexHead] using hB,h⟩
 | cons o l ih =>
  intro k listed a hl hk inv hB h
  have h0:ops[k]?=some o:=by simpa using (hl 0 (by simp)).symm
  simp only [List.length_cons,Region.lexHead,Bool.and_eq_true] at hB hk
  have hkn:k<n:=by omega
  have hr:k ∈ Region.ready md ops listed:=by simpa using hB.1.1
  obtain ⟨v,hy,hK⟩:=yieldsIn_of_qOp h0 (show qOp P ops C k (wpQuiet P ops C K l) a by unfold qOp;simp only [h0];exact h)
  refine head_first h0 (Region.noSelect_spec hsel) hs hc hn hkn (fun _ _ q=>seqB_ready q.1) l.length listed a inv (Region.free_spec h0 hB.1.2) hr hy
   (ih (k+1) _ _ (fun j hj=>?_) (by omega) (inv.set hr hkn) hB.2 hK)
  have:=hl (j+1) (by simp;omega)
  simpa [Nat.add_assoc,Nat.add_comm 1 j] using this
theorem wp_region_quiet_tail {id:Nat} {Q:Exit→Act→World→Prop} {a:Act} {w:World} {l:List Oper} (n:Nat) (hm:P.follows .mixedOrders=true) (hB:Region.lexTailB .any l.toArray n=true) (hC:C { w with drawn:=w.drawn+1 })
  (h:wpQuiet P l.toArray C (fun a'=>∀ w',C w'→wpList P l.toArray Q (l.drop n) a' w') (l.take n) a):(Code.region id l.toArray true).wp P Q a w:=by
 simp only [Region.lexTailB,Bool.and_eq_true,decide_eq_true_eq] at hB
 obtain ⟨⟨⟨⟨hsel,hn⟩,hs⟩,hc⟩,hlex⟩:=hB
 have hn':n<l.length:=by simpa using hn
 have ht:(l.take n).length=n:=by rw [List.length_take];omega
 have hd:(l.drop n).length=l.toArray.size - n:=by simp
 have inv0:HeadInv .any l.toArray n (Array.replicate l.toArray.size false):=by
  refine ⟨by simp,fun j oj _ hl=>?_,fun t _ hts=>getD_in (by simpa using hts) (getD_replicate_false _ _)⟩
  rw [getD_replicate_false] at hl
  cases hl
 have H:=head_lex (md:=.any) (g:=l.toArray.size - n) hsel hs hc hn (l.take n) 0 _ a (by
  intro j hj
  rw [ht] at hj
  simp [hj]) (by simpa using ht) inv0 (by rw [ht];exact hlex) h
 refine wp_region_any hm ?_
 have:=any_of_head (Q':=Q) (g:=l.toArray.size - n) (fun listed a' hL w' hw'=>by
  have:=wpAny_of_seq (md:=.any) (Q':=Q) (l.drop n) n listed a' w' (fun j=>by simp [List.getElem?_drop]) (by rw [hd];exact hL.1) (hL.2 w' hw')
  rwa [hd] at this) _ _ _ _ hC H
 rw [ht,show n+(l.toArray.size - n)=l.toArray.size by omega] at this
 exact this
theorem wp_region_qbt {id:Nat} {Q:Exit→Act→World→Prop} {a:Act} {w:World} {l:List Oper} (n:Nat) (hm:P.follows .mixedOrders=true) (hB:Region.lexTailB .any l.toArray n=true)
  (h:wpQuiet P l.toArray (fun w'=>∃ p:Regrown,w'=grow (redrawn w p.d) p.os) (fun a'=>∀ w',Below w.heap.size w w'→wpList P l.toArray Q (l.drop n) a' w') (l.take n) a):(Code.region id l.toArray true).wp P Q a w :=
 wp_region_quiet_tail (C:=fun w'=>∃ p:Regrown,w'=grow (redrawn w p.d) p.os) n hm hB ⟨⟨w.drawn+1,#[]⟩,by rw [grow_empty];rfl⟩ (by
  refine wpQuiet_imp ?_ _ _ (by simpa using h)
  rintro a' h' w' ⟨p,rfl⟩
  exact h' _ (below_regrown w p.d p.os))
end
end Go.Proofs.YtkgfmgajhgfgjaaGreatDoor
namespace Go.Proofs.YtkgfmgajhgfgjaaGreatDoor
open Go.RowKit Go.Sort
def hasB (b:Bx) (x y:Int):Bool:=inR x b.1 b.2.2.1 && inR y b.2.1 b.2.2.2
set_option maxHeartbeats 1000000 in
theorem l3Has_any (b:Bx) (x y:Int) (w:World) :
  Calls Tryz.prog 297 #[.agg #[.int .i64 b.1,.int .i64 b.2.1,.int .i64 b.2.2.1,.int .i64 b.2.2.2],.agg #[.int .i64 x,.int .i64 y]] w fun e w'=>e=.returned (.bool (hasB b x y))∧Below w.heap.size w w':=by
 obtain ⟨b1,b2,b3,b4⟩:=b
 go_enter Tryz.func297,Tryz.ntmps297
 go_wp2_with (first|(go_at_call 57;refine (l6In_any _ _ _ _).mono ?_;rintro e w' ⟨rfl,rfl⟩))
 all_goals go_ret
 all_goals exact ⟨ret_bool (by simp [hasB, *]),by go_grown⟩
structure Inp where
 s:Int
 p:Int
 z:Bool
abbrev inV (x:Inp):Value:=.agg #[.int .i64 x.s,.int .i64 x.p,.bool x.z]
theorem Blk.all9 {w:World} {g T:Nat} {a0 a1 a2 a3 a4 a5 a6 a7 a8:Value} (h:Blk w g T #[a0,a1,a2,a3,a4,a5,a6,a7,a8]) (v0 v1 v2 v3 v4 v5 v6 v7 v8:Value) :
  Blk (((((((((w.setCell ⟨g,0,none⟩ v0).setCell ⟨g,1,none⟩ v1).setCell ⟨g,2,none⟩ v2).setCell ⟨g,3,none⟩ v3).setCell ⟨g,4,none⟩ v4).setCell ⟨g,5,none⟩ v5).setCell ⟨g,6,none⟩ v6).setCell ⟨g,7,none⟩ v7).setCell ⟨g,8,none⟩ v8) g T #[v0,v1,v2,v3,v4,v5,v6,v7,v8]:=by
 have h1:Blk (w.setCell ⟨g,0,none⟩ v0) g T #[v0,a1,a2,a3,a4,a5,a6,a7,a8]:=h.set_ 0 v0
 have h2:Blk ((w.setCell ⟨g,0,none⟩ v0).setCell ⟨g,1,none⟩ v1) g T #[v0,v1,a2,a3,a4,a5,a6,a7,a8]:=h1.set_ 1 v1
 have h3:Blk (((w.setCell ⟨g,0,none⟩ v0).setCell ⟨g,1,none⟩ v1).setCell ⟨g,2,none⟩ v2) g T #[v0,v1,v2,a3,a4,a5,a6,a7,a8]:=h2.set_ 2 v2
 have h4:Blk ((((w.setCell ⟨g,0,none⟩ v0).setCell ⟨g,1,none⟩ v1).setCell ⟨g,2,none⟩ v2).setCell ⟨g,3,none⟩ v3) g T #[v0,v1,v2,v3,a4,a5,a6,a7,a8]:=h3.set_ 3 v3
 have h5:Blk (((((w.setCell ⟨g,0,none⟩ v0).setCell ⟨g,1,none⟩ v1).setCell ⟨g,2,none⟩ v2).setCell ⟨g,3,none⟩ v3).setCell ⟨g,4,none⟩ v4) g T #[v0,v1,v2,v3,v4,a5,a6,a7,a8]:=h4.set_ 4 v4
 have h6:Blk ((((((w.setCell ⟨g,0,none⟩ v0).setCell ⟨g,1,none⟩ v1).setCell ⟨g,2,none⟩ v2).setCell ⟨g,3,none⟩ v3).setCell ⟨g,4,none⟩ v4).setCell ⟨g,5,none⟩ v5) g T #[v0,v1,v2,v3,v4,v5,a6,a7,a8]:=h5.set_ 5 v5
 have h7:Blk (((((((w.setCell ⟨g,0,none⟩ v0).setCell ⟨g,1,none⟩ v1).setCell ⟨g,2,none⟩ v2).setCell ⟨g,3,none⟩ v3).setCell ⟨g,4,none⟩ v4).setCell ⟨g,5,none⟩ v5).setCell ⟨g,6,none⟩ v6) g T #[v0,v1,v2,v3,v4,v5,v6,a7,a8]:=h6.set_ 6 v6
 have h8:Blk ((((((((w.setCell ⟨g,0,none⟩ v0).setCell ⟨g,1,none⟩ v1).setCell ⟨g,2,none⟩ v2).setCell ⟨g,3,none⟩ v3).setCell ⟨g,4,none⟩ v4).setCell ⟨g,5,none⟩ v5).setCell ⟨g,6,none⟩ v6).setCell ⟨g,7,none⟩ v7) g T #[v0,v1,v2,v3,v4,v5,v6,v7,a8]:=h7.set_ 7 v7
 have h9:Blk (((((((((w.setCell ⟨g,0,none⟩ v0).setCell ⟨g,1,none⟩ v1).setCell ⟨g,2,none⟩ v2).setCell ⟨g,3,none⟩ v3).setCell ⟨g,4,none⟩ v4).setCell ⟨g,5,none⟩ v5).setCell ⟨g,6,none⟩ v6).setCell ⟨g,7,none⟩ v7).setCell ⟨g,8,none⟩ v8) g T #[v0,v1,v2,v3,v4,v5,v6,v7,v8]:=h8.set_ 8 v8
 exact h9
theorem Blk.far9 {w:World} {b T g:Nat} {cs:Array Value} (h:Blk w b T cs) (hne:b≠g) (v0 v1 v2 v3 v4 v5 v6 v7 v8:Value) :
  Blk (((((((((w.setCell ⟨g,0,none⟩ v0).setCell ⟨g,1,none⟩ v1).setCell ⟨g,2,none⟩ v2).setCell ⟨g,3,none⟩ v3).setCell ⟨g,4,none⟩ v4).setCell ⟨g,5,none⟩ v5).setCell ⟨g,6,none⟩ v6).setCell ⟨g,7,none⟩ v7).setCell ⟨g,8,none⟩ v8) b T cs :=
 ((((((((h.far (p:=⟨g,0,none⟩) hne v0).far (p:=⟨g,1,none⟩) hne v1).far (p:=⟨g,2,none⟩) hne v2).far (p:=⟨g,3,none⟩) hne v3).far (p:=⟨g,4,none⟩) hne v4).far (p:=⟨g,5,none⟩) hne v5).far (p:=⟨g,6,none⟩) hne v6).far (p:=⟨g,7,none⟩) hne v7).far (p:=⟨g,8,none⟩) hne v8
theorem below_set9 {w0 w:World} {B g:Nat} (h:Below B w0 w) (hg:B≤g) (v0 v1 v2 v3 v4 v5 v6 v7 v8:Value) :
  Below B w0 (((((((((w.setCell ⟨g,0,none⟩ v0).setCell ⟨g,1,none⟩ v1).setCell ⟨g,2,none⟩ v2).setCell ⟨g,3,none⟩ v3).setCell ⟨g,4,none⟩ v4).setCell ⟨g,5,none⟩ v5).setCell ⟨g,6,none⟩ v6).setCell ⟨g,7,none⟩ v7).setCell ⟨g,8,none⟩ v8) :=
 ((((((((h.setCell (p:=⟨g,0,none⟩) hg v0).setCell (p:=⟨g,1,none⟩) hg v1).setCell (p:=⟨g,2,none⟩) hg v2).setCell (p:=⟨g,3,none⟩) hg v3).setCell (p:=⟨g,4,none⟩) hg v4).setCell (p:=⟨g,5,none⟩) hg v5).setCell (p:=⟨g,6,none⟩) hg v6).setCell (p:=⟨g,7,none⟩) hg v7).setCell (p:=⟨g,8,none⟩) hg v8
abbrev carC (c:Car):Array Value:=#[.int .i64 c.tick,.int .i64 c.ax,.int .i64 c.ay,.int .i64 c.fx,.int .i64 c.fy,.int .i64 c.turn,.int .i64 c.gate,.bool c.dn,.bool c.ov]
abbrev lvlC (l:Lvl) (ws gs:Sl):Array Value:=#[.int .i64 l.id,.int .i64 l.ticks,.int .i64 l.sx,.int .i64 l.sy,.slice ws.a ws.n ws.c,.slice gs.a gs.n gs.c,.int .i64 l.f.1,.int .i64 l.f.2.1,.int .i64 l.f.2.2.1,.int .i64 l.f.2.2.2,.int .i64 l.bans]
abbrev car0:Array Value:=#[.int .i64 0,.int .i64 0,.int .i64 0,.int .i64 0,.int .i64 0,.int .i64 0,.int .i64 0,.bool false,.bool false]
def turnW (c:Car) (x:Inp):Int:=(c.turn+x.s+16) % 16
noncomputable def movedW (l:Lvl) (c:Car) (x:Inp):Car :=
 moveW l ⟨c.tick,c.ax,c.ay,(fastW c.fx c.fy (turnW c x).toNat x.p).1,(fastW c.fx c.fy (turnW c x).toNat x.p).2,turnW c x,c.gate,c.dn,c.ov⟩
def gateW (l:Lvl) (m:Car):Int:=if m.gate<(l.gates.length:Int)∧((l.gates[m.gate.toNat]?).map fun b=>hasB b m.ax m.ay)=some true then m.gate+1 else m.gate
def endW (l:Lvl) (m:Car):Car:=⟨m.tick,m.ax,m.ay,m.fx,m.fy,m.turn,gateW l m,decide (gateW l m=(l.gates.length:Int)) && hasB l.f m.ax m.ay,m.ov⟩
noncomputable def driveW (l:Lvl) (c:Car) (x:Inp):Car :=
 if vecOk (movedW l c x).ax (movedW l c x).ay then endW l (movedW l c x) else ⟨c.tick,c.ax,c.ay,c.fx,c.fy,c.turn,c.gate,c.dn,true⟩
theorem moveY_keeps (l:Lvl) (c:Car):(moveY l c).gate=c.gate∧(moveY l c).turn=c.turn∧(moveY l c).tick=c.tick∧(moveY l c).dn=c.dn∧(moveY l c).ov=c.ov:=by
 unfold moveY;split <;> simp
theorem moveW_keeps (l:Lvl) (c:Car):(moveW l c).gate=c.gate∧(moveW l c).turn=c.turn∧(moveW l c).tick=c.tick∧(moveW l c).dn=c.dn∧(moveW l c).ov=c.ov:=by
 unfold moveW;split <;> exact moveY_keeps _ _
set_option maxRecDepth 100000 in
set_option maxHeartbeats 4000000 in
theorem l13Drive_any (l:Lvl) (ws gs:Sl) (c:Car) (x:Inp) (w:World) (hr:RdL w l ws gs) (ht0:0≤c.turn) (ht1:c.turn≤15) (hg0:0≤c.gate) (hs0 : -1≤x.s) (hs1:x.s≤1) :
  Calls Tryz.prog 243 #[lvlV l ws gs,carV c,inV x] w fun e w'=>e=.returned (carV (driveW l c x))∧Below w.heap.size w w':=by
 obtain ⟨hr1,hr2,⟨_,hn1⟩,_,hn2⟩:=hr
 have HR1:=Lib.hid hr1
 have HR2:=Lib.hid hr2
 have HL2:=Lib.hid hr2.len
 clear hr1 hr2
 obtain ⟨d,hd,hd16⟩:∃ d:Nat,(c.turn+x.s+16) % 16=d∧d<16:=⟨((c.turn+x.s+16) % 16).toNat,by omega,by omega⟩
 have hq:(c.turn+x.s+16).tmod 16=d:=by rw [Int.tmod_eq_emod_of_nonneg (by omega)];exact hd
 have HM:=Lib.hid (show movedW l c x=moveW l ⟨c.tick,c.ax,c.ay,(fastW c.fx c.fy d x.p).1,(fastW c.fx c.fy d x.p).2,d,c.gate,c.dn,c.ov⟩ by unfold movedW turnW;rw [hd];rfl)
 clear hd
 rw [show carV c=.agg #[.int .i64 c.tick,.int .i64 c.ax,.int .i64 c.ay,.int .i64 c.fx,.int .i64 c.fy,.int .i64 c.turn,.int .i64 c.gate,.bool c.dn,.bool c.ov] from rfl]
 go_enter Tryz.func243,Tryz.ntmps243
 go_upto_region 3 with (fail)
 refine into_world (fun W=>Below w.heap.size w W∧Blk W w.heap.size 29 (lvlC l ws gs)∧Blk W (w.heap.size+1) 93 (carC c)∧Blk W (w.heap.size+1+1) 158 #[.int .i64 x.s,.int .i64 x.p,.bool x.z]∧Blk W (w.heap.size+1+1+1) 93 car0∧Blk W (w.heap.size+1+1+1+1) 93 (carC ⟨c.tick,c.ax,c.ay,c.fx,c.fy,d,c.gate,c.dn,c.ov⟩)) ⟨?_,?_,?_,?_,?_,?_⟩ ?_
 ·go_grown
 ·exact ((((Blk.new _ _ _).alloc _).alloc _).alloc _).alloc _
 ·exact (((Blk.newAt _ _ _ _ (by simp)).alloc _).alloc _).alloc _
 ·exact ((Blk.newAt _ _ _ _ (by simp)).alloc _).alloc _
 ·exact (Blk.newAt _ _ _ _ (by simp)).alloc _
 ·exact Blk.newAt _ _ _ _ (by simp)
 clear hq
 rintro W ⟨HB,KL,KS,KX,KR,KO⟩
 replace HB:=Lib.hid HB
 replace KL:=Lib.hid KL
 replace KS:=Lib.hid KS
 replace KX:=Lib.hid KX
 replace KR:=Lib.hid KR
 replace KO:=Lib.hid KO
 have cs:=fun o=>KS.out.cell o
 have fs:=fun o=>KS.out.frozen o
 have zs:=KS.out.lt
 have cx:=fun o=>KX.out.cell o
 have fx:=fun o=>KX.out.frozen o
 have zx:=KX.out.lt
 have co:=fun o=>KO.out.cell o
 have fo:=fun o=>KO.out.frozen o
 have zo:=KO.out.lt
 go_wp2_with fail
 refine (l13Fast_any c d hd16 x.p _).mono ?_
 rintro e w1 ⟨rfl,hb⟩
 replace KL:=Lib.hid (KL.out.next hb)
 replace KS:=Lib.hid (KS.out.next hb)
 replace KX:=Lib.hid (KX.out.next hb)
 replace KR:=Lib.hid (KR.out.next hb)
 replace KO:=Lib.hid (KO.out.next hb)
 replace HB:=Lib.hid (below_next HB.out hb)
 clear cs fs zs cx fx zx co fo zo hb
 generalize fastW c.fx c.fy d x.p=f at *
 obtain ⟨f1,f2⟩:=f
 have co:=fun o=>KO.out.cell o
 have fo:=fun o=>KO.out.frozen o
 have zo:=KO.out.lt
 go_upto_region 4 with (fail)
 refine into_world (fun W=>Below w.heap.size w W∧Blk W w.heap.size 29 (lvlC l ws gs)∧Blk W (w.heap.size+1) 93 (carC c)∧Blk W (w.heap.size+1+1+1) 93 car0∧Blk W (w.heap.size+1+1+1+1) 93 (carC ⟨c.tick,c.ax,c.ay,f1,f2,d,c.gate,c.dn,c.ov⟩)) ⟨?_,?_,?_,?_,?_⟩ ?_
 ·have hb:=HB.out
  go_grown
 ·exact (KL.out.far (by simp <;> omega) _).far (by simp <;> omega) _
 ·exact (KS.out.far (by simp <;> omega) _).far (by simp <;> omega) _
 ·exact (KR.out.far (by simp <;> omega) _).far (by simp <;> omega) _
 ·exact (KO.out.set_ 3 _).set_ 4 _
 clear HB KL KS KX KR KO co fo zo
 rintro W2 ⟨HB,KL,KS,KR,KO⟩
 replace HB:=Lib.hid HB
 replace KL:=Lib.hid KL
 replace KS:=Lib.hid KS
 replace KR:=Lib.hid KR
 replace KO:=Lib.hid KO
 have cl:=fun o=>KL.out.cell o
 have fl:=fun o=>KL.out.frozen o
 have zl:=KL.out.lt
 have co:=fun o=>KO.out.cell o
 have fo:=fun o=>KO.out.frozen o
 have zo:=KO.out.lt
 go_wp2_with fail
 refine (l13Move_any l ws gs ⟨c.tick,c.ax,c.ay,f1,f2,d,c.gate,c.dn,c.ov⟩ _ (HR1.out.below HB.out) (by omega)).mono ?_
 rintro e w2 ⟨rfl,hb⟩
 replace KL:=Lib.hid (KL.out.next hb)
 replace KS:=Lib.hid (KS.out.next hb)
 replace KR:=Lib.hid (KR.out.next hb)
 replace KO:=Lib.hid (KO.out.next hb)
 replace HB:=Lib.hid (below_next HB.out hb)
 have hk:=moveW_keeps l ⟨c.tick,c.ax,c.ay,f1,f2,d,c.gate,c.dn,c.ov⟩
 generalize hm:moveW l ⟨c.tick,c.ax,c.ay,f1,f2,d,c.gate,c.dn,c.ov⟩=m at *
 clear hm
 have HMG:=Lib.hid (show m.gate=c.gate from hk.1)
 clear hk cl fl zl co fo zo hb
 rw [show carV m=.agg #[.int .i64 m.tick,.int .i64 m.ax,.int .i64 m.ay,.int .i64 m.fx,.int .i64 m.fy,.int .i64 m.turn,.int .i64 m.gate,.bool m.dn,.bool m.ov] from rfl]
 have co:=fun o=>KO.out.cell o
 have fo:=fun o=>KO.out.frozen o
 have zo:=KO.out.lt
 go_upto_region 5 with (fail)
 refine into_world (fun W=>Below w.heap.size w W∧Blk W w.heap.size 29 (lvlC l ws gs)∧Blk W (w.heap.size+1) 93 (carC c)∧Blk W (w.heap.size+1+1+1) 93 car0∧Blk W (w.heap.size+1+1+1+1) 93 (carC m)) ⟨?_,?_,?_,?_,?_⟩ ?_
 ·exact below_set9 HB.out (by omega) _ _ _ _ _ _ _ _ _
 ·exact KL.out.far9 (by omega) _ _ _ _ _ _ _ _ _
 ·exact KS.out.far9 (by omega) _ _ _ _ _ _ _ _ _
 ·exact KR.out.far9 (by omega) _ _ _ _ _ _ _ _ _
 ·exact KO.out.all9 _ _ _ _ _ _ _ _ _
 clear HB KL KS KR KO co fo zo
 rintro W3 ⟨HB,KL,KS,KR,KO⟩
 replace HB:=Lib.hid HB
 replace KL:=Lib.hid KL
 replace KS:=Lib.hid KS
 replace KR:=Lib.hid KR
 replace KO:=Lib.hid KO
 have co:=fun o=>KO.out.cell o
 have fo:=fun o=>KO.out.frozen o
 have zo:=KO.out.lt
 go_wp2_with fail
 refine (specVecOk_any m.ax m.ay _).mono ?_
 rintro e w3 ⟨rfl,hb⟩
 replace KL:=Lib.hid (KL.out.next hb)
 replace KS:=Lib.hid (KS.out.next hb)
 replace KR:=Lib.hid (KR.out.next hb)
 replace KO:=Lib.hid (KO.out.next hb)
 replace HB:=Lib.hid (below_next HB.out hb)
 clear co fo zo hb
 cases hv:vecOk m.ax m.ay
 ·have HV:=Lib.hid hv
  clear hv
  have cs:=fun o=>KS.out.cell o
  have fs:=fun o=>KS.out.frozen o
  have zs:=KS.out.lt
  have cr:=fun o=>KR.out.cell o
  have fr:=fun o=>KR.out.frozen o
  have zr:=KR.out.lt
  go_wp2_with fail
  refine bodyPost_ret (v:=carV (⟨c.tick,c.ax,c.ay,c.fx,c.fy,c.turn,c.gate,c.dn,true⟩:Car)) (by simp [results,Tryz.results243,go_sem,cr,carV]) rfl ⟨?_,?_⟩
  ·simp [driveW,HM.out,HV.out]
  ·have hb:=HB.out
   go_grown
 ·have HV:=Lib.hid (show driveW l c x=endW l m by unfold driveW;rw [HM.out,hv];rfl)
  clear hv HM
  have hzl:=HL2.out
  have hgn0:0≤m.gate:=by have:=HMG.out;omega
  have co:=fun o=>KO.out.cell o
  have fo:=fun o=>KO.out.frozen o
  have zo:=KO.out.lt
  have cl:=fun o=>KL.out.cell o
  have fl:=fun o=>KL.out.frozen o
  have zl:=KL.out.lt
  have co6:w3.cell? ⟨w.heap.size+1+1+1+1,6,none⟩=some (.int .i64 m.gate):=co 6
  have co1:w3.cell? ⟨w.heap.size+1+1+1+1,1,none⟩=some (.int .i64 m.ax):=co 1
  have co2:w3.cell? ⟨w.heap.size+1+1+1+1,2,none⟩=some (.int .i64 m.ay):=co 2
  have cl5:w3.cell? ⟨w.heap.size,5,none⟩=some (.slice gs.a gs.n gs.c):=cl 5
  by_cases hlt:m.gate<(gs.n:Int)
  ·obtain ⟨G,hG⟩:=Int.eq_ofNat_of_zero_le hgn0
   obtain ⟨b,off,z,hA,hbb,hx,h0,h1,h2,h3⟩:=RdB.cells (HR2.out.below HB.out) (k:=G) (by omega)
   rw [hA] at cl5
   rw [hG] at co6 hlt
   have hc6:=fun d os=>cell_regrown co6 d os
   have hc1:=fun d os=>cell_regrown co1 d os
   have hc2:=fun d os=>cell_regrown co2 d os
   have hc5:=fun d os=>cell_regrown cl5 d os
   have h0':=fun d os=>cell_regrown h0 d os
   have h1':=fun d os=>cell_regrown h1 d os
   have h2':=fun d os=>cell_regrown h2 d os
   have h3':=fun d os=>cell_regrown h3 d os
   have HX:=Lib.hid hx
   clear co cl co6 co1 co2 cl5 h0 h1 h2 h3 hx
   go_wp2_with fail
   refine wp_region_qb (by kernel_rfl) (by kernel_rfl) ?_
   repeat (go_big_quiet_step ((go_at_call 297;exact Calls.regrown_of (l3Has_any _ _ _ _))))
   refine wpQuiet_nil ?_
   intro w4 hb
   replace KL:=Lib.hid (KL.out.next hb)
   replace KR:=Lib.hid (KR.out.next hb)
   replace KO:=Lib.hid (KO.out.next hb)
   replace HB:=Lib.hid (below_next HB.out hb)
   clear hc6 hc1 hc2 hc5 h0' h1' h2' h3' hb
   cases hh:hasB z m.ax m.ay
   ·have HGW:=Lib.hid (show gateW l m=m.gate by simp [gateW,hG,HX.out,hh])
    clear hh
    simp only [carC,hG] at KO
    rw [hG] at HGW
    have co:=fun o=>KO.out.cell o
    have fo:=fun o=>KO.out.frozen o
    have zo:=KO.out.lt
    have cl:=fun o=>KL.out.cell o
    have fl:=fun o=>KL.out.frozen o
    have zl:=KL.out.lt
    go_upto_region 10 with (fail)
    by_cases heq:(G:Int)=(gs.n:Int)
    ·have HE:=Lib.hid (show endW l m=⟨m.tick,m.ax,m.ay,m.fx,m.fy,m.turn,(G:Int),hasB l.f m.ax m.ay,m.ov⟩ by simp [endW,HGW.out,HL2.out,heq])
     have heq':((G:Int) == (gs.n:Int))=true:=by simpa using heq
     clear heq
     go_wp2_with fail
     refine (l3Has_any l.f m.ax m.ay _).mono ?_
     rintro e w6 ⟨rfl,hb⟩
     replace KR:=Lib.hid (KR.out.next hb)
     replace KO:=Lib.hid (KO.out.next hb)
     replace HB:=Lib.hid (below_next HB.out hb)
     clear co fo zo cl fl zl hb
     generalize hasB l.f m.ax m.ay=fin at *
     have co:=fun o=>KO.out.cell o
     have fo:=fun o=>KO.out.frozen o
     have zo:=KO.out.lt
     have cr:=fun o=>KR.out.cell o
     have fr:=fun o=>KR.out.frozen o
     have zr:=KR.out.lt
     go_wp2_with fail
     refine bodyPost_ret (v:=carV (⟨m.tick,m.ax,m.ay,m.fx,m.fy,m.turn,(G:Int),fin,m.ov⟩:Car)) (by simp [results,Tryz.results243,go_sem,cr,carV]) rfl ⟨?_,?_⟩
     ·rw [HV.out,HE.out]
     ·have hb:=HB.out
      go_grown
    ·have HE:=Lib.hid (show endW l m=⟨m.tick,m.ax,m.ay,m.fx,m.fy,m.turn,(G:Int),false,m.ov⟩ by simp [endW,HGW.out,HL2.out,heq])
     have heq':((G:Int) == (gs.n:Int))=false:=by simpa using heq
     clear heq
     have cr:=fun o=>KR.out.cell o
     have fr:=fun o=>KR.out.frozen o
     have zr:=KR.out.lt
     go_wp2_with fail
     refine bodyPost_ret (v:=carV (⟨m.tick,m.ax,m.ay,m.fx,m.fy,m.turn,(G:Int),false,m.ov⟩:Car)) (by simp [results,Tryz.results243,go_sem,cr,carV]) rfl ⟨?_,?_⟩
     ·rw [HV.out,HE.out]
     ·have hb:=HB.out
      go_grown
   ·have HGW:=Lib.hid (show gateW l m=m.gate+1 by simp [gateW,hG,HX.out,hh,HL2.out];omega)
    clear hh
    simp only [carC,hG] at KO
    rw [hG] at HGW
    have co:=fun o=>KO.out.cell o
    have fo:=fun o=>KO.out.frozen o
    have zo:=KO.out.lt
    go_upto_region 10 with (fail)
    refine into_world (fun W=>Below w.heap.size w W∧Blk W w.heap.size 29 (lvlC l ws gs)∧Blk W (w.heap.size+1+1+1) 93 car0∧Blk W (w.heap.size+1+1+1+1) 93 (carC ⟨m.tick,m.ax,m.ay,m.fx,m.fy,m.turn,(G:Int)+1,m.dn,m.ov⟩)) ⟨?_,?_,?_,?_⟩ ?_
    ·have hb:=HB.out
     go_grown
    ·exact KL.out.far (by simp <;> omega) _
    ·exact KR.out.far (by simp <;> omega) _
    ·exact KO.out.set_ 6 _
    clear HB KL KR KO co fo zo
    rintro W5 ⟨HB,KL,KR,KO⟩
    replace HB:=Lib.hid HB
    replace KL:=Lib.hid KL
    replace KR:=Lib.hid KR
    replace KO:=Lib.hid KO
    have co:=fun o=>KO.out.cell o
    have fo:=fun o=>KO.out.frozen o
    have zo:=KO.out.lt
    have cl:=fun o=>KL.out.cell o
    have fl:=fun o=>KL.out.frozen o
    have zl:=KL.out.lt
    by_cases heq:((G:Int)+1)=(gs.n:Int)
    ·have HE:=Lib.hid (show endW l m=⟨m.tick,m.ax,m.ay,m.fx,m.fy,m.turn,((G:Int)+1),hasB l.f m.ax m.ay,m.ov⟩ by simp [endW,HGW.out,HL2.out,heq])
     have heq':(((G:Int)+1) == (gs.n:Int))=true:=by simpa using heq
     clear heq
     go_wp2_with fail
     refine (l3Has_any l.f m.ax m.ay _).mono ?_
     rintro e w6 ⟨rfl,hb⟩
     replace KR:=Lib.hid (KR.out.next hb)
     replace KO:=Lib.hid (KO.out.next hb)
     replace HB:=Lib.hid (below_next HB.out hb)
     clear co fo zo cl fl zl hb
     generalize hasB l.f m.ax m.ay=fin at *
     have co:=fun o=>KO.out.cell o
     have fo:=fun o=>KO.out.frozen o
     have zo:=KO.out.lt
     have cr:=fun o=>KR.out.cell o
     have fr:=fun o=>KR.out.frozen o
     have zr:=KR.out.lt
     go_wp2_with fail
     refine bodyPost_ret (v:=carV (⟨m.tick,m.ax,m.ay,m.fx,m.fy,m.turn,((G:Int)+1),fin,m.ov⟩:Car)) (by simp [results,Tryz.results243,go_sem,cr,carV]) rfl ⟨?_,?_⟩
     ·rw [HV.out,HE.out]
     ·have hb:=HB.out
      go_grown
    ·have HE:=Lib.hid (show endW l m=⟨m.tick,m.ax,m.ay,m.fx,m.fy,m.turn,((G:Int)+1),false,m.ov⟩ by simp [endW,HGW.out,HL2.out,heq])
     have heq':(((G:Int)+1) == (gs.n:Int))=false:=by simpa using heq
     clear heq
     have cr:=fun o=>KR.out.cell o
     have fr:=fun o=>KR.out.frozen o
     have zr:=KR.out.lt
     go_wp2_with fail
     refine bodyPost_ret (v:=carV (⟨m.tick,m.ax,m.ay,m.fx,m.fy,m.turn,((G:Int)+1),false,m.ov⟩:Car)) (by simp [results,Tryz.results243,go_sem,cr,carV]) rfl ⟨?_,?_⟩
     ·rw [HV.out,HE.out]
     ·have hb:=HB.out
      go_grown
  ·have HGW:=Lib.hid (show gateW l m=m.gate by simp [gateW,HL2.out,hlt])
   have hlt':decide (m.gate<(gs.n:Int))=false:=by simpa using hlt
   have hc6:=fun d os=>cell_regrown co6 d os
   have hc5:=fun d os=>cell_regrown cl5 d os
   clear co cl co6 co1 co2 cl5
   go_wp2_with fail
   refine wp_region_qb (by kernel_rfl) (by kernel_rfl) ?_
   repeat (go_big_quiet_step ((fail)))
   refine wpQuiet_nil ?_
   intro w4 hb
   replace KL:=Lib.hid (KL.out.next hb)
   replace KR:=Lib.hid (KR.out.next hb)
   replace KO:=Lib.hid (KO.out.next hb)
   replace HB:=Lib.hid (below_next HB.out hb)
   clear hc6 hc5 hb
   have co:=fun o=>KO.out.cell o
   have fo:=fun o=>KO.out.frozen o
   have zo:=KO.out.lt
   have cl:=fun o=>KL.out.cell o
   have fl:=fun o=>KL.out.frozen o
   have zl:=KL.out.lt
   go_upto_region 10 with (fail)
   by_cases heq:m.gate=(gs.n:Int)
   ·have HE:=Lib.hid (show endW l m=⟨m.tick,m.ax,m.ay,m.fx,m.fy,m.turn,m.gate,hasB l.f m.ax m.ay,m.ov⟩ by simp [endW,HGW.out,HL2.out,heq])
    have heq':(m.gate == (gs.n:Int))=true:=by simpa using heq
    clear heq
    go_wp2_with fail
    refine (l3Has_any l.f m.ax m.ay _).mono ?_
    rintro e w6 ⟨rfl,hb⟩
    replace KR:=Lib.hid (KR.out.next hb)
    replace KO:=Lib.hid (KO.out.next hb)
    replace HB:=Lib.hid (below_next HB.out hb)
    clear co fo zo cl fl zl hb
    generalize hasB l.f m.ax m.ay=fin at *
    have co:=fun o=>KO.out.cell o
    have fo:=fun o=>KO.out.frozen o
    have zo:=KO.out.lt
    have cr:=fun o=>KR.out.cell o
    have fr:=fun o=>KR.out.frozen o
    have zr:=KR.out.lt
    go_wp2_with fail
    refine bodyPost_ret (v:=carV (⟨m.tick,m.ax,m.ay,m.fx,m.fy,m.turn,m.gate,fin,m.ov⟩:Car)) (by simp [results,Tryz.results243,go_sem,cr,carV]) rfl ⟨?_,?_⟩
    ·rw [HV.out,HE.out]
    ·have hb:=HB.out
     go_grown
   ·have HE:=Lib.hid (show endW l m=⟨m.tick,m.ax,m.ay,m.fx,m.fy,m.turn,m.gate,false,m.ov⟩ by simp [endW,HGW.out,HL2.out,heq])
    have heq':(m.gate == (gs.n:Int))=false:=by simpa using heq
    clear heq
    have cr:=fun o=>KR.out.cell o
    have fr:=fun o=>KR.out.frozen o
    have zr:=KR.out.lt
    go_wp2_with fail
    refine bodyPost_ret (v:=carV (⟨m.tick,m.ax,m.ay,m.fx,m.fy,m.turn,m.gate,false,m.ov⟩:Car)) (by simp [results,Tryz.results243,go_sem,cr,carV]) rfl ⟨?_,?_⟩
    ·rw [HV.out,HE.out]
    ·have hb:=HB.out
     go_grown
end Go.Proofs.YtkgfmgajhgfgjaaGreatDoor
namespace Go.Proofs.YtkgfmgajhgfgjaaGreatDoor
open Go.RowKit Go.Sort
noncomputable def stepW (l:Lvl) (c:Car) (x:Inp):Car :=
 if c.dn || c.ov then c else if x.z then ⟨wrap64 (c.tick+1),c.ax,c.ay,c.fx,c.fy,c.turn,c.gate,c.dn,c.ov⟩ else driveW l ⟨wrap64 (c.tick+1),c.ax,c.ay,c.fx,c.fy,c.turn,c.gate,c.dn,c.ov⟩ x
set_option maxRecDepth 100000 in
set_option maxHeartbeats 4000000 in
theorem l13Step_any (l:Lvl) (ws gs:Sl) (c:Car) (x:Inp) (w:World) (hr:RdL w l ws gs) (ht0:0≤c.turn) (ht1:c.turn≤15) (hg0:0≤c.gate) (hs0 : -1≤x.s) (hs1:x.s≤1) :
  Calls Tryz.prog 195 #[lvlV l ws gs,carV c,inV x] w fun e w'=>e=.returned (carV (stepW l c x))∧Below w.heap.size w w':=by
 have HR:=Lib.hid hr
 clear hr
 obtain ⟨xs,xp,xz⟩:=x
 simp only at hs0 hs1
 rw [show carV c=.agg #[.int .i64 c.tick,.int .i64 c.ax,.int .i64 c.ay,.int .i64 c.fx,.int .i64 c.fy,.int .i64 c.turn,.int .i64 c.gate,.bool c.dn,.bool c.ov] from rfl]
 go_enter Tryz.func195,Tryz.ntmps195
 go_upto_region 1 with (fail)
 refine into_world (fun W=>Below w.heap.size w W∧Blk W w.heap.size 29 (lvlC l ws gs)∧Blk W (w.heap.size+1) 93 (carC c)∧Blk W (w.heap.size+1+1) 158 #[.int .i64 xs,.int .i64 xp,.bool xz]∧Blk W (w.heap.size+1+1+1) 93 car0) ⟨?_,?_,?_,?_,?_⟩ ?_
 ·go_grown
 ·exact (((Blk.new _ _ _).alloc _).alloc _).alloc _
 ·exact ((Blk.newAt _ _ _ _ (by simp)).alloc _).alloc _
 ·exact (Blk.newAt _ _ _ _ (by simp)).alloc _
 ·exact Blk.newAt _ _ _ _ (by simp)
 rintro W ⟨HB,KL,KS,KX,KR⟩
 replace HB:=Lib.hid HB
 replace KL:=Lib.hid KL
 replace KS:=Lib.hid KS
 replace KX:=Lib.hid KX
 replace KR:=Lib.hid KR
 cases hd:c.dn
 rotate_left
 ·have HD:=Lib.hid hd
  have HO:=Lib.hid (Eq.refl c.ov)
  simp only [carC,hd] at KS
  clear hd
  have cs:=fun o=>KS.out.cell o
  have fs:=fun o=>KS.out.frozen o
  have zs:=KS.out.lt
  have cr:=fun o=>KR.out.cell o
  have fr:=fun o=>KR.out.frozen o
  have zr:=KR.out.lt
  go_wp2_with fail
  refine bodyPost_ret (v:=carV (⟨c.tick,c.ax,c.ay,c.fx,c.fy,c.turn,c.gate,true,c.ov⟩:Car)) (by simp [results,Tryz.results195,go_sem,cr,carV]) rfl ⟨?_,?_⟩
  ·simp [stepW,HD.out,carV]
  ·have hb:=HB.out
   go_grown
 cases ho:c.ov
 rotate_left
 ·have HD:=Lib.hid hd
  have HO:=Lib.hid ho
  simp only [carC,hd,ho] at KS
  clear hd ho
  have cs:=fun o=>KS.out.cell o
  have fs:=fun o=>KS.out.frozen o
  have zs:=KS.out.lt
  have cr:=fun o=>KR.out.cell o
  have fr:=fun o=>KR.out.frozen o
  have zr:=KR.out.lt
  go_wp2_with fail
  refine bodyPost_ret (v:=carV (⟨c.tick,c.ax,c.ay,c.fx,c.fy,c.turn,c.gate,false,true⟩:Car)) (by simp [results,Tryz.results195,go_sem,cr,carV]) rfl ⟨?_,?_⟩
  ·simp [stepW,HD.out,HO.out,carV]
  ·have hb:=HB.out
   go_grown
 have HD:=Lib.hid hd
 have HO:=Lib.hid ho
 simp only [carC,hd,ho] at KS
 clear hd ho
 have cs:=fun o=>KS.out.cell o
 have fs:=fun o=>KS.out.frozen o
 have zs:=KS.out.lt
 go_upto_region 4 with (fail)
 refine into_world (fun W=>Below w.heap.size w W∧Blk W w.heap.size 29 (lvlC l ws gs)∧Blk W (w.heap.size+1) 93 (carC ⟨wrap64 (c.tick+1),c.ax,c.ay,c.fx,c.fy,c.turn,c.gate,false,false⟩)∧Blk W (w.heap.size+1+1) 158 #[.int .i64 xs,.int .i64 xp,.bool xz]∧Blk W (w.heap.size+1+1+1) 93 car0) ⟨?_,?_,?_,?_,?_⟩ ?_
 ·have hb:=HB.out
  go_grown
 ·exact KL.out.far (by simp <;> omega) _
 ·exact KS.out.set_ 0 _
 ·exact KX.out.far (by simp <;> omega) _
 ·exact KR.out.far (by simp <;> omega) _
 clear HB KL KS KX KR cs fs zs
 rintro W2 ⟨HB,KL,KS,KX,KR⟩
 replace HB:=Lib.hid HB
 replace KL:=Lib.hid KL
 replace KS:=Lib.hid KS
 replace KX:=Lib.hid KX
 replace KR:=Lib.hid KR
 cases xz
 rotate_left
 ·skip
  have cx:=fun o=>KX.out.cell o
  have fx:=fun o=>KX.out.frozen o
  have zx:=KX.out.lt
  have cs:=fun o=>KS.out.cell o
  have fs:=fun o=>KS.out.frozen o
  have zs:=KS.out.lt
  have cr:=fun o=>KR.out.cell o
  have fr:=fun o=>KR.out.frozen o
  have zr:=KR.out.lt
  go_wp2_with fail
  refine bodyPost_ret (v:=carV (⟨wrap64 (c.tick+1),c.ax,c.ay,c.fx,c.fy,c.turn,c.gate,false,false⟩:Car)) (by simp [results,Tryz.results195,go_sem,cr,carV]) rfl ⟨?_,?_⟩
  ·simp [stepW,HD.out,HO.out]
  ·have hb:=HB.out
   go_grown
 have cx:=fun o=>KX.out.cell o
 have fx:=fun o=>KX.out.frozen o
 have zx:=KX.out.lt
 have cl:=fun o=>KL.out.cell o
 have fl:=fun o=>KL.out.frozen o
 have zl:=KL.out.lt
 have cs:=fun o=>KS.out.cell o
 have fs:=fun o=>KS.out.frozen o
 have zs:=KS.out.lt
 go_wp2_with fail
 refine (l13Drive_any l ws gs ⟨wrap64 (c.tick+1),c.ax,c.ay,c.fx,c.fy,c.turn,c.gate,false,false⟩ ⟨xs,xp,false⟩ _ (HR.out.below HB.out) ht0 ht1 hg0 hs0 hs1).mono ?_
 rintro e w1 ⟨rfl,hb⟩
 replace KR:=Lib.hid (KR.out.next hb)
 replace HB:=Lib.hid (below_next HB.out hb)
 clear hb cl fl zl cs fs zs cx fx zx
 have HS:=Lib.hid (show stepW l c ⟨xs,xp,false⟩=driveW l ⟨wrap64 (c.tick+1),c.ax,c.ay,c.fx,c.fy,c.turn,c.gate,false,false⟩ ⟨xs,xp,false⟩ by simp [stepW,HD.out,HO.out])
 generalize driveW l ⟨wrap64 (c.tick+1),c.ax,c.ay,c.fx,c.fy,c.turn,c.gate,false,false⟩ ⟨xs,xp,false⟩=m at *
 rw [show carV m=.agg #[.int .i64 m.tick,.int .i64 m.ax,.int .i64 m.ay,.int .i64 m.fx,.int .i64 m.fy,.int .i64 m.turn,.int .i64 m.gate,.bool m.dn,.bool m.ov] from rfl]
 have cr:=fun o=>KR.out.cell o
 have fr:=fun o=>KR.out.frozen o
 have zr:=KR.out.lt
 go_wp2_with fail
 refine bodyPost_ret (v:=carV m) (by simp [results,Tryz.results195,go_sem,cr,carV]) rfl ⟨?_,?_⟩
 ·rw [HS.out]
 ·have hb:=HB.out
  go_grown
def CarOk (c:Car):Prop:=0≤c.turn∧c.turn≤15∧0≤c.gate
theorem stepW_ok {l:Lvl} {c:Car} {x:Inp} (h:CarOk c):CarOk (stepW l c x):=by
 obtain ⟨h1,h2,h3⟩:=h
 unfold stepW
 split
 ·exact ⟨h1,h2,h3⟩
 ·split
  ·exact ⟨h1,h2,h3⟩
  ·unfold driveW
   split
   ·have hk:=moveW_keeps l ⟨wrap64 (c.tick+1),c.ax,c.ay,(fastW c.fx c.fy (turnW ⟨wrap64 (c.tick+1),c.ax,c.ay,c.fx,c.fy,c.turn,c.gate,c.dn,c.ov⟩ x).toNat x.p).1,(fastW c.fx c.fy (turnW ⟨wrap64 (c.tick+1),c.ax,c.ay,c.fx,c.fy,c.turn,c.gate,c.dn,c.ov⟩ x).toNat x.p).2,turnW ⟨wrap64 (c.tick+1),c.ax,c.ay,c.fx,c.fy,c.turn,c.gate,c.dn,c.ov⟩ x,c.gate,c.dn,c.ov⟩
    unfold movedW endW gateW CarOk
    generalize moveW l _=m at *
    obtain ⟨k1,k2,-⟩:=hk
    simp only at k1 k2 ⊢
    refine ⟨?_,?_,?_⟩
    ·rw [k2];unfold turnW;omega
    ·rw [k2];unfold turnW;omega
    ·split <;> omega
   ·exact ⟨h1,h2,h3⟩
def hstepW (h n:Int):Int:=(8191 * h+(n.tmod 1000003+1000003).tmod 1000003+1).tmod 1000003
def HashOk (h:Int):Prop:=0≤h∧h≤1000002
theorem hstep_facts (h n:Int) (hh:HashOk h):∃ q r s:Int,n.tmod 1000003=q ∧ -1000002≤q∧q≤1000002∧(q+1000003).tmod 1000003=r∧0≤r∧r≤1000002∧(8191 * h+r+1).tmod 1000003=s∧hstepW h n=s∧0≤s∧s≤1000002:=by
 obtain ⟨h0,h1⟩:=hh
 have a1:=Int.tmod_lt_of_pos n (show (0:Int)<1000003 by decide)
 have a2 : -1000003<n.tmod 1000003:=by
  have h1:=Int.tmod_lt_of_pos (-n) (show (0:Int)<1000003 by decide)
  rw [Int.neg_tmod] at h1
  omega
 have b0:=Int.tmod_nonneg (a:=n.tmod 1000003+1000003) 1000003 (by omega)
 have b1:=Int.tmod_lt_of_pos (n.tmod 1000003+1000003) (show (0:Int)<1000003 by decide)
 have c0:=Int.tmod_nonneg (a:=8191 * h+(n.tmod 1000003+1000003).tmod 1000003+1) 1000003 (by omega)
 have c1:=Int.tmod_lt_of_pos (8191 * h+(n.tmod 1000003+1000003).tmod 1000003+1) (show (0:Int)<1000003 by decide)
 exact ⟨_,_,_,rfl,by omega,by omega,rfl,b0,by omega,rfl,rfl,c0,by omega⟩
theorem hstep_ok {h n:Int} (hh:HashOk h):HashOk (hstepW h n):=by
 obtain ⟨q,r,s,_,_,_,_,_,_,_,e,s0,s1⟩:=hstep_facts h n hh
 rw [e]
 exact ⟨s0,s1⟩
set_option maxHeartbeats 400000 in
theorem l4Step_any (h n:Int) (hh:HashOk h) (w:World):Calls Tryz.prog 134 #[.int .i64 h,.int .i64 n] w fun e w'=>e=.returned (.int .i64 (hstepW h n))∧w'=w:=by
 obtain ⟨q,r,s,e1,q0,q1,e2,r0,r1,e3,e4,s0,s1⟩:=hstep_facts h n hh
 have h0:=hh.1
 have h1:=hh.2
 rw [e4]
 clear e4
 go_enter Tryz.func134,Tryz.ntmps134
 go_wp2
 go_ret
 exact ⟨rfl,rfl⟩
def hashW (h:Int) (zs:List Int):Int:=zs.foldl hstepW h
theorem hashW_ok {h:Int} (hh:HashOk h) (zs:List Int):HashOk (hashW h zs):=by
 induction zs generalizing h with
 | nil=>exact hh
 | cons z r ih=>exact ih (hstep_ok hh)
theorem hashW_at (h:Int) (zs:List Int) (k:Nat) (z:Int) (hz:zs[k]?=some z):hstepW (hashW h (zs.take k)) z=hashW h (zs.take (k+1)):=by
 rw [List.take_add_one,hz]
 simp [hashW]
set_option maxHeartbeats 1000000 in
theorem l4Hash_any (h:Int) (A:Option Addr) (n c:Nat) (zs:List Int) (hh:HashOk h) (w:World) (hr:RdI .i64 w A n zs) (hn:n≤1099511627776) :
  Calls Tryz.prog 135 #[.int .i64 h,.slice A n c] w fun e w'=>e=.returned (.int .i64 (hashW h zs))∧w'=w:=by
 have HR:=Lib.hid hr
 have HH:=Lib.hid hh
 clear hr hh
 go_enter Tryz.func135,Tryz.ntmps135
 go_wp2_with fail
 go_loopw [0,5] (fun hv i wr=>∃ k:Nat,k≤n∧i=.int .i64 k∧hv=.int .i64 (hashW h (zs.take k))∧wr=w) (fun _ i _=>n - (intOf i).toNat)
 case atStart=>exact ⟨0,Nat.zero_le _,rfl,rfl,rfl⟩
 case round =>
  obtain ⟨k,hk,rfl,rfl,rfl⟩:=hrel
  by_cases hlt:k<n
  ·obtain ⟨b,off,z,hA,hb,hz,hc⟩:=HR.out.at_ hlt
   subst hA
   have HZ:=Lib.hid hz
   clear hz
   go_wp2_with fail
   refine (l4Step_any _ z (hashW_ok HH.out _) _).mono ?_
   rintro e w' ⟨rfl,rfl⟩
   rw [hashW_at _ _ _ _ HZ.out]
   go_wp2_with fail
   exact ⟨⟨k+1,by omega,by go_num,rfl,trivial⟩,by simp [intOf];omega⟩
  ·have hkn:zs.take k=zs:=List.take_of_length_le (by rw [HR.out.len];omega)
   rw [hkn]
   go_wp2
   go_ret
   exact ⟨rfl,rfl⟩
def tagW (key:Int) (zs:List Int):Int:=hstepW (hashW (hstepW 17 key) zs) key
theorem l4Tag_any (key:Int) (A:Option Addr) (n c:Nat) (zs:List Int) (w:World) (hr:RdI .i64 w A n zs) (hn:n≤1099511627776) :
  Calls Tryz.prog 60 #[.int .i64 key,.slice A n c] w fun e w'=>e=.returned (.int .i64 (tagW key zs))∧w'=w:=by
 have HR:=Lib.hid hr
 clear hr
 go_enter Tryz.func60,Tryz.ntmps60
 go_wp2_with fail
 refine (l4Step_any 17 key ⟨by decide,by decide⟩ _).mono ?_
 rintro e w' ⟨rfl,rfl⟩
 go_wp2_with fail
 refine (l4Hash_any _ A n c zs (hstep_ok ⟨by decide,by decide⟩) _ HR.out hn).mono ?_
 rintro e w' ⟨rfl,rfl⟩
 go_wp2_with fail
 refine (l4Step_any _ key (hashW_ok (hstep_ok ⟨by decide,by decide⟩) _) _).mono ?_
 rintro e w' ⟨rfl,rfl⟩
 go_wp2_with fail
 go_ret
 exact ⟨rfl,rfl⟩
def flagW (c:Car):Int:=(if c.dn then 1 else 0)+(if c.ov then 2 else 0)
def carHash (c:Car):Int:=hashW 17 [c.tick,c.ax,c.ay,c.fx,c.fy,c.turn,c.gate,flagW c]
set_option maxRecDepth 100000 in
set_option maxHeartbeats 2000000 in
theorem l13Hash_any (c:Car) (w:World):Calls Tryz.prog 133 #[carV c] w fun e w'=>e=.returned (.int .i64 (carHash c))∧Below w.heap.size w w':=by
 obtain ⟨tick,ax,ay,fx,fy,turn,gate,dn,ov⟩:=c
 rw [show carV ⟨tick,ax,ay,fx,fy,turn,gate,dn,ov⟩=.agg #[.int .i64 tick,.int .i64 ax,.int .i64 ay,.int .i64 fx,.int .i64 fy,.int .i64 turn,.int .i64 gate,.bool dn,.bool ov] from rfl]
 have hres:∀ f,flagW ⟨tick,ax,ay,fx,fy,turn,gate,dn,ov⟩=f→carHash ⟨tick,ax,ay,fx,fy,turn,gate,dn,ov⟩=hashW 17 [tick,ax,ay,fx,fy,turn,gate,f]:=fun f h=>by simp [carHash,h]
 cases dn <;> cases ov
 ·rw [hres 0 rfl]
  clear hres
  go_enter Tryz.func133,Tryz.ntmps133
  go_wp2_with fail
  refine (l4Hash_any 17 (some ⟨w.heap.size+1,0,none⟩) 8 8 [tick,ax,ay,fx,fy,turn,gate,0] ⟨by decide,by decide⟩ _ (RdI.blk (Blk.newAt _ _ _ _ (by simp))) (by decide)).mono ?_
  rintro e w' ⟨rfl,rfl⟩
  go_wp2_with fail
  go_ret
  exact ⟨rfl,by go_grown⟩
 ·rw [hres 2 rfl]
  clear hres
  go_enter Tryz.func133,Tryz.ntmps133
  go_wp2_with fail
  refine (l4Hash_any 17 (some ⟨w.heap.size+1,0,none⟩) 8 8 [tick,ax,ay,fx,fy,turn,gate,2] ⟨by decide,by decide⟩ _ (RdI.blk (Blk.newAt _ _ _ _ (by simp))) (by decide)).mono ?_
  rintro e w' ⟨rfl,rfl⟩
  go_wp2_with fail
  go_ret
  exact ⟨rfl,by go_grown⟩
 ·rw [hres 1 rfl]
  clear hres
  go_enter Tryz.func133,Tryz.ntmps133
  go_wp2_with fail
  refine (l4Hash_any 17 (some ⟨w.heap.size+1,0,none⟩) 8 8 [tick,ax,ay,fx,fy,turn,gate,1] ⟨by decide,by decide⟩ _ (RdI.blk (Blk.newAt _ _ _ _ (by simp))) (by decide)).mono ?_
  rintro e w' ⟨rfl,rfl⟩
  go_wp2_with fail
  go_ret
  exact ⟨rfl,by go_grown⟩
 ·rw [hres 3 rfl]
  clear hres
  go_enter Tryz.func133,Tryz.ntmps133
  go_wp2_with fail
  refine (l4Hash_any 17 (some ⟨w.heap.size+1,0,none⟩) 8 8 [tick,ax,ay,fx,fy,turn,gate,3] ⟨by decide,by decide⟩ _ (RdI.blk (Blk.newAt _ _ _ _ (by simp))) (by decide)).mono ?_
  rintro e w' ⟨rfl,rfl⟩
  go_wp2_with fail
  go_ret
  exact ⟨rfl,by go_grown⟩
end Go.Proofs.YtkgfmgajhgfgjaaGreatDoor

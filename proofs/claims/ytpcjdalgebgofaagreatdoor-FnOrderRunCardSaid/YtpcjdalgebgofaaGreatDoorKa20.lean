/-
  Lemmas and contracts: YVka. No condition.
-/
import Derived.Test.YtpcjdalgebgofaaGreatDoorKa19
set_option linter.unusedSimpArgs false
set_option linter.unusedVariables false
set_option linter.unusedSectionVars false
namespace Go.Proofs.YtpcjdalgebgofaaGreatDoorY
open Go.RowKit Go.Sort
set_option maxRecDepth 100000 in
set_option maxHeartbeats 4000000 in
theorem tick_w00 (l:Lvl) (ws gs:Sl) (c:Car) (x:Inp) (w:World) (hr:RdL w l ws gs) (hn:ws.n≤1048576) (ht0:0≤c.turn) (ht1:c.turn≤15) (hg0:0≤c.gate) (hs0 : -1≤x.s) (hs1:x.s≤1) (hfx:slow c.fx) (hfy:slow c.fy) (hw:∀ b ∈ l.walls,boxOk b=true) (hgs:∀ b ∈ l.gates,boxOk b=true) (hff:boxOk l.f=true)
  (hbx:freeW l.walls (wrap64 (c.ax+(fastW c.fx c.fy (turnW c x).toNat x.p).1)) c.ay=false) (hby:freeW l.walls c.ax (wrap64 (c.ay+(fastW c.fx c.fy (turnW c x).toNat x.p).2))=false) :
  Calls Qy.prog 119 #[.agg #[.int .i64 x.s,.int .i64 x.p],lvlV l ws gs,carV c] w fun e w'=>e=.returned (carV (driveW l (tickC c) x))∧Below w.heap.size w w':=by
 obtain ⟨hr1,hr2,⟨_,hn1⟩,_,hn2⟩:=hr
 have HR1:=Lib.hid hr1
 have HR2:=Lib.hid hr2
 have HL2:=Lib.hid hr2.len
 have HWS:=Lib.hid hw
 have HGS:=Lib.hid hgs
 have HFF:=Lib.hid hff
 have HSX:=Lib.hid hfx
 have HSY:=Lib.hid hfy
 clear hr1 hr2 hw hgs hff hfx hfy
 obtain ⟨d,hd,hd16⟩:∃ d:Nat,(c.turn+x.s+16) % 16=d∧d<16:=⟨((c.turn+x.s+16) % 16).toNat,by omega,by omega⟩
 have hq:(c.turn+x.s+16).tmod 16=d:=by rw [Int.tmod_eq_emod_of_nonneg (by omega)];exact hd
 have HM:=Lib.hid (show movedW l (tickC c) x=moveW l ⟨wrap64 (c.tick+1),c.ax,c.ay,(fastW c.fx c.fy d x.p).1,(fastW c.fx c.fy d x.p).2,d,c.gate,c.dn,c.ov⟩ by unfold movedW turnW;simp only [tickC];rw [hd];rfl)
 have HBX:=Lib.hid (show freeW l.walls (wrap64 (c.ax+(fastW c.fx c.fy d x.p).1)) c.ay=false by have:=hbx;unfold turnW at this;rw [hd] at this;exact this)
 have HBY:=Lib.hid (show freeW l.walls c.ax (wrap64 (c.ay+(fastW c.fx c.fy d x.p).2))=false by have:=hby;unfold turnW at this;rw [hd] at this;exact this)
 clear hd hbx hby
 rw [show carV c=.agg #[.int .i64 c.tick,.int .i64 c.ax,.int .i64 c.ay,.int .i64 c.fx,.int .i64 c.fy,.int .i64 c.turn,.int .i64 c.gate,.bool c.dn,.bool c.ov] from rfl]
 go_enter Qy.func119,Tryz.ntmps119
 go_upto_region 4 with (fail)
 refine into_world (fun W=>Below w.heap.size w W∧Blk W w.heap.size 173 #[.int .i64 x.s,.int .i64 x.p]∧Blk W (w.heap.size+1) 29 (lvlC l ws gs)∧Blk W (w.heap.size+1+1) 45 (carC ⟨wrap64 (c.tick+1),c.ax,c.ay,c.fx,c.fy,d,c.gate,c.dn,c.ov⟩)∧Blk W (w.heap.size+1+1+1) 45 car0∧Blk W (w.heap.size+1+1+1+1) 45 (carC c)) ⟨?_,?_,?_,?_,?_,?_⟩ ?_
 ·go_grown
 ·exact ((((Blk.new _ _ _).alloc _).alloc _).alloc _).alloc _
 ·exact (((Blk.newAt _ _ _ _ (by simp)).alloc _).alloc _).alloc _
 ·exact ((Blk.newAt _ _ _ _ (by simp)).alloc _).alloc _
 ·exact (Blk.newAt _ _ _ _ (by simp)).alloc _
 ·exact Blk.newAt _ _ _ _ (by simp)
 clear hq
 rintro W ⟨HB,KD,KL,KS,KR,KO⟩
 replace HB:=Lib.hid HB
 replace KD:=Lib.hid KD
 replace KL:=Lib.hid KL
 replace KS:=Lib.hid KS
 replace KR:=Lib.hid KR
 replace KO:=Lib.hid KO
 have cx:=fun o=>KD.out.cell o
 have fx:=fun o=>KD.out.frozen o
 have zx:=KD.out.lt
 have cs:=fun o=>KS.out.cell o
 have fs:=fun o=>KS.out.frozen o
 have zs:=KS.out.lt
 go_wp2_with fail
 refine (speed_any ⟨wrap64 (c.tick+1),c.ax,c.ay,c.fx,c.fy,d,c.gate,c.dn,c.ov⟩ x.s x.p d hd16 rfl HSX.out HSY.out _).mono ?_
 rintro e w1 ⟨rfl,hb⟩
 replace KL:=Lib.hid (KL.out.next hb)
 replace KS:=Lib.hid (KS.out.next hb)
 replace KR:=Lib.hid (KR.out.next hb)
 replace KO:=Lib.hid (KO.out.next hb)
 replace HB:=Lib.hid (below_next HB.out hb)
 clear cs fs zs cx fx zx hb KD
 have HSF:=Lib.hid (fastW_slow HSX.out HSY.out d x.p)
 generalize fastW c.fx c.fy d x.p=f at *
 obtain ⟨f1,f2⟩:=f
 have cs:=fun o=>KS.out.cell o
 have fs:=fun o=>KS.out.frozen o
 have zs:=KS.out.lt
 go_upto_region 6 with (fail)
 refine into_world (fun W=>Below w.heap.size w W∧w1.heap.size<W.heap.size∧Blk W (w.heap.size+1) 29 (lvlC l ws gs)∧Blk W (w.heap.size+1+1) 45 (carC ⟨wrap64 (c.tick+1),c.ax,c.ay,f1,f2,d,c.gate,c.dn,c.ov⟩)∧Blk W (w.heap.size+1+1+1) 45 car0∧Blk W (w.heap.size+1+1+1+1) 45 (carC c)∧Blk W w1.heap.size 24 #[.int .i64 (wrap64 (c.ax+f1)),.int .i64 c.ay]) ⟨?_,by simp,?_,?_,?_,?_,?_⟩ ?_
 ·have hb:=HB.out
  go_grown
 ·exact ((KL.out.far (by simp <;> omega) _).far (by simp <;> omega) _).alloc _
 ·exact ((KS.out.set_ 3 _).set_ 4 _).alloc _
 ·exact ((KR.out.far (by simp <;> omega) _).far (by simp <;> omega) _).alloc _
 ·exact ((KO.out.far (by simp <;> omega) _).far (by simp <;> omega) _).alloc _
 ·exact Blk.newAt _ _ _ _ (by simp)
 clear HB KL KS KR KO cs fs zs
 rintro W2 ⟨HB,hsz,KL,KS,KR,KO,KX⟩
 replace HB:=Lib.hid HB
 replace KL:=Lib.hid KL
 replace KS:=Lib.hid KS
 replace KR:=Lib.hid KR
 replace KO:=Lib.hid KO
 have cl:=fun o=>KL.out.cell o
 have fl:=fun o=>KL.out.frozen o
 have zl:=KL.out.lt
 replace KX:=Lib.hid KX
 have cx:=fun o=>KX.out.cell o
 have fx:=fun o=>KX.out.frozen o
 have zx:=KX.out.lt
 go_wp2_with fail
 refine (freeW_any l ws gs (wrap64 (c.ax+f1)) c.ay _ (HR1.out.below HB.out) hn HWS.out).mono ?_
 rintro e w2 ⟨rfl,hb⟩
 replace KL:=Lib.hid (KL.out.next hb)
 replace KS:=Lib.hid (KS.out.next hb)
 replace KR:=Lib.hid (KR.out.next hb)
 replace KO:=Lib.hid (KO.out.next hb)
 replace KX:=Lib.hid (KX.out.next hb)
 replace HB:=Lib.hid (below_next HB.out hb)
 clear cl fl zl cx fx zx hb
 rw [HBX.out]
 have hf:=HBX.out
 have HM1:=Lib.hid (show moveW l ⟨wrap64 (c.tick+1),c.ax,c.ay,f1,f2,d,c.gate,c.dn,c.ov⟩=moveY l ⟨wrap64 (c.tick+1),c.ax,c.ay,backW f1,f2,d,c.gate,c.dn,c.ov⟩ by simp [moveW,hf])
 clear hf KX
 have cs:=fun o=>KS.out.cell o
 have fs:=fun o=>KS.out.frozen o
 have zs:=KS.out.lt
 go_upto_region 10 with (fail)
 refine into_world (fun W=>Below w.heap.size w W∧w2.heap.size<W.heap.size∧Blk W (w.heap.size+1) 29 (lvlC l ws gs)∧Blk W (w.heap.size+1+1) 45 (carC ⟨wrap64 (c.tick+1),c.ax,c.ay,backW f1,f2,d,c.gate,c.dn,c.ov⟩)∧Blk W (w.heap.size+1+1+1) 45 car0∧Blk W (w.heap.size+1+1+1+1) 45 (carC c)∧Blk W w2.heap.size 24 #[.int .i64 (c.ax),.int .i64 (wrap64 (c.ay+f2))]) ⟨?_,by simp,?_,?_,?_,?_,?_⟩ ?_
 ·have hb:=HB.out
  go_grown
 ·exact ((KL.out.far (by simp <;> omega) _).alloc _)
 ·exact ((KS.out.set_ 3 _).alloc _)
 ·exact ((KR.out.far (by simp <;> omega) _).alloc _)
 ·exact ((KO.out.far (by simp <;> omega) _).alloc _)
 ·exact Blk.newAt _ _ _ _ (by simp)
 clear HB KL KS KR KO cs fs zs
 try clear KX cx fx zx
 rintro W3 ⟨HB,hsz2,KL,KS,KR,KO,KX⟩
 replace HB:=Lib.hid HB
 replace KL:=Lib.hid KL
 replace KS:=Lib.hid KS
 replace KR:=Lib.hid KR
 replace KO:=Lib.hid KO
 have cl:=fun o=>KL.out.cell o
 have fl:=fun o=>KL.out.frozen o
 have zl:=KL.out.lt
 replace KX:=Lib.hid KX
 have cx:=fun o=>KX.out.cell o
 have fx:=fun o=>KX.out.frozen o
 have zx:=KX.out.lt
 go_wp2_with fail
 refine (freeW_any l ws gs (c.ax) (wrap64 (c.ay+f2)) _ (HR1.out.below HB.out) hn HWS.out).mono ?_
 rintro e w3 ⟨rfl,hb⟩
 replace KL:=Lib.hid (KL.out.next hb)
 replace KS:=Lib.hid (KS.out.next hb)
 replace KR:=Lib.hid (KR.out.next hb)
 replace KO:=Lib.hid (KO.out.next hb)
 replace KX:=Lib.hid (KX.out.next hb)
 replace HB:=Lib.hid (below_next HB.out hb)
 clear cl fl zl cx fx zx hb
 rw [HBY.out]
 have hg:=HBY.out
 have HM2:=Lib.hid (show moveY l ⟨wrap64 (c.tick+1),c.ax,c.ay,backW f1,f2,d,c.gate,c.dn,c.ov⟩=⟨wrap64 (c.tick+1),c.ax,c.ay,backW f1,backW f2,d,c.gate,c.dn,c.ov⟩ by simp [moveY,hg])
 clear hg KX
 have cs:=fun o=>KS.out.cell o
 have fs:=fun o=>KS.out.frozen o
 have zs:=KS.out.lt
 go_upto_region 13 with (fail)
 refine into_world (fun W=>Below w.heap.size w W∧Blk W (w.heap.size+1) 29 (lvlC l ws gs)∧Blk W (w.heap.size+1+1) 45 (carC ⟨wrap64 (c.tick+1),c.ax,c.ay,backW f1,backW f2,d,c.gate,c.dn,c.ov⟩)∧Blk W (w.heap.size+1+1+1) 45 car0∧Blk W (w.heap.size+1+1+1+1) 45 (carC c)) ⟨?_,?_,?_,?_,?_⟩ ?_
 ·have hb:=HB.out
  go_grown
 ·exact (KL.out.far (by simp <;> omega) _)
 ·exact (KS.out.set_ 4 _)
 ·exact (KR.out.far (by simp <;> omega) _)
 ·exact (KO.out.far (by simp <;> omega) _)
 clear HB KL KS KR KO cs fs zs
 try clear KX cx fx zx
 rintro W4 ⟨HB,KL,KS,KR,KO⟩
 replace HB:=Lib.hid HB
 replace KL:=Lib.hid KL
 replace KS:=Lib.hid KS
 replace KR:=Lib.hid KR
 replace KO:=Lib.hid KO
 replace HM:=Lib.hid (HM.out.trans (HM1.out.trans HM2.out))
 clear HM1 HM2
 generalize hm:(⟨wrap64 (c.tick+1),c.ax,c.ay,backW f1,backW f2,d,c.gate,c.dn,c.ov⟩:Car)=m at *
 have HMG:=Lib.hid (show m.gate=c.gate by rw [← hm])
 clear hm hsz hsz2
 have cs:=fun o=>KS.out.cell o
 have fs:=fun o=>KS.out.frozen o
 have zs:=KS.out.lt
 go_wp2_with fail
 refine (implVecOk_any m.ax m.ay _).mono ?_
 rintro e w5 ⟨rfl,hb⟩
 replace KL:=Lib.hid (KL.out.next hb)
 replace KS:=Lib.hid (KS.out.next hb)
 replace KR:=Lib.hid (KR.out.next hb)
 replace KO:=Lib.hid (KO.out.next hb)
 replace HB:=Lib.hid (below_next HB.out hb)
 clear cs fs zs hb
 cases hv:vecOk m.ax m.ay
 ·have HV:=Lib.hid hv
  clear hv
  have co:=fun o=>KO.out.cell o
  have fo:=fun o=>KO.out.frozen o
  have zo:=KO.out.lt
  have cr:=fun o=>KR.out.cell o
  have fr:=fun o=>KR.out.frozen o
  have zr:=KR.out.lt
  go_wp2_with fail
  refine bodyPost_ret (v:=carV (⟨wrap64 (c.tick+1),c.ax,c.ay,c.fx,c.fy,c.turn,c.gate,c.dn,true⟩:Car)) (by simp [results,Tryz.results119,go_sem,cr,carV]) rfl ⟨?_,?_⟩
  ·simp [driveW,HM.out,HV.out,tickC]
  ·have hb:=HB.out
   go_grown
 ·have HV:=Lib.hid (show driveW l (tickC c) x=endW l m by unfold driveW;rw [HM.out,hv];rfl)
  clear hv HM KO
  have hzl:=HL2.out
  have hgn0:0≤m.gate:=by have:=HMG.out;omega
  have cs:=fun o=>KS.out.cell o
  have fs:=fun o=>KS.out.frozen o
  have zs:=KS.out.lt
  have cl:=fun o=>KL.out.cell o
  have fl:=fun o=>KL.out.frozen o
  have zl:=KL.out.lt
  have co6:w5.cell? ⟨w.heap.size+1+1,6,none⟩=some (.int .i64 m.gate):=cs 6
  have co1:w5.cell? ⟨w.heap.size+1+1,1,none⟩=some (.int .i64 m.ax):=cs 1
  have co2:w5.cell? ⟨w.heap.size+1+1,2,none⟩=some (.int .i64 m.ay):=cs 2
  have cl5:w5.cell? ⟨w.heap.size+1,5,none⟩=some (.slice gs.a gs.n gs.c):=cl 5
  by_cases hlt:m.gate<(gs.n:Int)
  ·obtain ⟨G,hG⟩:=Int.eq_ofNat_of_zero_le hgn0
   obtain ⟨b,off,z,hA,hbb,hx,h0,h1,h2,h3⟩:=RdB.cells (HR2.out.below HB.out) (k:=G) (by omega)
   have HZ:=Lib.hid (HGS.out z (List.mem_of_getElem? hx))
   rw [hA] at cl5
   rw [hG] at co6 hlt
   have hc6:=fun d os=>cell_regrown co6 d os
   have hc1:=fun d os=>cell_regrown co1 d os
   have hc2:=fun d os=>cell_regrown co2 d os
   have hc5:=fun d os=>cell_regrown cl5 d os
   have h0':=fun d os=>cell_regrown h0 d os
   have h1':=fun d os=>cell_regrown h1 d os
   have h2':=fun d os=>cell_regrown h2 d os
   have h3':=fun d os=>cell_regrown h3 d os
   have HX:=Lib.hid hx
   clear cs cl co6 co1 co2 cl5 h0 h1 h2 h3 hx
   go_wp2_with fail
   refine wp_region_qb (by kernel_rfl) (by kernel_rfl) ?_
   repeat (go_big_quiet_step ((go_at_call 143;exact Calls.regrown_of (has_any _ _ _ HZ.out _))))
   refine wpQuiet_nil ?_
   intro w6 hb
   replace KL:=Lib.hid (KL.out.next hb)
   replace KR:=Lib.hid (KR.out.next hb)
   replace KS:=Lib.hid (KS.out.next hb)
   replace HB:=Lib.hid (below_next HB.out hb)
   clear hc6 hc1 hc2 hc5 h0' h1' h2' h3' hb
   cases hh:hasB z m.ax m.ay
   ·have HGW:=Lib.hid (show gateW l m=m.gate by simp [gateW,hG,HX.out,hh])
    clear hh
    simp only [carC,hG] at KS
    rw [hG] at HGW
    have cs:=fun o=>KS.out.cell o
    have fs:=fun o=>KS.out.frozen o
    have zs:=KS.out.lt
    have cl:=fun o=>KL.out.cell o
    have fl:=fun o=>KL.out.frozen o
    have zl:=KL.out.lt
    go_upto_region 19 with (fail)
    by_cases heq:(G:Int)=(gs.n:Int)
    ·have HE:=Lib.hid (show endW l m=⟨m.tick,m.ax,m.ay,m.fx,m.fy,m.turn,(G:Int),hasB l.f m.ax m.ay,m.ov⟩ by simp [endW,HGW.out,HL2.out,heq])
     have heq':((G:Int) == (gs.n:Int))=true:=by simpa using heq
     clear heq
     go_wp2_with fail
     refine (has_any l.f m.ax m.ay HFF.out _).mono ?_
     rintro e w6 ⟨rfl,hb⟩
     replace KR:=Lib.hid (KR.out.next hb)
     replace KS:=Lib.hid (KS.out.next hb)
     replace HB:=Lib.hid (below_next HB.out hb)
     clear cs fs zs cl fl zl hb
     generalize hasB l.f m.ax m.ay=fin at *
     have cs:=fun o=>KS.out.cell o
     have fs:=fun o=>KS.out.frozen o
     have zs:=KS.out.lt
     have cr:=fun o=>KR.out.cell o
     have fr:=fun o=>KR.out.frozen o
     have zr:=KR.out.lt
     go_wp2_with fail
     refine bodyPost_ret (v:=carV (⟨m.tick,m.ax,m.ay,m.fx,m.fy,m.turn,(G:Int),fin,m.ov⟩:Car)) (by simp [results,Tryz.results119,go_sem,cr,carV]) rfl ⟨?_,?_⟩
     ·rw [HV.out,HE.out]
     ·have hb:=HB.out
      go_grown
    ·have HE:=Lib.hid (show endW l m=⟨m.tick,m.ax,m.ay,m.fx,m.fy,m.turn,(G:Int),false,m.ov⟩ by simp [endW,HGW.out,HL2.out,heq])
     have heq':((G:Int) == (gs.n:Int))=false:=by simpa using heq
     clear heq
     have cr:=fun o=>KR.out.cell o
     have fr:=fun o=>KR.out.frozen o
     have zr:=KR.out.lt
     go_wp2_with fail
     refine bodyPost_ret (v:=carV (⟨m.tick,m.ax,m.ay,m.fx,m.fy,m.turn,(G:Int),false,m.ov⟩:Car)) (by simp [results,Tryz.results119,go_sem,cr,carV]) rfl ⟨?_,?_⟩
     ·rw [HV.out,HE.out]
     ·have hb:=HB.out
      go_grown
   ·have HGW:=Lib.hid (show gateW l m=m.gate+1 by simp [gateW,hG,HX.out,hh,HL2.out];omega)
    clear hh
    simp only [carC,hG] at KS
    rw [hG] at HGW
    have cs:=fun o=>KS.out.cell o
    have fs:=fun o=>KS.out.frozen o
    have zs:=KS.out.lt
    go_upto_region 19 with (fail)
    refine into_world (fun W=>Below w.heap.size w W∧Blk W (w.heap.size+1) 29 (lvlC l ws gs)∧Blk W (w.heap.size+1+1+1) 45 car0∧Blk W (w.heap.size+1+1) 45 (carC ⟨m.tick,m.ax,m.ay,m.fx,m.fy,m.turn,(G:Int)+1,m.dn,m.ov⟩)) ⟨?_,?_,?_,?_⟩ ?_
    ·have hb:=HB.out
     go_grown
    ·exact KL.out.far (by simp <;> omega) _
    ·exact KR.out.far (by simp <;> omega) _
    ·exact KS.out.set_ 6 _
    clear HB KL KR KS cs fs zs
    rintro W7 ⟨HB,KL,KR,KS⟩
    replace HB:=Lib.hid HB
    replace KL:=Lib.hid KL
    replace KR:=Lib.hid KR
    replace KS:=Lib.hid KS
    have cs:=fun o=>KS.out.cell o
    have fs:=fun o=>KS.out.frozen o
    have zs:=KS.out.lt
    have cl:=fun o=>KL.out.cell o
    have fl:=fun o=>KL.out.frozen o
    have zl:=KL.out.lt
    by_cases heq:((G:Int)+1)=(gs.n:Int)
    ·have HE:=Lib.hid (show endW l m=⟨m.tick,m.ax,m.ay,m.fx,m.fy,m.turn,((G:Int)+1),hasB l.f m.ax m.ay,m.ov⟩ by simp [endW,HGW.out,HL2.out,heq])
     have heq':(((G:Int)+1) == (gs.n:Int))=true:=by simpa using heq
     clear heq
     go_wp2_with fail
     refine (has_any l.f m.ax m.ay HFF.out _).mono ?_
     rintro e w6 ⟨rfl,hb⟩
     replace KR:=Lib.hid (KR.out.next hb)
     replace KS:=Lib.hid (KS.out.next hb)
     replace HB:=Lib.hid (below_next HB.out hb)
     clear cs fs zs cl fl zl hb
     generalize hasB l.f m.ax m.ay=fin at *
     have cs:=fun o=>KS.out.cell o
     have fs:=fun o=>KS.out.frozen o
     have zs:=KS.out.lt
     have cr:=fun o=>KR.out.cell o
     have fr:=fun o=>KR.out.frozen o
     have zr:=KR.out.lt
     go_wp2_with fail
     refine bodyPost_ret (v:=carV (⟨m.tick,m.ax,m.ay,m.fx,m.fy,m.turn,((G:Int)+1),fin,m.ov⟩:Car)) (by simp [results,Tryz.results119,go_sem,cr,carV]) rfl ⟨?_,?_⟩
     ·rw [HV.out,HE.out]
     ·have hb:=HB.out
      go_grown
    ·have HE:=Lib.hid (show endW l m=⟨m.tick,m.ax,m.ay,m.fx,m.fy,m.turn,((G:Int)+1),false,m.ov⟩ by simp [endW,HGW.out,HL2.out,heq])
     have heq':(((G:Int)+1) == (gs.n:Int))=false:=by simpa using heq
     clear heq
     have cr:=fun o=>KR.out.cell o
     have fr:=fun o=>KR.out.frozen o
     have zr:=KR.out.lt
     go_wp2_with fail
     refine bodyPost_ret (v:=carV (⟨m.tick,m.ax,m.ay,m.fx,m.fy,m.turn,((G:Int)+1),false,m.ov⟩:Car)) (by simp [results,Tryz.results119,go_sem,cr,carV]) rfl ⟨?_,?_⟩
     ·rw [HV.out,HE.out]
     ·have hb:=HB.out
      go_grown
  ·have HGW:=Lib.hid (show gateW l m=m.gate by simp [gateW,HL2.out,hlt])
   have hlt':decide (m.gate<(gs.n:Int))=false:=by simpa using hlt
   have hc6:=fun d os=>cell_regrown co6 d os
   have hc5:=fun d os=>cell_regrown cl5 d os
   clear cs cl co6 co1 co2 cl5
   go_wp2_with fail
   refine wp_region_qb (by kernel_rfl) (by kernel_rfl) ?_
   repeat (go_big_quiet_step ((fail)))
   refine wpQuiet_nil ?_
   intro w6 hb
   replace KL:=Lib.hid (KL.out.next hb)
   replace KR:=Lib.hid (KR.out.next hb)
   replace KS:=Lib.hid (KS.out.next hb)
   replace HB:=Lib.hid (below_next HB.out hb)
   clear hc6 hc5 hb
   have cs:=fun o=>KS.out.cell o
   have fs:=fun o=>KS.out.frozen o
   have zs:=KS.out.lt
   have cl:=fun o=>KL.out.cell o
   have fl:=fun o=>KL.out.frozen o
   have zl:=KL.out.lt
   go_upto_region 19 with (fail)
   by_cases heq:m.gate=(gs.n:Int)
   ·have HE:=Lib.hid (show endW l m=⟨m.tick,m.ax,m.ay,m.fx,m.fy,m.turn,m.gate,hasB l.f m.ax m.ay,m.ov⟩ by simp [endW,HGW.out,HL2.out,heq])
    have heq':(m.gate == (gs.n:Int))=true:=by simpa using heq
    clear heq
    go_wp2_with fail
    refine (has_any l.f m.ax m.ay HFF.out _).mono ?_
    rintro e w6 ⟨rfl,hb⟩
    replace KR:=Lib.hid (KR.out.next hb)
    replace KS:=Lib.hid (KS.out.next hb)
    replace HB:=Lib.hid (below_next HB.out hb)
    clear cs fs zs cl fl zl hb
    generalize hasB l.f m.ax m.ay=fin at *
    have cs:=fun o=>KS.out.cell o
    have fs:=fun o=>KS.out.frozen o
    have zs:=KS.out.lt
    have cr:=fun o=>KR.out.cell o
    have fr:=fun o=>KR.out.frozen o
    have zr:=KR.out.lt
    go_wp2_with fail
    refine bodyPost_ret (v:=carV (⟨m.tick,m.ax,m.ay,m.fx,m.fy,m.turn,m.gate,fin,m.ov⟩:Car)) (by simp [results,Tryz.results119,go_sem,cr,carV]) rfl ⟨?_,?_⟩
    ·rw [HV.out,HE.out]
    ·have hb:=HB.out
     go_grown
   ·have HE:=Lib.hid (show endW l m=⟨m.tick,m.ax,m.ay,m.fx,m.fy,m.turn,m.gate,false,m.ov⟩ by simp [endW,HGW.out,HL2.out,heq])
    have heq':(m.gate == (gs.n:Int))=false:=by simpa using heq
    clear heq
    have cr:=fun o=>KR.out.cell o
    have fr:=fun o=>KR.out.frozen o
    have zr:=KR.out.lt
    go_wp2_with fail
    refine bodyPost_ret (v:=carV (⟨m.tick,m.ax,m.ay,m.fx,m.fy,m.turn,m.gate,false,m.ov⟩:Car)) (by simp [results,Tryz.results119,go_sem,cr,carV]) rfl ⟨?_,?_⟩
    ·rw [HV.out,HE.out]
    ·have hb:=HB.out
     go_grown
end Go.Proofs.YtpcjdalgebgofaaGreatDoorY

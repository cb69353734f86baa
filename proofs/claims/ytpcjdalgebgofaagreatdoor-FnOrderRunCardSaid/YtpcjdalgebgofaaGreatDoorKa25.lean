/-
  Lemmas and contracts: YVl YWc. No condition.
-/
import Derived.Conc.LoneCalls
import Derived.Test.YtpcjdalgebgofaaGreatDoorKa11
import Derived.Test.YtpcjdalgebgofaaGreatDoorKa24
set_option linter.unusedSimpArgs false
set_option linter.unusedVariables false
set_option linter.unusedSectionVars false
namespace Go.Proofs.YtpcjdalgebgofaaGreatDoorY
open Go.RowKit Go.Sort
set_option maxRecDepth 100000 in
set_option maxHeartbeats 2000000 in
theorem pause_any (l:Lvl) (ws gs:Sl) (c:Car) (w:World) :
  Calls Qy.prog 118 #[.agg #[],lvlV l ws gs,carV c] w fun e w'=>e=.returned (carV ⟨wrap64 (c.tick+1),c.ax,c.ay,c.fx,c.fy,c.turn,c.gate,c.dn,c.ov⟩)∧Below w.heap.size w w':=by
 rw [show carV c=.agg #[.int .i64 c.tick,.int .i64 c.ax,.int .i64 c.ay,.int .i64 c.fx,.int .i64 c.fy,.int .i64 c.turn,.int .i64 c.gate,.bool c.dn,.bool c.ov] from rfl]
 go_enter Qy.func118,Tryz.ntmps118
 go_upto_region 1 with (fail)
 refine into_world (fun W=>Below w.heap.size w W∧Blk W (w.heap.size+1+1) 45 (carC c)∧Blk W (w.heap.size+1+1+1) 45 car0) ⟨?_,?_,?_⟩ ?_
 ·go_grown
 ·exact (Blk.newAt _ _ _ _ (by simp)).alloc _
 ·exact Blk.newAt _ _ _ _ (by simp)
 rintro W ⟨HB,KS,KR⟩
 replace HB:=Lib.hid HB
 replace KS:=Lib.hid KS
 replace KR:=Lib.hid KR
 have cs:=fun o=>KS.out.cell o
 have fs:=fun o=>KS.out.frozen o
 have zs:=KS.out.lt
 have cr:=fun o=>KR.out.cell o
 have fr:=fun o=>KR.out.frozen o
 have zr:=KR.out.lt
 go_wp2_with fail
 refine bodyPost_ret (v:=carV ⟨wrap64 (c.tick+1),c.ax,c.ay,c.fx,c.fy,c.turn,c.gate,c.dn,c.ov⟩) (by simp [results,Tryz.results118,go_sem,cr,carV]) rfl ⟨rfl,?_⟩
 have hb:=HB.out
 go_grown
abbrev ctlV (x:Inp):Value:=if x.z then .iface 170 (.agg #[]) else .iface 173 (.agg #[.int .i64 x.s,.int .i64 x.p])
set_option maxRecDepth 100000 in
set_option maxHeartbeats 2000000 in
theorem controlOf_any (x:Inp) (w:World):Calls Qy.prog 117 #[inV x] w fun e w'=>e=.returned (ctlV x)∧Below w.heap.size w w':=by
 obtain ⟨xs,xp,xz⟩:=x
 cases xz
 all_goals
  go_enter Qy.func117,Tryz.ntmps117
  go_wp2_with fail
  go_ret
  exact ⟨rfl,by go_grown⟩
@[go_sem] theorem asP_P (v:Value) (W:World):(Instr.typeAssert (.iface 170 v) 168 170 true).run Qy.prog W=.ok (.tuple #[v,.bool true]) W:=by kernel_rfl
@[go_sem] theorem asD_P (v:Value) (W:World):(Instr.typeAssert (.iface 173 v) 168 170 true).run Qy.prog W=.ok (.tuple #[.agg #[],.bool false]) W:=by kernel_rfl
@[go_sem] theorem asD_D (v:Value) (W:World):(Instr.typeAssert (.iface 173 v) 168 173 true).run Qy.prog W=.ok (.tuple #[v,.bool true]) W:=by kernel_rfl
set_option maxRecDepth 100000 in
set_option maxHeartbeats 4000000 in
theorem after_any (l:Lvl) (ws gs:Sl) (c:Car) (x:Inp) (w:World) (hr:RdL w l ws gs) (hn:ws.n≤1048576) (hc:CarIn c) (hs0 : -1≤x.s) (hs1:x.s≤1) (hw:∀ b ∈ l.walls,boxOk b=true) (hgs:∀ b ∈ l.gates,boxOk b=true) (hff:boxOk l.f=true) :
  Calls Qy.prog 93 #[lvlV l ws gs,carV c,inV x] w fun e w'=>e=.returned (carV (stepW l c x))∧Below w.heap.size w w':=by
 have HR:=Lib.hid hr
 have HC:=Lib.hid hc
 have HWS:=Lib.hid hw
 have HGS:=Lib.hid hgs
 have HFF:=Lib.hid hff
 clear hr hc hw hgs hff
 obtain ⟨xs,xp,xz⟩:=x
 simp only at hs0 hs1
 rw [show carV c=.agg #[.int .i64 c.tick,.int .i64 c.ax,.int .i64 c.ay,.int .i64 c.fx,.int .i64 c.fy,.int .i64 c.turn,.int .i64 c.gate,.bool c.dn,.bool c.ov] from rfl]
 go_enter Qy.func93,Tryz.ntmps93
 go_upto_region 1 with (fail)
 refine into_world (fun W=>Below w.heap.size w W∧Blk W w.heap.size 29 (lvlC l ws gs)∧Blk W (w.heap.size+1) 45 (carC c)∧Blk W (w.heap.size+1+1) 74 #[.int .i64 xs,.int .i64 xp,.bool xz]∧Blk W (w.heap.size+1+1+1) 45 car0) ⟨?_,?_,?_,?_,?_⟩ ?_
 ·go_grown
 ·exact (((Blk.new _ _ _).alloc _).alloc _).alloc _
 ·exact ((Blk.newAt _ _ _ _ (by simp)).alloc _).alloc _
 ·exact (Blk.newAt _ _ _ _ (by simp)).alloc _
 ·exact Blk.newAt _ _ _ _ (by simp)
 rintro W ⟨HB,KL,KS,KX,KR⟩
 replace HB:=Lib.hid HB
 replace KL:=Lib.hid KL
 replace KS:=Lib.hid KS
 replace KX:=Lib.hid KX
 replace KR:=Lib.hid KR
 cases hd:c.dn
 rotate_left
 ·have HD:=Lib.hid hd
  simp only [carC,hd] at KS
  clear hd
  have cs:=fun o=>KS.out.cell o
  have fs:=fun o=>KS.out.frozen o
  have zs:=KS.out.lt
  have cr:=fun o=>KR.out.cell o
  have fr:=fun o=>KR.out.frozen o
  have zr:=KR.out.lt
  go_wp2_with fail
  refine bodyPost_ret (v:=carV (⟨c.tick,c.ax,c.ay,c.fx,c.fy,c.turn,c.gate,true,c.ov⟩:Car)) (by simp [results,Tryz.results93,go_sem,cr,carV]) rfl ⟨?_,?_⟩
  ·simp [stepW,HD.out,carV]
  ·have hb:=HB.out
   go_grown
 cases ho:c.ov
 rotate_left
 ·have HD:=Lib.hid hd
  have HO:=Lib.hid ho
  simp only [carC,hd,ho] at KS
  clear hd ho
  have cs:=fun o=>KS.out.cell o
  have fs:=fun o=>KS.out.frozen o
  have zs:=KS.out.lt
  have cr:=fun o=>KR.out.cell o
  have fr:=fun o=>KR.out.frozen o
  have zr:=KR.out.lt
  go_wp2_with fail
  refine bodyPost_ret (v:=carV (⟨c.tick,c.ax,c.ay,c.fx,c.fy,c.turn,c.gate,false,true⟩:Car)) (by simp [results,Tryz.results93,go_sem,cr,carV]) rfl ⟨?_,?_⟩
  ·simp [stepW,HD.out,HO.out,carV]
  ·have hb:=HB.out
   go_grown
 have HD:=Lib.hid hd
 have HO:=Lib.hid ho
 simp only [carC,hd,ho] at KS
 clear hd ho
 have cs:=fun o=>KS.out.cell o
 have fs:=fun o=>KS.out.frozen o
 have zs:=KS.out.lt
 have cx:=fun o=>KX.out.cell o
 have fx:=fun o=>KX.out.frozen o
 have zx:=KX.out.lt
 go_wp2_with fail
 refine (controlOf_any ⟨xs,xp,xz⟩ _).mono ?_
 rintro e w1 ⟨rfl,hb⟩
 replace KL:=Lib.hid (KL.out.next hb)
 replace KS:=Lib.hid (KS.out.next hb)
 replace KR:=Lib.hid (KR.out.next hb)
 replace HB:=Lib.hid (below_next HB.out hb)
 clear hb cs fs zs cx fx zx KX
 cases xz
 rotate_left
 ·simp only [ctlV,if_true]
  have cs:=fun o=>KS.out.cell o
  have fs:=fun o=>KS.out.frozen o
  have zs:=KS.out.lt
  have cl:=fun o=>KL.out.cell o
  have fl:=fun o=>KL.out.frozen o
  have zl:=KL.out.lt
  go_wp2_with fail
  refine (pause_any l ws gs ⟨c.tick,c.ax,c.ay,c.fx,c.fy,c.turn,c.gate,false,false⟩ _).mono ?_
  rintro e w2 ⟨rfl,hb⟩
  replace hb:=ba hb
  replace KR:=Lib.hid (KR.out.next hb)
  replace HB:=Lib.hid (below_next HB.out hb)
  clear hb cs fs zs cl fl zl
  rw [show carV ⟨wrap64 (c.tick+1),c.ax,c.ay,c.fx,c.fy,c.turn,c.gate,false,false⟩=.agg #[.int .i64 (wrap64 (c.tick+1)),.int .i64 c.ax,.int .i64 c.ay,.int .i64 c.fx,.int .i64 c.fy,.int .i64 c.turn,.int .i64 c.gate,.bool false,.bool false] from rfl]
  have cr:=fun o=>KR.out.cell o
  have fr:=fun o=>KR.out.frozen o
  have zr:=KR.out.lt
  go_wp2_with fail
  refine bodyPost_ret (v:=carV (⟨wrap64 (c.tick+1),c.ax,c.ay,c.fx,c.fy,c.turn,c.gate,false,false⟩:Car)) (by simp [results,Tryz.results93,go_sem,cr,carV]) rfl ⟨?_,?_⟩
  ·simp [stepW,HD.out,HO.out]
  ·have hb:=HB.out
   go_grown
 simp only [ctlV,if_false,Bool.false_eq_true]
 have cs:=fun o=>KS.out.cell o
 have fs:=fun o=>KS.out.frozen o
 have zs:=KS.out.lt
 have cl:=fun o=>KL.out.cell o
 have fl:=fun o=>KL.out.frozen o
 have zl:=KL.out.lt
 go_wp2_with fail
 refine (tick_any l ws gs ⟨c.tick,c.ax,c.ay,c.fx,c.fy,c.turn,c.gate,false,false⟩ ⟨xs,xp,false⟩ _ ((HR.out.below HB.out).below (ba (Below.refl _ _))) hn HC.out.t0 HC.out.t1 HC.out.g0 hs0 hs1 HC.out.fx HC.out.fy HWS.out HGS.out HFF.out).mono ?_
 rintro e w2 ⟨rfl,hb⟩
 replace hb:=ba hb
 replace KR:=Lib.hid (KR.out.next hb)
 replace HB:=Lib.hid (below_next HB.out hb)
 clear hb cs fs zs cl fl zl
 have HS:=Lib.hid (show stepW l c ⟨xs,xp,false⟩=driveW l (tickC ⟨c.tick,c.ax,c.ay,c.fx,c.fy,c.turn,c.gate,false,false⟩) ⟨xs,xp,false⟩ by simp [stepW,HD.out,HO.out])
 generalize driveW l (tickC ⟨c.tick,c.ax,c.ay,c.fx,c.fy,c.turn,c.gate,false,false⟩) ⟨xs,xp,false⟩=m at *
 rw [show carV m=.agg #[.int .i64 m.tick,.int .i64 m.ax,.int .i64 m.ay,.int .i64 m.fx,.int .i64 m.fy,.int .i64 m.turn,.int .i64 m.gate,.bool m.dn,.bool m.ov] from rfl]
 have cr:=fun o=>KR.out.cell o
 have fr:=fun o=>KR.out.frozen o
 have zr:=KR.out.lt
 go_wp2_with fail
 refine bodyPost_ret (v:=carV m) (by simp [results,Tryz.results93,go_sem,cr,carV]) rfl ⟨?_,?_⟩
 ·rw [HS.out]
 ·have hb:=HB.out
  go_grown
theorem stepW_in (l:Lvl) (c:Car) (x:Inp) (h:CarIn c):CarIn (stepW l c x):=by
 unfold stepW
 split
 ·exact h
 ·split
  ·exact ⟨h.fx,h.fy,h.t0,h.t1,h.g0⟩
  ·exact driveW_in l _ x ⟨h.fx,h.fy,h.t0,h.t1,h.g0⟩
end Go.Proofs.YtpcjdalgebgofaaGreatDoorY
namespace Go.Proofs.YtpcjdalgebgofaaGreatDoorY
open Go Go.RowKit Go.Conc
def SemOps (P:Program) (ops:Array Oper) (Q:Exit→Act→World→Prop) (l:List Nat) (a:Act) (w:World):Prop :=
 ∀ (b:Frame) (k:List Item) (cs:List Frame),∃ e a' w',Q e a' w'∧Arrives P (lone (b.at a (.inRegion ops l :: k)) cs w) b k cs e a' w'
def valOnly (K:Value→World→Prop):Result Next→Prop
 | .ok (.value v) w'=>K v w'
 | _=>False
@[go_sem] theorem valOnly_ok (K:Value→World→Prop) (v:Value) (w:World):valOnly K (.ok (.value v) w)=K v w:=rfl
section
variable {P:Program} {ops:Array Oper} {Q:Exit→Act→World→Prop} {a:Act} {w:World} {i:Nat} {rest:List Nat} {o:Oper}
theorem wp_sem {id:Nat} (h:SemOps P ops Q (List.range ops.size) a w):(Code.region id ops false).wp P Q a w :=
 fun b k cs=>let ⟨e,a',w',q,r⟩:=h b k cs;⟨e,a',w',q,.of_steps (.one step_region) r⟩
theorem sem_ops (h:wpOps P ops Q rest a w):SemOps P ops Q rest a w:=fun b k cs=>wp_ops rest a w h b k cs
theorem sem_nil (h:Q .normal a w):SemOps P ops Q [] a w:=sem_ops h
theorem finish_next (ho:ops[i]?=some o) (b:Frame) (k:List Item) (v:Value):(b.at a (.inRegion ops (i :: rest) :: k)).finish v=b.at (a.put o.dst v) (.inRegion ops rest :: k):=by
 rw [Frame.finish_at,ho];rfl
theorem sem_val (ho:ops[i]?=some o) (hw:Region.wanted o (yielded ops a.tmps)=true)
  (h:∀ K:Value→World→Prop,(∀ v w',SemOps P ops Q rest (a.put o.dst v) w'→K v w')→valOnly K ((execOp a.eval o).run P w)):SemOps P ops Q (i :: rest) a w:=by
 intro b k cs
 have h:=h _ (fun _ _ h=>h)
 cases hr:(execOp a.eval o).run P w with
 | halt x w'=>rw [hr] at h;exact h.elim
 | ok x w' =>
  rw [hr] at h
  cases x with
  | value v =>
   obtain ⟨e,a',w'',hq,harr⟩:=h b k cs
   refine ⟨e,a',w'',hq,.of_steps (.one (step_lone_go ?_)) harr⟩
   rw [stepG_op ho hw,← finish_next ho]
   simp [stepG.apply,hr]
  | _=>exact h.elim
theorem stepG_comm {cases:Array CommCase} {blocking:Bool} {shape:CommShape} (ho:ops[i]?=some o) (hw:Region.wanted o (yielded ops a.tmps)=true) (hr:(execOp a.eval o).run P w=.ok (.comm cases blocking shape) w) (b:Frame) (k:List Item) (cs:List Frame) :
  ∃ es,stepG P true (G (b.at a (.inRegion ops (i :: rest) :: k)) cs) w=.comm (G (b.at a (.inRegion ops (i :: rest) :: k)) cs) cases blocking shape w es:=by
 have hg:=stepG_op (P:=P) (b:=b) (k:=k) (cs:=cs) (w:=w) (rest:=rest) ho hw
 rw [show G (b.at a (.inRegion ops (i :: rest) :: k)) cs={ frame:=b.at a (.inRegion ops (i :: rest) :: k),callers:=cs,status:=.running,dying:=none } from rfl,hg]
 simp only [stepG.apply,Sem.runT_eq,hr]
 exact ⟨_,rfl⟩
section
variable {c cap s r:Nat} {buf:Array Value} {z v:Value} {tm:Bool}
theorem sem_send (ho:ops[i]?=some o) (hw:Region.wanted o (yielded ops a.tmps)=true) (hr:(execOp a.eval o).run P w=.ok (.comm #[scase c v z] true .send) w) (hc:w.heap[c]?=some (.chan cap buf false s r tm)) (hroom:buf.size<cap)
  (h:SemOps P ops Q rest (a.put o.dst undef) (w.setChan c cap (buf.push v) false (s+1) r tm)):SemOps P ops Q (i :: rest) a w:=by
 intro b k cs
 obtain ⟨e,a',w',q,harr⟩:=h b k cs
 obtain ⟨es,hes⟩:=stepG_comm (rest:=rest) ho hw hr b k cs
 have hs:=step_lone_send_room hes hc hroom
 rw [finish_next ho] at hs
 exact ⟨e,a',w',q,.of_steps (.one hs) harr⟩
theorem sem_recv {closed:Bool} (ok:Bool) (ho:ops[i]?=some o) (hw:Region.wanted o (yielded ops a.tmps)=true) (hr:(execOp a.eval o).run P w=.ok (.comm #[rcase c z] true (.recv ok)) w) (hc:w.heap[c]?=some (.chan cap buf closed s r tm)) (hsome:0<buf.size)
  (h:SemOps P ops Q rest (a.put o.dst (got ok (buf.getD 0 undef) true)) (w.setChan c cap (buf.extract 1 buf.size) closed s (r+1) tm)):SemOps P ops Q (i :: rest) a w:=by
 intro b k cs
 obtain ⟨e,a',w',q,harr⟩:=h b k cs
 obtain ⟨es,hes⟩:=stepG_comm (rest:=rest) ho hw hr b k cs
 have hs:=step_lone_recv_buf ok hes hc hsome
 rw [finish_next ho] at hs
 exact ⟨e,a',w',q,.of_steps (.one hs) harr⟩
theorem sem_shut (ok:Bool) (ho:ops[i]?=some o) (hw:Region.wanted o (yielded ops a.tmps)=true) (hr:(execOp a.eval o).run P w=.ok (.comm #[rcase c z] true (.recv ok)) w) (hc:w.heap[c]?=some (.chan cap #[] true s r tm))
  (h:SemOps P ops Q rest (a.put o.dst (got ok z false)) w):SemOps P ops Q (i :: rest) a w:=by
 intro b k cs
 obtain ⟨e,a',w',q,harr⟩:=h b k cs
 obtain ⟨es,hes⟩:=stepG_comm (rest:=rest) ho hw hr b k cs
 have hs:=step_lone_recv_shut ok hes hc
 rw [finish_next ho] at hs
 exact ⟨e,a',w',q,.of_steps (.one hs) harr⟩
end
end
end Go.Proofs.YtpcjdalgebgofaaGreatDoorY

/-
  Lemmas and contracts: Uc. No condition.
-/
import Derived.WalkKit
import Derived.Test.YtpcjdalgebgofaaGreatDoorKa4
set_option linter.unusedSimpArgs false
set_option linter.unusedVariables false
set_option linter.unusedSectionVars false
namespace Go.Proofs.YtpcjdalgebgofaaGreatDoor
open Go Go.Conc Go.ConcX
def deadH:Halt→Prop
 | .stuck _=>True
 | .unsupported (.initOrder _)=>False
 | .unsupported (Unsupported.elab _)=>False
 | .unsupported _=>True
 | _=>False
def DeadS (Q:Program) (m:Machine):Prop:=∃ n o u,deadO o∧runN Q n m=.ended o u
def Dead (Q:Program) (c:Code) (a:Act) (w:World):Prop:=∀ (b:Frame) (k:List Item) (cs:List Frame),b.kind≠.early→DeadS Q (lone (b.at a (.code c :: k)) cs w)
section
variable {Q:Program} {m m':Machine}
theorem DeadS.of_steps (h:Steps Q m m') (hd:DeadS Q m'):DeadS Q m:=by
 obtain ⟨n,hn⟩:=h
 obtain ⟨k,o,u,ho,hk⟩:=hd
 exact ⟨n+k,o,u,ho,by rw [runN_add,hn];exact hk⟩
theorem DeadS.of_step (h:step Q m=.next m') (hd:DeadS Q m'):DeadS Q m:=.of_steps (.one h) hd
theorem DeadS.here {o:Outcome} {u:World} (h:step Q m=.ended o u) (ho:deadO o):DeadS Q m:=⟨1,o,u,ho,by rw [runN_succ,h]⟩
end
section
variable {Q:Program} {a:Act} {w:World} {x y:Code}
theorem dead_left (h:Dead Q x a w):Dead Q (.seq x y) a w:=fun b k cs hb=>.of_step step_seq (h b _ cs hb)
theorem dead_seq (h:x.wp Q (fun e a' w'=>e=.normal∧Dead Q y a' w') a w):Dead Q (.seq x y) a w:=fun b k cs hb=>by
 obtain ⟨e,a',w',⟨rfl,hd⟩,harr⟩:=h b (.code y :: k) cs
 exact .of_step step_seq (.of_steps harr (hd b k cs hb))
theorem dead_cond {c:Operand} {t:Bool} (hc:a.eval c=.bool t) (h:Dead Q (if t then x else y) a w):Dead Q (.cond c x y) a w:=fun b k cs hb=>.of_step (step_cond hc) (h b k cs hb)
theorem dead_block {id:Nat} (h:Dead Q x a w):Dead Q (.block id x) a w:=fun b k cs hb=>.of_step step_block (h b _ cs hb)
theorem dead_loop (I:Act→World→Prop) (μ:Act→World→Nat) (h₀:I a w) (round:∀ a w,I a w→Dead Q x a w∨x.wp Q (fun e a' w'=>e=.normal∧I a' w'∧μ a' w'<μ a w) a w):Dead Q (.loop x) a w:=by
 intro b k cs hb
 have key:∀ n a w,μ a w=n→I a w→DeadS Q (lone (b.at a (.code x :: .inLoop x :: k)) cs w):=by
  intro n
  induction n using Nat.strongRecOn with
  | _ n ih =>
   intro a w hn hI
   rcases round a w hI with hd|hw
   ·exact hd b _ cs hb
   ·obtain ⟨e,a₁,w₁,⟨rfl,hI₁,hlt⟩,harr⟩:=hw b (.inLoop x :: k) cs
    exact .of_steps harr (.of_step step_inLoop (ih (μ a₁ w₁) (hn ▸ hlt) a₁ w₁ rfl hI₁))
 exact .of_step step_loop (key _ a w rfl h₀)
theorem oper_dead {b:Frame} {k:List Item} {cs:List Frame} {ops:Array Oper} {i:Nat} {rest:List Nat} {o:Oper} {h:Halt} {w':World} (hb:b.kind≠.early) (ho:ops[i]?=some o) (hw:Region.wanted o (yielded ops a.tmps)=true)
  (hr:(execOp a.eval o).run Q w=.halt h w') (hd:deadH h):DeadS Q (lone (b.at a (.inRegion ops (i :: rest) :: k)) cs w):=by
 have e:=stepG_oper (P:=Q) (main:=true) (b:=b) (a:=a) (k:=k) (cs:=cs) (w:=w) (ops:=ops) (i:=i) (rest:=rest) ho hw
 have hk':(b.kind == CallKind.early)=false:=by simpa using hb
 cases h with
 | stuck s =>
  refine .here (o:=.stuck s ((b.at a (.inRegion ops (i :: rest) :: k)).pos Q)) (u:=w') (step_lone_ended ?_) trivial
  show (stepG Q true (G (b.at a (.inRegion ops (i :: rest) :: k)) cs) w).bare=_
  rw [e]
  simp [stepG.apply,hr,GStep.after]
 | unsupported u =>
  refine .here (o:=.unsupported u ((b.at a (.inRegion ops (i :: rest) :: k)).pos Q)) (u:=w') (step_lone_ended ?_) ?_
  ·show (stepG Q true (G (b.at a (.inRegion ops (i :: rest) :: k)) cs) w).bare=_
   rw [e]
   cases u <;> first|exact hd.elim|simp [stepG.apply,hr,GStep.after]
  ·cases u <;> first|exact hd.elim|trivial
 | _=>exact hd.elim
theorem step_region {b:Frame} {k:List Item} {cs:List Frame} {id:Nat} {ops:Array Oper}:step Q (lone (b.at a (.code (.region id ops false) :: k)) cs w)=.next (lone (b.at a (.inRegion ops (List.range ops.size) :: k)) cs w):=step_lone_go (by simp [stepG,stepG.exec,Frame.at])
theorem dead_op {id:Nat} {o:Oper} {h:Halt} {w':World} (hg:o.guard=none) (hr:(execOp a.eval o).run Q w=.halt h w') (hd:deadH h):Dead Q (.region id #[o] false) a w:=fun b k cs hb =>
 .of_step step_region (oper_dead (ops:=#[o]) (i:=0) (rest:=[]) hb rfl (by simp [Region.wanted,hg]) hr hd)
end
end Go.Proofs.YtpcjdalgebgofaaGreatDoor

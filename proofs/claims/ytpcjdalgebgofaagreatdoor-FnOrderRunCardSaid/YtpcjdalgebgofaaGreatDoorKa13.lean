/-
  Lemmas and contracts: YVd YLk YWl YRd YBs YBi YBr YBm YSv YLs YE1. No condition.
-/
import Derived.LaidEql
import Derived.Stop.Asserts
import Derived.StillTailTactics
import Derived.Test.YtpcjdalgebgofaaGreatDoorKa10
import Derived.Test.YtpcjdalgebgofaaGreatDoorKa11
import Derived.Test.YtpcjdalgebgofaaGreatDoorKa12
set_option linter.unusedSimpArgs false
set_option linter.unusedVariables false
set_option linter.unusedSectionVars false
namespace Go.Proofs.YtpcjdalgebgofaaGreatDoorY
open Go Go.Conc Go.ConcX Go.RowKit Go.Sort
open Go.Proofs.YtpcjdalgebgofaaGreatDoor (withF Worldon seqFn Dead DeadS deadH deadO okG okHeap okObj SpecOK Beside ShunOK bK bodyD FJD DoneD difs difs_get difs_length phase_none phase_some poison okS outD)
theorem array25 (T:Array Value) (h:T.size=25):∃ x0 x1 x2 x3 x4 x5 x6 x7 x8 x9 x10 x11 x12 x13 x14 x15 x16 x17 x18 x19 x20 x21 x22 x23 x24:Value,T=#[x0,x1,x2,x3,x4,x5,x6,x7,x8,x9,x10,x11,x12,x13,x14,x15,x16,x17,x18,x19,x20,x21,x22,x23,x24]:=by
 obtain ⟨l⟩:=T
 simp only [List.size_toArray] at h
 rcases l with _|⟨x0,l⟩
 ·simp at h
 rcases l with _|⟨x1,l⟩
 ·simp at h
 rcases l with _|⟨x2,l⟩
 ·simp at h
 rcases l with _|⟨x3,l⟩
 ·simp at h
 rcases l with _|⟨x4,l⟩
 ·simp at h
 rcases l with _|⟨x5,l⟩
 ·simp at h
 rcases l with _|⟨x6,l⟩
 ·simp at h
 rcases l with _|⟨x7,l⟩
 ·simp at h
 rcases l with _|⟨x8,l⟩
 ·simp at h
 rcases l with _|⟨x9,l⟩
 ·simp at h
 rcases l with _|⟨x10,l⟩
 ·simp at h
 rcases l with _|⟨x11,l⟩
 ·simp at h
 rcases l with _|⟨x12,l⟩
 ·simp at h
 rcases l with _|⟨x13,l⟩
 ·simp at h
 rcases l with _|⟨x14,l⟩
 ·simp at h
 rcases l with _|⟨x15,l⟩
 ·simp at h
 rcases l with _|⟨x16,l⟩
 ·simp at h
 rcases l with _|⟨x17,l⟩
 ·simp at h
 rcases l with _|⟨x18,l⟩
 ·simp at h
 rcases l with _|⟨x19,l⟩
 ·simp at h
 rcases l with _|⟨x20,l⟩
 ·simp at h
 rcases l with _|⟨x21,l⟩
 ·simp at h
 rcases l with _|⟨x22,l⟩
 ·simp at h
 rcases l with _|⟨x23,l⟩
 ·simp at h
 rcases l with _|⟨x24,l⟩
 ·simp at h
 rcases l with _|⟨x,l⟩
 ·exact ⟨x0,x1,x2,x3,x4,x5,x6,x7,x8,x9,x10,x11,x12,x13,x14,x15,x16,x17,x18,x19,x20,x21,x22,x23,x24,rfl⟩
 ·simp at h
def slots (args:Array Value):Array Value:=args ++ Array.replicate (25 - args.size) undef
theorem enter_Q (args:Array Value) (kd:CallKind):Frame.enter (withF Tryz.prog Qy.funcs) 54 args kd=(bK kd).at ⟨slots args,[]⟩ [.code seqBody]:=by
 have hf:(withF Tryz.prog Qy.funcs).funcs[54]?=some seqFn:=Qy.func54
 simp [Frame.enter,Frame.at,hf,bK,slots,seqBody,seqFn]
theorem enter_P (args:Array Value) (kd:CallKind):Frame.enter Tryz.prog 54 args kd=(bK kd).at ⟨slots args,[]⟩ [.code bodyD]:=by
 have hf:=Tryz.func54
 simp [Frame.enter,Frame.at,hf,bK,slots,bodyD,Tryz.f54]
theorem slots_big {args:Array Value} (h:25<args.size):25<(slots args).size:=by
 unfold slots
 simp
 omega
theorem slots_small {args:Array Value} (h:args.size≤25):(slots args).size=25:=by
 unfold slots
 simp
 omega
theorem dead_big (T:Array Value) (hT:25<T.size) (w:World):Dead Qy.prog seqBody ⟨T,[]⟩ w:=by
 simp only [seqBody,seqFn,Option.getD_some]
 refine Go.Proofs.YtpcjdalgebgofaaGreatDoor.dead_left fun b k cs hb=>?_
 refine Go.Proofs.YtpcjdalgebgofaaGreatDoor.DeadS.of_step Go.Proofs.YtpcjdalgebgofaaGreatDoor.step_region ?_
 simp only [List.size_toArray,List.length_cons,List.length_nil,Nat.reduceAdd,Nat.zero_add,List.range,List.range.loop]
 have e1:step Qy.prog (lone (b.at ⟨T,[]⟩ (.inRegion #[{ dst:=some 25,op:=Op.move (.const (.bool true)),type:=4,pos := "", after:=#[],guard:=none },{ dst:=none,op:=Op.extract (.const (.bool true)) 0,type:=0,pos := "", after:=#[],guard:=some (0,true) }] [0,1] :: k)) cs w) =
   .next (lone (b.at ⟨T.setIfInBounds 25 (.bool true),[]⟩ (.inRegion #[{ dst:=some 25,op:=Op.move (.const (.bool true)),type:=4,pos := "", after:=#[],guard:=none },{ dst:=none,op:=Op.extract (.const (.bool true)) 0,type:=0,pos := "", after:=#[],guard:=some (0,true) }] [1] :: k)) cs w):=by
  refine step_lone_go ?_
  have e:=stepG_value (P:=Qy.prog) (main:=true) (b:=b) (a:=⟨T,[]⟩) (k:=k) (cs:=cs) (w:=w) (ops:=#[{ dst:=some 25,op:=Op.move (.const (.bool true)),type:=4,pos := "", after:=#[],guard:=none },{ dst:=none,op:=Op.extract (.const (.bool true)) 0,type:=0,pos := "", after:=#[],guard:=some (0,true) }]) (i:=0) (rest:=[1]) (v:=.bool true) (w':=w) rfl (by rfl) hb (by go_simp)
  show (stepG Qy.prog true (G _ cs) w).bare=_
  rw [e]
  rfl
 refine Go.Proofs.YtpcjdalgebgofaaGreatDoor.DeadS.of_step e1 ?_
 refine Go.Proofs.YtpcjdalgebgofaaGreatDoor.oper_dead (h:=.stuck "Extract: tuple expected") (w':=w) hb (by rfl) ?_ (by go_simp) trivial
 simp [Region.wanted,yielded,hT]
theorem fj_heap {v w v' w':World} {A B:Option Addr} {la ca lb cb n:Nat} {x:Option Int} (hsz:v.heap.size=w.heap.size) (h1:FJD v A la ca B lb cb n x v') (h2:FJD w A la ca B lb cb n x w') (i:Nat) (hi:v.heap.size≤i) (h2':i≠v.heap.size+2) (h4:i≠v.heap.size+4):v'.heap[i]?=w'.heap[i]?:=by
 have a0:=h1.b0
 have a1:=h1.b1
 have a3:=h1.b3
 have a5:=h1.b5
 have at':=h1.tail
 have c0:=h2.b0
 have c1:=h2.b1
 have c3:=h2.b3
 have c5:=h2.b5
 have ct:=h2.tail
 rw [← hsz] at c0 c1 c3 c5 ct
 have hcase:i=v.heap.size∨i=v.heap.size+1∨i=v.heap.size+3∨i=v.heap.size+5∨v.heap.size+6≤i:=by omega
 rcases hcase with rfl|rfl|rfl|rfl|h6
 ·rw [a0,c0]
 ·rw [a1,c1]
 ·rw [a3,c3]
 ·rw [a5,c5]
 ·cases x with
  | none =>
   simp only at at' ct
   rw [Array.getElem?_eq_none (by omega),Array.getElem?_eq_none (by omega)]
  | some z =>
   simp only at at' ct
   rcases Nat.lt_or_ge i (v.heap.size+7) with h|h
   ·obtain rfl:i=v.heap.size+6:=by omega
    rw [at'.2,ct.2]
   ·rw [Array.getElem?_eq_none (by omega),Array.getElem?_eq_none (by omega)]
theorem fj_size {v w v' w':World} {A B:Option Addr} {la ca lb cb n:Nat} {x:Option Int} (hsz:v.heap.size=w.heap.size) (h1:FJD v A la ca B lb cb n x v') (h2:FJD w A la ca B lb cb n x w'):v'.heap.size=w'.heap.size:=by
 have at':=h1.tail
 have ct:=h2.tail
 cases x with
 | none=>simp only at at' ct;omega
 | some z=>simp only at at' ct;omega
theorem fq_row {v w:World} {A B:Option Addr} {la ca lb cb n:Nat} {x:Option Int} {zs ws:List Int} (h:FQ v A la ca B lb cb n x zs ws n w):w.heap[v.heap.size+2]?=some (.cells (difs la lb zs ws 0 n).toArray 4):=by
 obtain ⟨arr,h1,h2,h3⟩:=h.fill
 have e:arr=(difs la lb zs ws 0 n).toArray:=by
  apply Array.ext_getElem?
  intro i
  rcases Nat.lt_or_ge i n with hlt|hge
  ·rw [h3 i hlt,List.getElem?_toArray,difs_get la lb zs ws n 0 i hlt,Nat.zero_add]
  ·rw [Array.getElem?_eq_none (by omega),List.getElem?_toArray,List.getElem?_eq_none (by simp;omega)]
 rw [h1,e]
theorem fq_eq {v w1 w2:World} {τ:Tape} {A B:Option Addr} {la ca lb cb n:Nat} {x:Option Int} {zs ws:List Int} (h1:FQ v A la ca B lb cb n x zs ws n w1) (h2:FQ (Worldon v τ) A la ca B lb cb n x zs ws n w2):w2=Worldon w1 τ:=by
 have hh:w1.heap=w2.heap:=by
  apply Array.ext_getElem?
  intro i
  rcases Nat.lt_or_ge i v.heap.size with hlt|hge
  ·exact (h1.fj.below.block i hlt).trans (h2.fj.below.block i hlt).symm
  ·by_cases e2:i=v.heap.size+2
   ·subst e2
    exact (fq_row h1).trans (fq_row h2).symm
   by_cases e4:i=v.heap.size+4
   ·subst e4
    exact h1.b4.trans h2.b4.symm
   ·exact fj_heap (v:=v) (w:=Worldon v τ) rfl h1.fj h2.fj i hge e2 e4
 have o1:=h1.fj.below.os
 have o2:=h2.fj.below.os
 have p1:=h1.fj.below.output
 have p2:=h2.fj.below.output
 have t2:=h2.fj.below.tape
 have d1:=h1.drawn
 have d2:=h2.drawn
 obtain ⟨a1,a2,a3,a4,a5⟩:=w1
 obtain ⟨b1,b2,b3,b4,b5⟩:=w2
 simp only at hh o1 o2 p1 p2 t2 d1 d2
 subst hh
 simp only [World.mk.injEq,true_and,and_true]
 simp [*]
theorem sok_none {P:Program} {F:Array Func} {S:Nat→Option Obj} {v w:World} (h:Go.Proofs.YtpcjdalgebgofaaGreatDoor.Twin (okObj P F) S v w) {i:Nat} (hi:v.heap.size≤i):S i=none:=by
 cases hs:S i with
 | none=>rfl
 | some o =>
  have:=(h.shun i o hs).1
  rw [Array.getElem?_eq_none hi] at this
  cases this
theorem ok_done {P:Program} {F:Array Func} {v v':World} {A B:Option Addr} {la ca lb cb n:Nat} {x:Option Int} {zs ws:List Int} (hok:∀ (i:Nat) (o:Obj),v.heap[i]?=some o→okObj P F o) (h1:FQ v A la ca B lb cb n x zs ws n v') (i:Nat) (o:Obj) (ho:v'.heap[i]?=some o):okObj P F o:=by
 rcases Nat.lt_or_ge i v.heap.size with hlt|hge
 ·exact hok i o ((h1.fj.below.block i hlt).symm.trans ho)
 ·by_cases e2:i=v.heap.size+2
  ·subst e2
   rw [fq_row h1] at ho
   cases ho
   trivial
  by_cases e4:i=v.heap.size+4
  ·subst e4
   rw [h1.b4] at ho
   cases ho
   trivial
  have hcase:i=v.heap.size∨i=v.heap.size+1∨i=v.heap.size+3∨i=v.heap.size+5∨v.heap.size+6≤i:=by omega
  rcases hcase with rfl|rfl|rfl|rfl|h6
  ·rw [h1.fj.b0] at ho;cases ho;trivial
  ·rw [h1.fj.b1] at ho;cases ho;trivial
  ·rw [h1.fj.b3] at ho;cases ho;trivial
  ·rw [h1.fj.b5] at ho;cases ho;trivial
  ·have ht:=h1.fj.tail
   cases x with
   | none =>
    simp only at ht
    rw [Array.getElem?_eq_none (by omega)] at ho
    cases ho
   | some z =>
    simp only at ht
    rcases Nat.lt_or_ge i (v.heap.size+7) with h|h
    ·obtain rfl:i=v.heap.size+6:=by omega
     rw [ht.2] at ho;cases ho;trivial
    ·rw [Array.getElem?_eq_none (by omega)] at ho
     cases ho
theorem twin_done {P:Program} {F:Array Func} {S:Nat→Option Obj} {v w v' w':World} {A B:Option Addr} {la ca lb cb n:Nat} {x:Option Int} {zs ws:List Int} (hT:Go.Proofs.YtpcjdalgebgofaaGreatDoor.Twin (okObj P F) S v w) (h1:FQ v A la ca B lb cb n x zs ws n v') (h2:FJD w A la ca B lb cb n x w')
  (hwg:Go.ConcX.WgAt 138 (w.heap.size+4) w' 0 0) (hfull:Go.ConcX.Full (w.heap.size+2) (difs la lb zs ws 0 n) w'):Go.Proofs.YtpcjdalgebgofaaGreatDoor.Twin (okObj P F) (fun i=>if i=v.heap.size+4 then some (Go.ConcX.wgBlock 138 0 0) else S i) v' w':=by
 have hsz:=hT.size
 have hrow:w'.heap[v.heap.size+2]?=some (.cells (difs la lb zs ws 0 n).toArray 4):=by rw [hsz];exact hfull rfl
 have hwg':w'.heap[v.heap.size+4]?=some (Go.ConcX.wgBlock 138 0 0):=by rw [hsz];exact hwg
 refine ⟨?_,?_,fj_size hsz h1.fj h2,fun i hi=>?_,fun i o ho=>?_,fun i o ho=>?_⟩
 ·exact h1.fj.below.os.trans (hT.os.trans h2.below.os.symm)
 ·exact h1.fj.below.output.trans (hT.output.trans h2.below.output.symm)
 ·split at hi
  ·cases hi
  rename_i h4
  rcases Nat.lt_or_ge i v.heap.size with hlt|hge
  ·exact (h1.fj.below.block i hlt).trans ((hT.block i hi).trans (h2.below.block i (by omega)).symm)
  ·by_cases e2:i=v.heap.size+2
   ·subst e2
    exact (fq_row h1).trans hrow.symm
   ·exact fj_heap hsz h1.fj h2 i hge e2 h4
 ·split at ho
  ·rename_i h4
   subst h4
   cases ho
   exact ⟨h1.b4,hwg',by simp [Go.ConcX.wgBlock,okS]⟩
  ·have hlt:i<v.heap.size:=by
    rcases Nat.lt_or_ge i v.heap.size with h|h
    ·exact h
    ·rw [sok_none hT h] at ho;cases ho
   obtain ⟨k1,k2,k3⟩:=hT.shun i o ho
   exact ⟨(h1.fj.below.block i hlt).trans k1,(h2.below.block i (by omega)).trans k2,k3⟩
 ·exact ok_done hT.ok h1 i o ho
theorem leave_Q {kd:CallKind} {T:Array Value} {todo:List Item} {c c':Frame} {rest:List Frame} {w:World} {r:Value} (hT:T[4]?=some r) (hd:∀ (P:Program) (rest:List Frame) (w:World),doReturn P true { (bK kd).at ⟨T,[]⟩ todo with mode:=.returning } (c :: rest) none r w=.go (G c' rest) w) :
  stepG Qy.prog true (G { (bK kd).at ⟨T,[]⟩ todo with mode:=.returning } (c :: rest)) w=.go (G c' rest) w #[]:=by
 have hf:Qy.prog.funcs[54]?=some seqFn:=Qy.func54
 have hd':=hd Qy.prog rest w
 simp only [Frame.at,bK] at hd' ⊢
 simp only [G] at hd' ⊢
 simp [stepG,unwind,results,hf,seqFn,hT]
 rw [hd']
 simp [seen,GStep.after]
theorem leave_P {kd:CallKind} {T:Array Value} {todo:List Item} {c c':Frame} {rest:List Frame} {w:World} {r:Value} (hT:T[4]?=some r) (hd:∀ (P:Program) (rest:List Frame) (w:World),doReturn P true { (bK kd).at ⟨T,[]⟩ todo with mode:=.returning } (c :: rest) none r w=.go (G c' rest) w) :
  stepG Tryz.prog true (G { (bK kd).at ⟨T,[]⟩ todo with mode:=.returning } (c :: rest)) w=.go (G c' rest) w #[]:=by
 have hf:Tryz.prog.funcs[54]?=some Tryz.f54:=Tryz.func54
 have hd':=hd Tryz.prog rest w
 simp only [Frame.at,bK] at hd' ⊢
 simp only [G] at hd' ⊢
 simp [stepG,unwind,results,hf,Tryz.f54,hT]
 rw [hd']
 simp [seen,GStep.after]
theorem rdI_read {v:World} {A:Option Addr} {m:Nat} {zs:List Int} (h:RdI .i64 v A m zs) (hm:0<m):∃ ad,A=some ad∧ad.block<v.heap.size∧∀ i,i<m→v.cell? (ad.add i)=some (.int .i64 (zs.getD i 0)):=by
 obtain ⟨b,off,rfl,hb,hc⟩:=h.2 hm
 refine ⟨⟨b,off,none⟩,rfl,hb,fun i hi=>?_⟩
 have hl:i<zs.length:=by rw [h.1];exact hi
 have hz:zs[i]?=some (zs.getD i 0):=by simp [List.getD_eq_getElem?_getD,List.getElem?_eq_getElem hl]
 have e:(⟨b,off,none⟩:Addr).add i=⟨b,off+i,none⟩:=by
  unfold Addr.add
  split
  ·rename_i h0
   subst h0
   rfl
  ·rfl
 rw [e]
 exact hc i _ hz
theorem cell_twin {P:Program} {F:Array Func} {S:Nat→Option Obj} {v w:World} (h:Go.Proofs.YtpcjdalgebgofaaGreatDoor.Twin (okObj P F) S v w) {a:Addr} {z:Value} (hc:v.cell? a=some z):w.cell? a=some z∧S a.block=none:=by
 have hn:S a.block=none:=by
  cases hs:S a.block with
  | none=>rfl
  | some o =>
   have hp:=(h.shun _ o hs).1
   unfold World.cell? at hc
   rw [hp] at hc
   cases hc
 exact ⟨(World.cell?_of_block (h.block _ hn).symm).trans hc,hn⟩
set_option maxRecDepth 100000 in
theorem specOK_d:SpecOK Tryz.prog Qy.funcs 54:=by
 intro args kd c cs v hkd hg hh hbig
 have hk:(bK kd).kind≠.early:=by rcases hkd with rfl|rfl <;> simp [bK]
 have hp:∀ (τ:Tape) (b:Nat) x y,(Worldon v τ).heap[b]?≠some (.pending x y):=fun τ b x y h=>hh b _ h
 simp only [enter_Q,enter_P]
 rcases Nat.lt_or_ge 25 args.size with hA|hA
 ·exact .inl fun dl τ=>dead_big (slots args) (slots_big hA) (Worldon v τ) (bK kd) [] (c :: cs ++ dl) hk
 obtain ⟨x0,x1,x2,x3,x4,x5,x6,x7,x8,x9,x10,x11,x12,x13,x14,x15,x16,x17,x18,x19,x20,x21,x22,x23,x24,hT⟩:=array25 (slots args) (slots_small hA)
 rw [hT]
 by_cases hG:GoodV x0 x1 v
 rotate_left
 ·exact .inl fun dl τ=>seq_dead x0 x1 x2 x3 x4 x5 x6 x7 x8 x9 x10 x11 x12 x13 x14 x15 x16 x17 x18 x19 x20 x21 x22 x23 x24 (Worldon v τ) (hp τ) (fun h=>hG h) (bK kd) [] (c :: cs ++ dl) hk
 obtain ⟨A,la,ca,B,lb,cb,zs,ws,rfl,rfl,h1,h2,ha,hb⟩:=hG
 obtain ⟨n,hn⟩:∃ n:Nat,n=max la lb:=⟨_,rfl⟩
 obtain ⟨x,hx⟩:∃ x:Option Int,x=if n=0 then none else some 64:=⟨_,rfl⟩
 have run:∀ (τ:Tape) (rest:List Frame),∃ (w1:World) (T:Array Value) (todo:List Item),FQ (Worldon v τ) A la ca B lb cb n x zs ws n w1∧T[4]?=some (.slice (some ⟨v.heap.size+2,0,none⟩) n n) ∧
   Steps Qy.prog (lone ((bK kd).at ⟨#[.slice A la ca,.slice B lb cb,x2,x3,x4,x5,x6,x7,x8,x9,x10,x11,x12,x13,x14,x15,x16,x17,x18,x19,x20,x21,x22,x23,x24],[]⟩ [.code seqBody]) rest (Worldon v τ)) (lone { (bK kd).at ⟨T,[]⟩ todo with mode:=.returning } rest w1):=by
  intro τ rest
  obtain ⟨e,a',w',⟨rfl,hd,h4,hF⟩,todo,hs⟩:=seq_wp A B la ca lb cb (min la lb) n zs ws (Worldon v τ) rfl hn ha hb ⟨h1,h2⟩ x2 x3 x4 x5 x6 x7 x8 x9 x10 x11 x12 x13 x14 x15 x16 x17 x18 x19 x20 x21 x22 x23 x24 x hx (bK kd) [] rest
  obtain ⟨T,ds⟩:=a'
  simp only at hd
  subst hd
  exact ⟨w',T,todo,hF,h4,hs⟩
 obtain ⟨w1,T1,todo1,hF1,h41,_⟩:=run v.tape []
 obtain ⟨b1,b2,b3⟩:=Go.Proofs.YtpcjdalgebgofaaGreatDoor.okFr.back (fr:={ c with kind:=kd }) ⟨hg.top.items,hg.top.defers,hkd,hg.top.fn⟩ c hg.top (.slice (some ⟨v.heap.size+2,0,none⟩) n n)
 obtain ⟨c',hok,hmid⟩:∃ c':Frame,okG Tryz.prog Qy.funcs c' cs∧∀ (T:Array Value) (todo:List Item) (P:Program) (rest:List Frame) (w:World),doReturn P true { (bK kd).at ⟨T,[]⟩ todo with mode:=.returning } (c :: rest) none (.slice (some ⟨v.heap.size+2,0,none⟩) n n) w=.go (G c' rest) w:=⟨_,hg.next b1 b2 b3,fun T todo P rest w=>Go.Proofs.YtpcjdalgebgofaaGreatDoor.doReturn_mid hkd _ w⟩
 have hF1:FQ v A la ca B lb cb n x zs ws n w1:=hF1
 refine .inr ⟨c',w1,hok,ok_done hh hF1,hF1.drawn,(by have h6:v.heap.size+6≤w1.heap.size:=hF1.fj.size_ge;omega),fun dl τ=>?_,fun S gs w sl t q hS hB hTw=>?_⟩
 ·obtain ⟨w2,T2,todo2,hF2,h42,N,hN⟩:=run τ (c :: cs ++ dl)
  have e2:w2=Worldon w1 τ:=fq_eq hF1 hF2
  subst e2
  refine ⟨N+1,Nat.succ_pos _,?_⟩
  have hs:step Qy.prog (lone { (bK kd).at ⟨T2,[]⟩ todo2 with mode:=.returning } (c :: (cs ++ dl)) (Worldon w1 τ))=.next (lone c' (cs ++ dl) (Worldon w1 τ)):=step_lone_go (by
   show (stepG Qy.prog true (G { (bK kd).at ⟨T2,[]⟩ todo2 with mode:=.returning } (c :: (cs ++ dl))) (Worldon w1 τ)).bare=_
   rw [leave_Q h42 (hmid T2 todo2)]
   rfl)
  show runN Qy.prog (N+1) (lone ((bK kd).at ⟨#[.slice A la ca,.slice B lb cb,x2,x3,x4,x5,x6,x7,x8,x9,x10,x11,x12,x13,x14,x15,x16,x17,x18,x19,x20,x21,x22,x23,x24],[]⟩ [.code seqBody]) (c :: cs ++ dl) (Worldon v τ))=_
  rw [runN_add,hN]
  show runN Qy.prog 1 _=_
  rw [Go.Proofs.YtpcjdalgebgofaaGreatDoor.runN_succ]
  have hs':step Qy.prog (lone { (bK kd).at ⟨T2,[]⟩ todo2 with mode:=.returning } (c :: cs ++ dl) (Worldon w1 τ))=_:=hs
  rw [hs']
  rfl
 ·have hsz:v.heap.size=w.heap.size:=hTw.size
  obtain ⟨Shun,hs,hP⟩:=hB.past
  have rA:=fun hm=>rdI_read ha hm
  have rB:=fun hm=>rdI_read hb hm
  have hbl:∀ ad,0<min la lb→(A=some ad∨B=some ad)→ad.block<w.heap.size∧S ad.block=none:=by
   intro ad hm hab
   obtain ⟨a0,ea,la0,ca0⟩:=rA hm
   obtain ⟨b0,eb,lb0,cb0⟩:=rB hm
   rcases hab with e|e
   ·rw [ea] at e
    cases e
    exact ⟨by omega,(cell_twin hTw (ca0 0 hm)).2⟩
   ·rw [eb] at e
    cases e
    exact ⟨by omega,(cell_twin hTw (cb0 0 hm)).2⟩
  have hAr:∀ i ad,i<la→i<lb→A=some ad→w.cell? (ad.add i)=some (.int .i64 (zs.getD i 0)):=by
   intro i ad hi hi' e
   obtain ⟨a0,ea,la0,ca0⟩:=rA (by omega)
   rw [ea] at e
   cases e
   exact (cell_twin hTw (ca0 i (by omega))).1
  have hBr:∀ i ad,i<la→i<lb→B=some ad→w.cell? (ad.add i)=some (.int .i64 (ws.getD i 0)):=by
   intro i ad hi hi' e
   obtain ⟨b0,eb,lb0,cb0⟩:=rB (by omega)
   rw [eb] at e
   cases e
   exact (cell_twin hTw (cb0 i (by omega))).1
  have hnn:0<min la lb→∃ ad bd,A=some ad∧B=some bd:=by
   intro hm
   obtain ⟨a0,ea,_⟩:=rA hm
   obtain ⟨b0,eb,_⟩:=rB hm
   exact ⟨a0,b0,ea,eb⟩
  have hSh:∀ a:Addr,Shun (.cell a)→a.block<w.heap.size∧(0<min la lb→∀ ad,(A=some ad∨B=some ad)→a.block≠ad.block):=by
   intro a hsa
   obtain ⟨a',e,hne⟩:=hs _ hsa
   cases e
   refine ⟨?_,fun hm ad hab e=>hne (by rw [e];exact (hbl ad hm hab).2)⟩
   rcases Nat.lt_or_ge a.block v.heap.size with h|h
   ·omega
   ·exact absurd (sok_none hTw h) hne
  have key:∃ (N:Nat) (gs':Array Goroutine) (a':Goroutine) (w':World) (sl':Option (Nat × Nat)) (t':Trace) (q':Nat→Nat),runNT Tryz.prog N (crowd gs w sl) t=(.next (crowd gs' w' sl'),t')∧gs'[0]?=some a' ∧
    DoneD w A la ca B lb cb n x (difs la lb zs ws 0 n) kd (c :: cs) a' w'∧Leavers Tryz.prog t' gs' q'∧Past (fun l=>Shun l∨OfWg (w.heap.size+4) l) w'.heap.size t':=by
   by_cases h00:n=0
   ·obtain rfl:x=none:=by rw [hx,if_pos h00]
    exact phase_none hk h1 h2 hn (fun ad hm hab=>(hbl ad hm hab).1) hnn hAr hBr hSh x2 x3 x4 x5 x6 x7 x8 x9 x10 x11 x12 x13 x14 x15 x16 x17 x18 x19 x20 x21 x22 x23 x24 hB.h0 hB.leav hP h00
   ·obtain rfl:x=some 64:=by rw [hx,if_neg h00]
    exact phase_some hk h1 h2 hn (fun ad hm hab=>(hbl ad hm hab).1) hnn hAr hBr hSh x2 x3 x4 x5 x6 x7 x8 x9 x10 x11 x12 x13 x14 x15 x16 x17 x18 x19 x20 x21 x22 x23 x24 hB.h0 hB.leav hP (by omega)
  obtain ⟨N,gs',a',w',sl',t',q',r1,h0',⟨⟨T,rfl,h4⟩,hfj,hwg,hfull⟩,hL',hP'⟩:=key
  have h4':T[4]?=some (.slice (some ⟨v.heap.size+2,0,none⟩) n n):=by rw [hsz];exact h4
  have hgo:Goes Tryz.prog true AtRel (DE (EvL (fun l=>Shun l∨OfWg (w.heap.size+4) l) w'.heap.size)) (fun g u=>g=G c' cs∧AtRel w' u) 1 (G { (bK kd).at ⟨T,[]⟩ [.code .ret] with mode:=.returning } (c :: cs)) w' :=
   Goes.step rfl fun u hu=>by
    rw [leave_P h4' (hmid T [.code .ret])]
    simp only [goes_go]
    exact ⟨fun e he=>by simp at he,fun u' hu'=>⟨rfl,atRel_trans _ _ _ hu hu'⟩⟩
  obtain ⟨N2,gs2,a2,w2,sl2,t2,q2,r2,_,h02,⟨rfl,d,rfl⟩,hL2,hP2⟩:=walk_beside (P:=Tryz.prog) (Shun:=fun l=>Shun l∨OfWg (w.heap.size+4) l) (B:=w'.heap.size) (fun _ _ es h e he=>h e he) _ _ gs' _ w' sl' t' q' (Nat.le_refl _) h0' hL' hP' hgo
  refine ⟨N+N2,gs2,w'.at d,sl2,t2,q2,fun i=>if i=v.heap.size+4 then some (Go.ConcX.wgBlock 138 0 0) else S i,Go.ConcX.runNT_trans r1 r2,⟨h02,hL2,_,?_,hP2⟩,twin_done hTw hF1 (hfj.aside2 ⟨rfl,rfl,rfl,rfl,fun _ _ _=>rfl⟩) hwg hfull,fun i hi=>if_neg (by omega),fun i o ho=>?_⟩
  ·rintro l (hl|⟨a,rfl,ha4⟩)
   ·obtain ⟨a,rfl,hne⟩:=hs l hl
    refine ⟨a,rfl,?_⟩
    show (if a.block=v.heap.size+4 then _ else S a.block)≠none
    split
    ·simp
    ·exact hne
   ·refine ⟨a,rfl,?_⟩
    show (if a.block=v.heap.size+4 then _ else S a.block)≠none
    rw [if_pos (by omega)]
    simp
  ·have ho':(if i=v.heap.size+4 then some (Go.ConcX.wgBlock 138 0 0) else S i)=some o:=ho
   split at ho'
   ·omega
   ·exact hS i o ho'
end Go.Proofs.YtpcjdalgebgofaaGreatDoorY
namespace Go.Proofs.YtpcjdalgebgofaaGreatDoorY
open Go.RowKit Go.Sort
end Go.Proofs.YtpcjdalgebgofaaGreatDoorY
namespace Go.Proofs.YtpcjdalgebgofaaGreatDoorY
open Go.RowKit Go.Extern.Stop Go.Stop Go.Extern
theorem func66:Qy.prog.funcs[66]?=some Tryz.f66:=(Qy.kept (by decide) (by kernel_rfl)).trans Tryz.func66
theorem func186:Qy.prog.funcs[186]?=some Tryz.f186:=(Qy.kept (by decide) (by kernel_rfl)).trans Tryz.func186
theorem isTypeOf (v:Value) (w:World):(Extern.ReflectliteType.typeOf #[.iface 216 v]).run Qy.prog w=.ok (.iface 147 (.agg #[.pointer (some ⟨9,216,none⟩)])) w:=by kernel_rfl
def compE:Array Value→Sem Value:=Extern.ReflectliteType.method fun t=>do Extern.Rtype.noPackHeld "Comparable" t;pure (.bool (← typeInfo t).comparable)
theorem isComparable (w:World):(compE #[.agg #[.pointer (some ⟨9,216,none⟩)]]).run Qy.prog w=.ok (.bool true) w:=by kernel_rfl
theorem isMethodComparable (v:Value) (w:World):(Go.method 102 147 v "Comparable").run Qy.prog w=.ok (186,v) w:=by kernel_rfl
theorem isComp:(Qy.prog.info? 216).map (·.comparable)=some true:=by kernel_rfl
theorem isSize:(Qy.prog.info? 240).map (·.size)=some 1:=by kernel_rfl
theorem noIsE (v:Value) (xT:TypeId) (w:World):(Instr.typeAssert (.iface 216 v) xT 149 true).run Qy.prog w=.ok (.tuple #[.nilIface,.bool false]) w:=run_typeAssert_lacksB (Qy.un Tryz.underlying149) (by kernel_rfl) (by kernel_rfl) v xT w
theorem noUnwrapE (v:Value) (xT:TypeId) (w:World):(Instr.typeAssert (.iface 216 v) xT 152 true).run Qy.prog w=.ok (.tuple #[.nilIface,.bool false]) w:=run_typeAssert_lacksB (Qy.un Tryz.underlying152) (by kernel_rfl) (by kernel_rfl) v xT w
theorem noUnwrapsE (v:Value) (xT:TypeId) (w:World):(Instr.typeAssert (.iface 216 v) xT 154 true).run Qy.prog w=.ok (.tuple #[.nilIface,.bool false]) w:=run_typeAssert_lacksB (Qy.un Tryz.underlying154) (by kernel_rfl) (by kernel_rfl) v xT w
set_option maxRecDepth 100000 in
set_option maxHeartbeats 2000000 in
theorem is_same (a:Addr) (w:World) :
  Calls Qy.prog 67 #[.iface 216 (.pointer (some a)),.iface 216 (.pointer (some a)),.bool true] w fun e w'=>e=.returned (.bool true)∧w'=w:=by
 obtain ⟨i,hi,hcmp⟩:=Option.map_eq_some_iff.1 isComp
 obtain ⟨j,hj,hjs⟩:=Option.map_eq_some_iff.1 isSize
 have heq:=run_eql_iface_ptr_same (P:=Qy.prog) w a (Qy.un Tryz.underlying61) (Qy.un Tryz.underlying216) hi hcmp hj
 go_enter Qy.func67,Tryz.ntmps67
 go_wp2
 refine wp_loop_rounds 1 ?_
 rw [rounds_succ]
 go_wp2
 go_ret
 exact ⟨rfl,rfl⟩
set_option maxRecDepth 100000 in
set_option maxHeartbeats 2000000 in
theorem is_other (a b:Addr) (ca cb:Array Value) (ta tb:TypeId) (w:World) (hne:a≠b) (ha:w.heap[a.block]?=some (.cells ca ta (0,0))) (hb:w.heap[b.block]?=some (.cells cb tb (0,0))) :
  Calls Qy.prog 67 #[.iface 216 (.pointer (some a)),.iface 216 (.pointer (some b)),.bool true] w fun e w'=>e=.returned (.bool false)∧w'=w:=by
 obtain ⟨i,hi,hcmp⟩:=Option.map_eq_some_iff.1 isComp
 obtain ⟨j,hj,hjs⟩:=Option.map_eq_some_iff.1 isSize
 have nE:=noIsE
 have uE:=noUnwrapE
 have vE:=noUnwrapsE
 have heq:=run_eql_iface_ptr_other (P:=Qy.prog) w (Qy.un Tryz.underlying61) (Qy.un Tryz.underlying216) hi hcmp hj (by rw [hjs];decide) hne ha hb
 go_enter Qy.func67,Tryz.ntmps67
 go_wp2
 refine wp_loop_rounds 1 ?_
 rw [rounds_succ]
 go_wp2
 go_ret
 exact ⟨rfl,rfl⟩
set_option maxRecDepth 100000 in
set_option maxHeartbeats 2000000 in
theorem errorsIs_any (a b:Addr) (ca cb:Array Value) (ta tb:TypeId) (w:World) (ha:w.heap[a.block]?=some (.cells ca ta (0,0))) (hb:w.heap[b.block]?=some (.cells cb tb (0,0))) :
  Calls Qy.prog 31 #[.iface 216 (.pointer (some a)),.iface 216 (.pointer (some b))] w fun e w'=>e=.returned (.bool (decide (a=b)))∧w'=w:=by
 have h8:=@run_callFunc_extern Qy.prog 66 _ Extern.ReflectliteType.typeOf func66 (by kernel_rfl) (by kernel_rfl) (by kernel_rfl) (by kernel_rfl)
 have h32:=@run_callFunc_extern Qy.prog 186 _ compE func186 (by kernel_rfl) (by kernel_rfl) (by kernel_rfl) (by kernel_rfl)
 have tT:=isTypeOf
 have cT:=isComparable
 have mR:=isMethodComparable
 have HA:=Lib.hid ha
 have HB:=Lib.hid hb
 clear ha hb
 go_enter Qy.func31,Tryz.ntmps31
 go_wp2_with fail
 by_cases hab:a=b
 ·subst hab
  refine (is_same a _).mono ?_
  rintro e w' ⟨rfl,rfl⟩
  go_wp2
  go_ret
  exact ⟨ret_bool (by simp),rfl⟩
 ·refine (is_other a b ca cb ta tb _ hab HA.out HB.out).mono ?_
  rintro e w' ⟨rfl,rfl⟩
  go_wp2
  go_ret
  exact ⟨ret_bool (by simp [hab]),rfl⟩
end Go.Proofs.YtpcjdalgebgofaaGreatDoorY
namespace Go.Proofs.YtpcjdalgebgofaaGreatDoorY
open Go.RowKit Go.Sort
section
variable {α:Type} {enc:α→List Value} {sz:Nat}
def cellsX (enc:α→List Value) (xs:List α):List Value:=xs.flatMap enc
theorem cellsX_cons (x:α) (r:List α):cellsX enc (x :: r)=enc x ++ cellsX enc r:=rfl
theorem cellsX_append (a b:List α):cellsX enc (a ++ b)=cellsX enc a ++ cellsX enc b:=by simp [cellsX]
theorem cellsX_length (he:∀ x,(enc x).length=sz) (xs:List α):(cellsX enc xs).length=xs.length * sz:=by
 induction xs with
 | nil=>simp [cellsX]
 | cons x r ih=>rw [cellsX_cons,List.length_append,he,ih,List.length_cons,Nat.add_mul,Nat.one_mul,Nat.add_comm]
theorem cellsX_get (he:∀ x,(enc x).length=sz) (xs:List α):∀ (k:Nat) (x:α),xs[k]?=some x→∀ j v,(enc x)[j]?=some v→(cellsX enc xs)[k * sz+j]?=some v:=by
 induction xs with
 | nil=>intro k x h;simp at h
 | cons y r ih =>
  intro k x h j v hv
  have hj:j<sz:=by
   have:=(List.getElem?_eq_some_iff.1 hv).1
   rw [he] at this
   exact this
  cases k with
  | zero =>
   simp at h
   subst h
   rw [cellsX_cons,Nat.zero_mul,Nat.zero_add,List.getElem?_append_left (by rw [he];exact hj)]
   exact hv
  | succ k =>
   have h':r[k]?=some x:=by simpa using h
   rw [cellsX_cons,List.getElem?_append_right (by rw [he,Nat.add_mul];omega),he,show (k+1) * sz+j - sz=k * sz+j by rw [Nat.add_mul];omega]
   exact ih k x h' j v hv
theorem cellsX_oneCell (h:∀ x,∀ u ∈ enc x,u.oneCell'=true) (xs:List α):∀ u ∈ cellsX enc xs,u.oneCell'=true:=by
 intro u hu
 simp only [cellsX,List.mem_flatMap] at hu
 obtain ⟨e,_,h'⟩:=hu
 exact h e u h'
def Rd (enc:α→List Value) (sz:Nat) (w:World) (A:Option Addr) (n:Nat) (xs:List α):Prop :=
 xs.length=n∧(0<n→∃ b off,A=some ⟨b,off,none⟩∧b<w.heap.size∧∀ k x,xs[k]?=some x→∀ j v,(enc x)[j]?=some v→w.cell? ⟨b,off+k * sz+j,none⟩=some v)
variable {w w':World} {A:Option Addr} {n:Nat} {xs:List α}
theorem Rd.len (h:Rd enc sz w A n xs):xs.length=n:=h.1
theorem Rd.at_ (h:Rd enc sz w A n xs) {k:Nat} (hk:k<n):∃ b off x,A=some ⟨b,off,none⟩∧b<w.heap.size∧xs[k]?=some x∧∀ j v,(enc x)[j]?=some v→w.cell? ⟨b,off+k * sz+j,none⟩=some v:=by
 obtain ⟨b,off,hA,hb,hc⟩:=h.2 (by omega)
 have hl:k<xs.length:=by rw [h.1];exact hk
 exact ⟨b,off,xs[k],hA,hb,List.getElem?_eq_getElem hl,hc k _ (List.getElem?_eq_getElem hl)⟩
theorem Rd.keep (h:Rd enc sz w A n xs) (hs:w.heap.size≤w'.heap.size) (hk:∀ b o,0<n→A.map (·.block)=some b→b<w.heap.size→w'.cell? ⟨b,o,none⟩=w.cell? ⟨b,o,none⟩):Rd enc sz w' A n xs:=by
 refine ⟨h.1,fun hn=>?_⟩
 obtain ⟨b,off,hA,hlt,hc⟩:=h.2 hn
 exact ⟨b,off,hA,Nat.lt_of_lt_of_le hlt hs,fun k e he j v hv=>by rw [hk b _ hn (by rw [hA];rfl) hlt];exact hc k e he j v hv⟩
theorem Rd.below (h:Rd enc sz w A n xs) (hb:Below w.heap.size w w'):Rd enc sz w' A n xs:=h.keep hb.size fun b o _ _ hlt=>(bcell hb).1 b o hlt
theorem Rd.blk {g T:Nat} (he:∀ x,(enc x).length=sz) (h:Blk w g T (cellsX enc xs).toArray):Rd enc sz w (some ⟨g,0,none⟩) xs.length xs:=by
 refine ⟨rfl,fun _=>⟨g,0,rfl,h.lt,fun k e hk j v hv=>?_⟩⟩
 have:=cellsX_get he xs k e hk j v hv
 rw [Nat.zero_add,h.cell]
 simpa using this
theorem Src.rd (he:∀ x,(enc x).length=sz) (h:Rd enc sz w A n xs):Src w sz A n (cellsX enc xs):=by
 refine ⟨by rw [cellsX_length he,h.1],fun hn=>?_⟩
 obtain ⟨b,off,hA,hb,hc⟩:=h.2 hn
 refine ⟨_,hA,fun j u hu=>?_⟩
 rw [Addr.add_lit]
 have hj:j<(cellsX enc xs).length:=(List.getElem?_eq_some_iff.1 hu).1
 rw [cellsX_length he] at hj
 have hsz:0<sz:=by
  rcases Nat.eq_zero_or_pos sz with h0|h0
  ·rw [h0] at hj;omega
  ·exact h0
 have hk:j / sz<xs.length:=Nat.div_lt_of_lt_mul (by rw [Nat.mul_comm];exact hj)
 have hm:j % sz<sz:=Nat.mod_lt _ hsz
 have hdm:j=j / sz * sz+j % sz:=by rw [Nat.mul_comm];exact (Nat.div_add_mod j sz).symm
 have hv:(enc xs[j / sz])[j % sz]?=some ((enc xs[j / sz])[j % sz]'(by rw [he];exact hm)):=List.getElem?_eq_getElem _
 have h1:=cellsX_get he xs _ _ (List.getElem?_eq_getElem hk) _ _ hv
 have h2:=hc _ _ (List.getElem?_eq_getElem hk) _ _ hv
 rw [← hdm] at h1
 rw [hu] at h1
 injection h1 with h1
 rw [h1]
 have h3:off+j=off+j / sz * sz+j % sz:=by omega
 rw [h3]
 exact h2
theorem Rd.src (he:∀ x,(enc x).length=sz) (hl:xs.length=n) (hw:∀ ad,0<n→A=some ad→ad.spot=none) (h:Src w sz A n (cellsX enc xs)) (hsz:0<sz):Rd enc sz w A n xs:=by
 refine ⟨hl,fun hn=>?_⟩
 obtain ⟨ad,hA,hc⟩:=h.2 hn
 obtain ⟨b,off,sp⟩:=ad
 obtain rfl:sp=none:=hw _ hn hA
 have hx:xs[0]?=some (xs[0]'(by omega)):=List.getElem?_eq_getElem _
 have hx0:(enc (xs[0]'(by omega)))[0]?=some ((enc (xs[0]'(by omega)))[0]'(by rw [he];exact hsz)):=List.getElem?_eq_getElem _
 have h0:=hc _ _ (cellsX_get he xs _ _ hx _ _ hx0)
 rw [Addr.add_lit] at h0
 refine ⟨b,off,hA,World.block_lt_of_cell? _ _ h0,fun k x hk j v hv=>?_⟩
 have:=hc _ _ (cellsX_get he xs k x hk j v hv)
 rw [Addr.add_lit] at this
 rw [Nat.add_assoc]
 exact this
theorem Ow.rd {B T c:Nat} (he:∀ x,(enc x).length=sz) (hsz:0<sz) (h:Ow B w T sz A n c (cellsX enc xs)):Rd enc sz w A n xs:=by
 have hl:=h.len
 rw [cellsX_length he] at hl
 refine Rd.src he (Nat.eq_of_mul_eq_mul_right hsz hl) (fun ad hn hA=>?_) h.src hsz
 obtain ⟨g,cur,hg,_⟩:=h.blk (Nat.lt_of_lt_of_le hn h.le)
 rw [hg] at hA
 injection hA with hA
 rw [← hA]
end
structure Frm (lo hi:Nat) (a b:World):Prop where
 os:b.os=a.os
 tape:b.tape=a.tape
 output:b.output=a.output
 size:a.heap.size≤b.heap.size
 block:∀ i,i<a.heap.size→(i<lo∨hi≤i)→b.heap[i]?=a.heap[i]?
section
variable {lo hi:Nat} {a b c w w':World}
theorem Blk.frm {x T:Nat} {cs:Array Value} (hb:Blk w x T cs) (h:Frm lo hi w w') (hne:x<lo∨hi≤x):Blk w' x T cs:=(h.block x hb.lt hne).trans hb
end
def OwI (lo hi:Nat) (w:World) (T size:Nat) (A:Option Addr) (n c:Nat) (xs:List Value):Prop :=
 Ow lo w T size A n c xs∧(0<c→∀ g,A.map (·.block)=some g→g<hi)
section
variable {lo hi:Nat} {w w':World} {T size n c:Nat} {A:Option Addr} {xs:List Value}
theorem OwI.of (h:Ow lo w T size A n c xs):OwI lo w.heap.size w T size A n c xs:=⟨h,fun hc _ hg=>(h.lt hg hc).2⟩
theorem OwI.lt (h:OwI lo hi w T size A n c xs) {g:Nat} (hg:A.map (·.block)=some g) (hc:0<c):lo≤g∧g<hi∧g<w.heap.size:=⟨(h.1.lt hg hc).1,h.2 hc g hg,(h.1.lt hg hc).2⟩
end
theorem into_world {P:Program} {c:Code} {Q:Exit→Act→World→Prop} {a:Act} {w:World} (R:World→Prop) (h:R w) (k:∀ w',R w'→Code.wp P c Q a w'):Code.wp P c Q a w:=k w h
theorem ba {w w':World} {o:Obj} (h:Below (w.alloc o).heap.size (w.alloc o) w'):Below w.heap.size w w':=((Below.refl _ _).alloc (Nat.le_refl _) _).trans (h.mono (by simp))
end Go.Proofs.YtpcjdalgebgofaaGreatDoorY
namespace Go.Proofs.YtpcjdalgebgofaaGreatDoorY
open Go.RowKit Go.Sort
set_option maxHeartbeats 400000 in
theorem l6In_any (n lo hi:Int) (w:World) :
  Calls Qy.prog 34 #[.int .i64 n,.int .i64 lo,.int .i64 hi] w fun e w'=>e=.returned (.bool (inR n lo hi))∧w=w':=by
 go_enter Qy.func34,Tryz.ntmps34
 go_wp2
 all_goals go_ret
 all_goals exact ⟨ret_bool (by simp [inR];omega),rfl⟩
end Go.Proofs.YtpcjdalgebgofaaGreatDoorY
namespace Go.Proofs.YtpcjdalgebgofaaGreatDoorY
open Go.RowKit Go.Sort
set_option maxHeartbeats 400000 in
theorem inRange_any (n lo hi:Int) (w:World) :
  Calls Qy.prog 39 #[.int .i64 n,.int .i64 lo,.int .i64 hi] w fun e w'=>e=.returned (.bool (inR n lo hi))∧w=w':=by
 go_enter Qy.func39,Tryz.ntmps39
 go_wp2
 all_goals go_ret
 all_goals exact ⟨ret_bool (by simp [inR];omega),rfl⟩
end Go.Proofs.YtpcjdalgebgofaaGreatDoorY
namespace Go.Proofs.YtpcjdalgebgofaaGreatDoorY
open Go.RowKit Go.Sort
end Go.Proofs.YtpcjdalgebgofaaGreatDoorY
namespace Go.Proofs.YtpcjdalgebgofaaGreatDoorY
open Go.RowKit Go.Sort
end Go.Proofs.YtpcjdalgebgofaaGreatDoorY
namespace Go.Proofs.YtpcjdalgebgofaaGreatDoorY
open Go.RowKit Go.Sort
abbrev Bx:=Int × Int × Int × Int
def encB (b:Bx):List Value:=[.int .i64 b.1,.int .i64 b.2.1,.int .i64 b.2.2.1,.int .i64 b.2.2.2]
theorem encB_len (b:Bx):(encB b).length=4:=rfl
theorem encB_one:∀ b,∀ u ∈ encB b,u.oneCell'=true:=by
 intro b u hu
 simp [encB] at hu
 rcases hu with rfl|rfl|rfl|rfl <;> rfl
abbrev cellsB:List Bx→List Value:=cellsX encB
abbrev RdB (w:World) (A:Option Addr) (n:Nat) (bs:List Bx):Prop:=Rd encB 4 w A n bs
theorem RdB.cells {w:World} {A:Option Addr} {n:Nat} {bs:List Bx} (h:RdB w A n bs) {k:Nat} (hk:k<n):∃ b off x,A=some ⟨b,off,none⟩∧b<w.heap.size∧bs[k]?=some x∧w.cell? ⟨b,off+k * 4,none⟩=some (.int .i64 x.1)∧w.cell? ⟨b,off+k * 4+1,none⟩=some (.int .i64 x.2.1)∧w.cell? ⟨b,off+k * 4+2,none⟩=some (.int .i64 x.2.2.1)∧w.cell? ⟨b,off+k * 4+3,none⟩=some (.int .i64 x.2.2.2):=by
 obtain ⟨b,off,x,hA,hb,hx,hc⟩:=h.at_ hk
 exact ⟨b,off,x,hA,hb,hx,hc 0 _ rfl,hc 1 _ rfl,hc 2 _ rfl,hc 3 _ rfl⟩
structure Lvl where
 id:Int
 ticks:Int
 sx:Int
 sy:Int
 walls:List Bx
 gates:List Bx
 f:Bx
 bans:Int
structure Trk where
 l:Lvl
 b:List Ent
structure Svc where
 ts:List Trk
 keys:List Int
 tags:List Int
structure Sl where
 a:Option Addr
 n:Nat
 c:Nat
structure TP where
 w:Sl
 g:Sl
 b:Sl
abbrev Row:=TP × Trk
abbrev Sl.v (s:Sl):Value:=.slice s.a s.n s.c
abbrev lvlV (l:Lvl) (ws gs:Sl):Value:=.agg #[.int .i64 l.id,.int .i64 l.ticks,.int .i64 l.sx,.int .i64 l.sy,.slice ws.a ws.n ws.c,.slice gs.a gs.n gs.c,.int .i64 l.f.1,.int .i64 l.f.2.1,.int .i64 l.f.2.2.1,.int .i64 l.f.2.2.2,.int .i64 l.bans]
abbrev cellsI (zs:List Int):List Value:=zs.map (Value.int .i64)
theorem cellsI_one (zs:List Int):∀ u ∈ cellsI zs,u.oneCell'=true:=by
 intro u hu
 obtain ⟨z,_,rfl⟩:=List.mem_map.1 hu
 rfl
theorem Src.ints {w:World} {A:Option Addr} {n:Nat} {zs:List Int} (h:RdI .i64 w A n zs):Src w 1 A n (cellsI zs):=by
 refine ⟨by simp [h.1],fun hn=>?_⟩
 obtain ⟨b,off,hA,hb,hc⟩:=h.2 hn
 refine ⟨_,hA,fun j u hu=>?_⟩
 rw [Addr.add_lit]
 simp only [cellsI,List.getElem?_map,Option.map_eq_some_iff] at hu
 obtain ⟨z,hz,rfl⟩:=hu
 exact hc j z hz
theorem Ow.rdI {B T c:Nat} {w:World} {A:Option Addr} {n:Nat} {zs:List Int} (h:Ow B w T 1 A n c (cellsI zs)):RdI .i64 w A n zs:=by
 have hl:=h.len
 refine ⟨by simpa using hl,fun hn=>?_⟩
 obtain ⟨g,cur,hg,_,hb,_⟩:=h.blk (Nat.lt_of_lt_of_le hn h.le)
 obtain ⟨ad,hA,hc⟩:=h.src.2 hn
 rw [hg] at hA
 injection hA with hA
 subst hA
 refine ⟨g,0,hg,hb.lt,fun j z hz=>?_⟩
 have:=hc j (.int .i64 z) (by simp [cellsI,hz])
 rw [Addr.add_lit] at this
 exact this
theorem RdI.blk {w:World} {g T:Nat} {zs:List Int} (h:Blk w g T (cellsI zs).toArray):RdI .i64 w (some ⟨g,0,none⟩) zs.length zs:=by
 refine ⟨rfl,fun _=>⟨g,0,rfl,h.lt,fun k e hk=>?_⟩⟩
 rw [Nat.zero_add,h.cell]
 simp [cellsI,hk]
def SlOk (n c:Nat):Prop:=n≤c∧n≤1048576
def RdL (w:World) (l:Lvl) (ws gs:Sl):Prop:=RdB w ws.a ws.n l.walls∧RdB w gs.a gs.n l.gates∧SlOk ws.n ws.c∧SlOk gs.n gs.c
section
variable {w w':World} {l:Lvl} {ws gs:Sl} {x:Row} {A:Option Addr} {n:Nat} {xs:List Row} {S:Svc} {t k g:Sl}
theorem RdL.below (h:RdL w l ws gs) (hb:Below w.heap.size w w'):RdL w' l ws gs:=⟨h.1.below hb,h.2.1.below hb,h.2.2⟩
end
section
variable {lo hi lo' hi':Nat} {w w':World} {l:Lvl} {ws gs:Sl} {x:Row} {xs:List Row} {S:Svc} {t k g:Sl}
end
theorem infoB:(Qy.prog.info? 27).map (fun i=>(i.zero,i.size,i.bytes))=some (some (.agg #[.int .i64 0,.int .i64 0,.int .i64 0,.int .i64 0]),4,32):=by kernel_rfl
theorem infoZ:(Qy.prog.info? 3).map (fun i=>(i.zero,i.size,i.bytes))=some (some (.int .i64 0),1,8):=by kernel_rfl
end Go.Proofs.YtpcjdalgebgofaaGreatDoorY
namespace Go.Proofs.YtpcjdalgebgofaaGreatDoorY
open Go.RowKit Go.Sort
def inC (n:Int):Bool:=inR n (-1000000) 1000000
def vecOk (x y:Int):Bool:=inC x && inC y
def boxOk (b:Bx):Bool:=vecOk b.1 b.2.1 && vecOk b.2.2.1 b.2.2.2 && decide (b.1≤b.2.2.1) && decide (b.2.1≤b.2.2.2)
def nearW (p q x y r:Int):Bool :=
 decide (wrap64 (wrap64 (wrap64 (x - p) * wrap64 (x - p))+wrap64 (wrap64 (y - q) * wrap64 (y - q)))≤wrap64 (r * r))
def touchW (b:Bx) (x y r:Int):Bool:=nearW (max b.1 (min x b.2.2.1)) (max b.2.1 (min y b.2.2.2)) x y r
def freeW (bs:List Bx) (x y:Int):Bool:=bs.all fun b=>!touchW b x y 500
def levelOk (l:Lvl):Bool :=
 inR l.id 0 99 && inR l.ticks 1 60 && vecOk l.sx l.sy && decide ((l.walls.length:Int)≤4) && l.walls.all boxOk && decide ((l.gates.length:Int)≤3) && l.gates.all boxOk && boxOk l.f && inR l.bans 0 3 && freeW l.walls l.sx l.sy
set_option maxHeartbeats 400000 in
theorem specVecOk_any (x y:Int) (w:World) :
  Calls Qy.prog 70 #[.agg #[.int .i64 x,.int .i64 y]] w fun e w'=>e=.returned (.bool (vecOk x y))∧Below w.heap.size w w':=by
 go_enter Qy.func70,Tryz.ntmps70
 go_wp2_with (first|(go_at_call 34;refine (l6In_any _ _ _ _).mono ?_;rintro e w' ⟨rfl,rfl⟩))
 all_goals go_ret
 all_goals exact ⟨ret_bool (by simp [vecOk,inC, *]),(Below.refl _ _).alloc (Nat.le_refl _) _⟩
set_option maxHeartbeats 1000000 in
theorem specBoxValid_any (b:Bx) (w:World) :
  Calls Qy.prog 72 #[.agg #[.int .i64 b.1,.int .i64 b.2.1,.int .i64 b.2.2.1,.int .i64 b.2.2.2]] w fun e w'=>e=.returned (.bool (boxOk b))∧Below w.heap.size w w':=by
 obtain ⟨b1,b2,b3,b4⟩:=b
 go_enter Qy.func72,Tryz.ntmps72
 go_wp2_with fail
 refine (specVecOk_any _ _ _).mono ?_
 rintro e w1 ⟨rfl,hb1⟩
 have k1:=(Blk.new _ _ _).next hb1
 have c2:w1.cell? ⟨w.heap.size,2,none⟩=some (.int .i64 b3):=k1.cell 2
 have c3:w1.cell? ⟨w.heap.size,3,none⟩=some (.int .i64 b4):=k1.cell 3
 have HB1:=Lib.hid (ba hb1)
 clear hb1
 cases h1:vecOk b1 b2
 ·go_wp2_with fail
  go_ret
  exact ⟨ret_bool (by simp [boxOk,h1]),HB1.out⟩
 ·go_wp2_with fail
  refine (specVecOk_any _ _ _).mono ?_
  rintro e w2 ⟨rfl,hb2⟩
  have k2:=k1.next hb2
  have d0:w2.cell? ⟨w.heap.size,0,none⟩=some (.int .i64 b1):=k2.cell 0
  have d1:w2.cell? ⟨w.heap.size,1,none⟩=some (.int .i64 b2):=k2.cell 1
  have d2:w2.cell? ⟨w.heap.size,2,none⟩=some (.int .i64 b3):=k2.cell 2
  have d3:w2.cell? ⟨w.heap.size,3,none⟩=some (.int .i64 b4):=k2.cell 3
  have HB2:=Lib.hid (below_next HB1.out hb2)
  clear c2 c3 hb2 k1 k2
  cases h2:vecOk b3 b4
  ·go_wp2_with fail
   go_ret
   exact ⟨ret_bool (by simp [boxOk,h1,h2]),HB2.out⟩
  ·go_wp2_with fail
   all_goals go_ret
   all_goals exact ⟨ret_bool (by simp only [boxOk,h1,h2];simp;omega),HB2.out⟩
set_option maxHeartbeats 1000000 in
theorem l3Nearest_any (b:Bx) (x y:Int) (w:World) :
  Calls Qy.prog 140 #[.agg #[.int .i64 b.1,.int .i64 b.2.1,.int .i64 b.2.2.1,.int .i64 b.2.2.2],.agg #[.int .i64 x,.int .i64 y]] w fun e w'=>e=.returned (.agg #[.int .i64 (max b.1 (min x b.2.2.1)),.int .i64 (max b.2.1 (min y b.2.2.2))])∧Below w.heap.size w w':=by
 obtain ⟨b1,b2,b3,b4⟩:=b
 go_enter Qy.func140,Tryz.ntmps140
 go_wp2
 all_goals
  refine bodyPost_ret (v:=.agg #[.int .i64 (max b1 (min x b3)),.int .i64 (max b2 (min y b4))]) (by simp [results,Tryz.results140,go_sem];omega) rfl ⟨rfl,by go_grown⟩
set_option maxHeartbeats 1000000 in
theorem l3Touches_any (b:Bx) (x y r:Int) (w:World) :
  Calls Qy.prog 107 #[.agg #[.int .i64 b.1,.int .i64 b.2.1,.int .i64 b.2.2.1,.int .i64 b.2.2.2],.agg #[.int .i64 x,.int .i64 y],.int .i64 r] w fun e w'=>e=.returned (.bool (touchW b x y r))∧Below w.heap.size w w':=by
 have N:=fun W=>l3Nearest_any b x y W
 unfold touchW
 generalize max b.1 (min x b.2.2.1)=p at N ⊢
 generalize max b.2.1 (min y b.2.2.2)=q at N ⊢
 have HN:=Lib.hid N
 clear N
 go_enter Qy.func107,Tryz.ntmps107
 go_wp2_with fail
 refine (HN.out _).mono ?_
 rintro e w1 ⟨rfl,hb1⟩
 have k1:=(Blk.newAt _ _ _ (w.heap.size+1) (by simp)).next hb1
 have c0:w1.cell? ⟨w.heap.size+1,0,none⟩=some (.int .i64 x):=k1.cell 0
 have c1:w1.cell? ⟨w.heap.size+1,1,none⟩=some (.int .i64 y):=k1.cell 1
 have HB1:=Lib.hid (ba (ba hb1))
 have hz1:=hb1.size
 simp at hz1
 have hz:w.heap.size+1<w1.heap.size:=by omega
 clear hb1 k1 hz1
 go_wp2_with fail
 go_ret
 exact ⟨ret_bool rfl,HB1.out.alloc HB1.out.size _⟩
set_option maxHeartbeats 1000000 in
theorem l11Boxes_any (A:Option Addr) (n c:Nat) (bs:List Bx) (w:World) (hr:RdB w A n bs) (hn:n≤1099511627776) :
  Calls Qy.prog 71 #[.slice A n c] w fun e w'=>e=.returned (.bool (bs.all boxOk))∧Below w.heap.size w w':=by
 have HR:=Lib.hid hr;clear hr
 go_enter Qy.func71,Tryz.ntmps71
 go_wp2
 go_loopw [3] (fun i wr=>∃ k:Nat,k≤n∧i=.int .i64 k∧Hid (Below w.heap.size w wr∧bs.all boxOk=(bs.drop k).all boxOk)) (fun i _=>n - (intOf i).toNat)
 case atStart=>exact ⟨0,Nat.zero_le _,rfl,Below.refl _ _,rfl⟩
 case round =>
  obtain ⟨k,hk,rfl,HB⟩:=hrel
  by_cases hlt:k<n
  ·obtain ⟨b,off,x,hA,hb,hx,h0,h1,h2,h3⟩:=RdB.cells (HR.out.below HB.out.1) hlt
   subst hA
   have hd:(bs.drop k).all boxOk=(boxOk x && (bs.drop (k+1)).all boxOk):=by
    obtain ⟨hk',he⟩:=List.getElem?_eq_some_iff.1 hx
    rw [List.drop_eq_getElem_cons hk',he];rfl
   have HD:=Lib.hid hd
   clear hd hx
   go_wp2_with fail
   refine (specBoxValid_any _ _).mono ?_
   rintro e w1 ⟨rfl,hb1⟩
   cases ho:boxOk x
   ·have HO:=Lib.hid ho
    clear ho
    go_wp2_with fail
    go_ret
    exact ⟨ret_bool (by rw [HB.out.2,HD.out,HO.out];rfl),below_next HB.out.1 hb1⟩
   ·have HO:=Lib.hid ho
    clear ho
    go_wp2_with fail
    exact ⟨⟨k+1,by omega,by go_num,below_next HB.out.1 hb1,by rw [HB.out.2,HD.out,HO.out];rfl⟩,by simp [intOf];omega⟩
  ·go_wp2
   go_ret
   exact ⟨ret_bool (by rw [HB.out.2,List.drop_of_length_le (by rw [HR.out.len];omega)];rfl),HB.out.1⟩
theorem freeW_step {bs:List Bx} {k:Nat} {x:Bx} {px py:Int} (h:bs[k]?=some x):freeW (bs.drop k) px py=(!touchW x px py 500 && freeW (bs.drop (k+1)) px py):=by
 obtain ⟨hk',he⟩:=List.getElem?_eq_some_iff.1 h
 rw [List.drop_eq_getElem_cons hk',he];rfl
set_option maxHeartbeats 2000000 in
theorem l11Free_any (l:Lvl) (ws gs:Sl) (x y:Int) (w:World) (hr:RdB w ws.a ws.n l.walls) (hn:ws.n≤1099511627776) :
  Calls Qy.prog 73 #[lvlV l ws gs,.agg #[.int .i64 x,.int .i64 y]] w fun e w'=>e=.returned (.bool (freeW l.walls x y))∧Below w.heap.size w w':=by
 have HR:=Lib.hid hr;clear hr
 go_enter Qy.func73,Tryz.ntmps73
 go_wp2
 go_loopw [5] (fun i wr=>∃ k:Nat,k≤ws.n∧i=.int .i64 k∧Hid (Below w.heap.size w wr∧Blk wr w.heap.size 29 (match lvlV l ws gs with|.agg cs=>cs|_=>#[])∧Blk wr (w.heap.size+1) 24 #[.int .i64 x,.int .i64 y]∧freeW l.walls x y=freeW (l.walls.drop k) x y)) (fun i _=>ws.n - (intOf i).toNat)
 case atStart=>exact ⟨0,Nat.zero_le _,rfl,by go_grown,(Blk.new _ _ _).alloc _,Blk.newAt _ _ _ _ (by simp),rfl⟩
 case round =>
  obtain ⟨k,hk,rfl,HB⟩:=hrel
  have c4:wr.cell? ⟨w.heap.size,4,none⟩=some (.slice ws.a ws.n ws.c):=HB.out.2.1.cell 4
  by_cases hlt:k<ws.n
  ·obtain ⟨b,off,z,hA,hb,hx,h0,h1,h2,h3⟩:=RdB.cells (HR.out.below HB.out.1) hlt
   have HA:=Lib.hid hA
   rw [hA] at c4
   have HST:=Lib.hid (freeW_step (px:=x) (py:=y) hx)
   have d0:wr.cell? ⟨w.heap.size+1,0,none⟩=some (.int .i64 x):=HB.out.2.2.1.cell 0
   have d1:wr.cell? ⟨w.heap.size+1,1,none⟩=some (.int .i64 y):=HB.out.2.2.1.cell 1
   have c4':=fun d os=>cell_regrown c4 d os
   have h0':=fun d os=>cell_regrown h0 d os
   have h1':=fun d os=>cell_regrown h1 d os
   have h2':=fun d os=>cell_regrown h2 d os
   have h3':=fun d os=>cell_regrown h3 d os
   have d0':=fun d os=>cell_regrown d0 d os
   have d1':=fun d os=>cell_regrown d1 d os
   clear hA hx h0 h1 h2 h3 d0 d1
   go_wp2_with fail
   refine wp_region_qb (by kernel_rfl) (by kernel_rfl) ?_
   repeat (go_big_quiet_step ((go_at_call 107;exact Calls.regrown_of (l3Touches_any _ _ _ _ _))))
   refine wpQuiet_nil ?_
   intro w1 hb1
   have HB1:=Lib.hid hb1
   clear hb1
   cases ht:touchW z x y 500
   ·have HT:=Lib.hid ht
    clear ht
    go_wp2_with fail
    exact ⟨⟨k+1,by omega,by go_num,below_next HB.out.1 HB1.out,HB.out.2.1.next HB1.out,HB.out.2.2.1.next HB1.out,by rw [HB.out.2.2.2,HST.out,HT.out];rfl⟩,by simp [intOf];omega⟩
   ·have HT:=Lib.hid ht
    clear ht
    go_wp2_with fail
    go_ret
    exact ⟨ret_bool (by rw [HB.out.2.2.2,HST.out,HT.out];rfl),below_next HB.out.1 HB1.out⟩
  ·go_wp2
   go_ret
   exact ⟨ret_bool (by rw [HB.out.2.2.2,List.drop_of_length_le (by rw [HR.out.len];omega)];rfl),HB.out.1⟩
set_option maxHeartbeats 4000000 in
theorem specLevelValid_any (l:Lvl) (ws gs:Sl) (w:World) (hr:RdL w l ws gs) :
  Calls Qy.prog 33 #[lvlV l ws gs] w fun e w'=>e=.returned (.bool (levelOk l))∧Below w.heap.size w w':=by
 obtain ⟨hr1,hr2,⟨_,hn1⟩,_,hn2⟩:=hr
 have HR1:=Lib.hid hr1
 have HR2:=Lib.hid hr2
 have hl1:=hr1.len
 have hl2:=hr2.len
 have HL1:=Lib.hid hl1
 have HL2:=Lib.hid hl2
 clear hr1 hr2 hl1 hl2
 go_enter Qy.func33,Tryz.ntmps33
 go_wp2_with fail
 refine (l6In_any _ _ _ _).mono ?_
 rintro e w' ⟨rfl,rfl⟩
 cases h1:inR l.id 0 99
 ·go_wp2_with fail
  go_ret
  exact ⟨ret_bool (by simp [levelOk,h1]),by go_grown⟩
 ·skip
  go_wp2_with fail
  refine (l6In_any _ _ _ _).mono ?_
  rintro e w' ⟨rfl,rfl⟩
  cases h2:inR l.ticks 1 60
  ·go_wp2_with fail
   go_ret
   exact ⟨ret_bool (by simp [levelOk,h1,h2]),by go_grown⟩
  ·skip
   go_wp2_with fail
   refine (specVecOk_any _ _ _).mono ?_
   rintro e w1 ⟨rfl,hb1⟩
   have k1:=(Blk.new _ _ _).next hb1
   have HB1:=Lib.hid (ba hb1)
   have c1:=fun o=>k1.cell o
   clear hb1
   cases h3:vecOk l.sx l.sy
   ·go_wp2_with fail
    go_ret
    exact ⟨ret_bool (by simp [levelOk,h1,h2,h3]),HB1.out⟩
   ·skip
    by_cases h4:(ws.n:Int)≤4
    rotate_left
    ·go_wp2_with fail
     go_ret
     exact ⟨ret_bool (by simp [levelOk,show ¬ (l.walls.length:Int)≤4 from by rw [HL1.out];omega]),HB1.out⟩
    ·skip
     go_wp2_with fail
     refine (l11Boxes_any _ _ _ _ _ (HR1.out.below HB1.out) (by omega)).mono ?_
     rintro e w2 ⟨rfl,hb2⟩
     have k2:=k1.next hb2
     have HB2:=Lib.hid (below_next HB1.out hb2)
     clear c1
     have c2:=fun o=>k2.cell o
     clear hb2
     cases h5:l.walls.all boxOk
     ·go_wp2_with fail
      go_ret
      exact ⟨ret_bool (by simp [levelOk,h1,h2,h3,h5]),HB2.out⟩
     ·skip
      by_cases h6:(gs.n:Int)≤3
      rotate_left
      ·go_wp2_with fail
       go_ret
       exact ⟨ret_bool (by simp [levelOk,show ¬ (l.gates.length:Int)≤3 from by rw [HL2.out];omega]),HB2.out⟩
      ·skip
       go_wp2_with fail
       refine (l11Boxes_any _ _ _ _ _ (HR2.out.below HB2.out) (by omega)).mono ?_
       rintro e w3 ⟨rfl,hb3⟩
       have k3:=k2.next hb3
       have HB3:=Lib.hid (below_next HB2.out hb3)
       clear c2
       have c3:=fun o=>k3.cell o
       clear hb3
       cases h7:l.gates.all boxOk
       ·go_wp2_with fail
        go_ret
        exact ⟨ret_bool (by simp [levelOk,h1,h2,h3,h5,h7]),HB3.out⟩
       ·skip
        go_wp2_with fail
        refine (specBoxValid_any _ _).mono ?_
        rintro e w4 ⟨rfl,hb4⟩
        have k4:=k3.next hb4
        have HB4:=Lib.hid (below_next HB3.out hb4)
        clear c3
        have c4:=fun o=>k4.cell o
        clear hb4
        cases h8:boxOk l.f
        ·go_wp2_with fail
         go_ret
         exact ⟨ret_bool (by simp [levelOk,h1,h2,h3,h5,h7,h8]),HB4.out⟩
        ·skip
         go_wp2_with fail
         refine (l6In_any _ _ _ _).mono ?_
         rintro e w' ⟨rfl,rfl⟩
         cases h9:inR l.bans 0 3
         ·go_wp2_with fail
          go_ret
          exact ⟨ret_bool (by simp [levelOk,h1,h2,h3,h5,h7,h8,h9]),HB4.out⟩
         ·skip
          go_wp2_with fail
          refine (l11Free_any l ws gs _ _ _ (HR1.out.below HB4.out) (by omega)).mono ?_
          rintro e w5 ⟨rfl,hb5⟩
          go_wp2_with fail
          go_ret
          have h4':(l.walls.length:Int)≤4:=by rw [HL1.out];exact h4
          have h6':(l.gates.length:Int)≤3:=by rw [HL2.out];exact h6
          exact ⟨ret_bool (by simp [levelOk,h1,h2,h3,h4',h5,h6',h7,h8,h9]),below_next HB4.out hb5⟩
end Go.Proofs.YtpcjdalgebgofaaGreatDoorY
namespace Go.Proofs.YtpcjdalgebgofaaGreatDoorY
open Go.RowKit Go.Sort
def mulW (a b:Int):Int:=wrap64 ((wrap64 (a * b)).tdiv 1000)
set_option maxRecDepth 100000 in
set_option maxHeartbeats 400000 in
theorem l1Mul_any (a b:Int) (w:World):Calls Qy.prog 163 #[.int .i64 a,.int .i64 b] w fun e w'=>e=.returned (.int .i64 (mulW a b))∧w'=w:=by
 go_enter Qy.func163,Tryz.ntmps163
 go_wp2
 go_ret
 exact ⟨rfl,rfl⟩
def IsRoot (n m:Int):Prop:=0≤m∧m≤2000000∧(m=0∨m * m≤n)∧(m=2000000∨n<(m+1) * (m+1))
theorem IsRoot.eq {n m k:Int} (h:IsRoot n m) (h':IsRoot n k):m=k:=by
 obtain ⟨a1,a2,a3,a4⟩:=h
 obtain ⟨b1,b2,b3,b4⟩:=h'
 rcases Int.lt_trichotomy m k with hlt|he|hlt
 ·exfalso
  have h1:(m+1) * (m+1)≤k * k:=Int.mul_le_mul (by omega) (by omega) (by omega) (by omega)
  rcases b3 with b3|b3 <;> rcases a4 with a4|a4 <;> omega
 ·exact he
 ·exfalso
  have h1:(k+1) * (k+1)≤m * m:=Int.mul_le_mul (by omega) (by omega) (by omega) (by omega)
  rcases a3 with a3|a3 <;> rcases b4 with b4|b4 <;> omega
open Classical in
noncomputable def rootOf (n:Int):Int:=if h:∃ m,IsRoot n m then h.choose else 0
theorem rootOf_eq {n m:Int} (h:IsRoot n m):rootOf n=m:=by
 have hex:∃ m,IsRoot n m:=⟨m,h⟩
 unfold rootOf
 rw [dif_pos hex]
 exact IsRoot.eq hex.choose_spec h
set_option maxRecDepth 100000 in
set_option maxHeartbeats 1000000 in
theorem l1Sqrt_root (n:Int) (w:World):Calls Qy.prog 167 #[.int .i64 n] w fun e w'=>(∃ m,e=.returned (.int .i64 m)∧IsRoot n m)∧w'=w:=by
 go_enter Qy.func167,Tryz.ntmps167
 go_wp2_with fail
 go_loopw [3,4] (fun lo hi wr=>∃ a b:Int,lo=.int .i64 a∧hi=.int .i64 b∧0≤a∧a≤b∧b≤2000000∧Hid ((a=0∨a * a≤n)∧(b=2000000∨n<(b+1) * (b+1)))∧wr=w) (fun lo hi _=>(intOf hi - intOf lo).toNat)
 case atStart=>exact ⟨0,2000000,rfl,rfl,by omega,by omega,by omega,⟨.inl rfl,.inl rfl⟩,rfl⟩
 case round =>
  obtain ⟨a,b,rfl,rfl,ha,hab,hb,HH,rfl⟩:=hrel
  by_cases hlt:a<b
  ·obtain ⟨m,hm⟩:∃ m,m=(a+b+1) / 2:=⟨_,rfl⟩
   have h0:0≤(a+b+1) / 2 * ((a+b+1) / 2):=by rw [← hm];exact Int.mul_nonneg (by omega) (by omega)
   have h1:(a+b+1) / 2 * ((a+b+1) / 2)≤4000000000000:=by
    rw [← hm]
    exact Int.le_trans (Int.mul_le_mul (show m≤2000000 by omega) (show m≤2000000 by omega) (by omega) (by omega)) (by decide)
   by_cases hle:(a+b+1) / 2 * ((a+b+1) / 2)≤n
   ·go_wp2_with fail
    exact ⟨⟨(a+b+1) / 2,b,rfl,rfl,by omega,by omega,by omega,⟨.inr hle,HH.out.2⟩,trivial⟩,by simp [intOf];omega⟩
   ·go_wp2_with fail
    exact ⟨⟨a,(a+b+1) / 2 - 1,rfl,rfl,by omega,by omega,by omega,⟨HH.out.1,.inr (by rw [show (a+b+1) / 2 - 1+1=(a+b+1) / 2 by omega];omega)⟩,trivial⟩,by simp [intOf];omega⟩
  ·obtain rfl:a=b:=by omega
   go_wp2_with fail
   go_ret
   exact ⟨⟨a,rfl,ha,hb,HH.out.1,HH.out.2⟩,rfl⟩
theorem l1Sqrt_any (n:Int) (w:World):Calls Qy.prog 167 #[.int .i64 n] w fun e w'=>e=.returned (.int .i64 (rootOf n))∧0≤rootOf n∧rootOf n≤2000000∧w'=w :=
 (l1Sqrt_root n w).mono fun e w' h=>by
  obtain ⟨⟨m,rfl,hm⟩,rfl⟩:=h
  rw [rootOf_eq hm]
  exact ⟨rfl,hm.1,hm.2.1,rfl⟩
set_option maxRecDepth 100000 in
set_option maxHeartbeats 1000000 in
theorem l2Scale_any (x y k:Int) (w:World):Calls Qy.prog 156 #[.agg #[.int .i64 x,.int .i64 y],.int .i64 k] w fun e w'=>e=.returned (.agg #[.int .i64 (mulW x k),.int .i64 (mulW y k)])∧Below w.heap.size w w':=by
 go_enter Qy.func156,Tryz.ntmps156
 go_wp2_with fail
 refine into_world (fun W=>Below w.heap.size w W∧w.heap.size+1<W.heap.size∧Blk W w.heap.size 24 #[.int .i64 x,.int .i64 y]∧Blk W (w.heap.size+1) 24 #[.int .i64 0,.int .i64 0]) ⟨by go_grown,by simp,(Blk.new _ _ _).alloc _,Blk.newAt _ _ _ _ (by simp)⟩ ?_
 rintro W ⟨hb,hz,k0,k1⟩
 have c0:W.cell? ⟨w.heap.size,0,none⟩=some (.int .i64 x):=k0.cell 0
 have c1:W.cell? ⟨w.heap.size,1,none⟩=some (.int .i64 y):=k0.cell 1
 have HB:=Lib.hid hb
 have K1:=Lib.hid k1
 clear hb k0 k1
 go_still_tail 9,(by kernel_rfl)
 still_call (l1Mul_any _ _ _)
 repeat still_step
 still_call (l1Mul_any _ _ _)
 repeat still_step
 refine wpStill_nil ?_
 change wpList _ _ _ _ _ W.drew
 have d:=fun o=>K1.out.cell o
 have f:=fun o=>K1.out.frozen o
 have z:=K1.out.lt
 clear c0 c1
 go_wp2
 refine bodyPost_ret (v:=.agg #[.int .i64 (mulW x k),.int .i64 (mulW y k)]) (by simp [results,Tryz.results156,go_sem,d]) rfl ⟨rfl,?_⟩
 have hb:=HB.out
 go_grown
noncomputable def lenW (x y:Int):Int:=rootOf (wrap64 (wrap64 (x * x)+wrap64 (y * y)))
set_option maxRecDepth 100000 in
set_option maxHeartbeats 1000000 in
theorem l2Length_any (x y:Int) (w:World):Calls Qy.prog 164 #[.agg #[.int .i64 x,.int .i64 y]] w fun e w'=>e=.returned (.int .i64 (lenW x y))∧0≤lenW x y∧lenW x y≤2000000∧Below w.heap.size w w':=by
 go_enter Qy.func164,Tryz.ntmps164
 go_wp2_with fail
 refine (l1Sqrt_any _ _).mono ?_
 rintro e w1 ⟨rfl,h0,h1,rfl⟩
 go_wp2_with fail
 go_ret
 exact ⟨rfl,h0,h1,by go_grown⟩
def dirT:List Int:=[1000,924,707,383,0,-383,-707,-924,-1000,-924,-707,-383,0,383,707,924]
def dirW (d:Nat):Int:=(dirT[d]?).getD 0
set_option maxRecDepth 100000 in
set_option maxHeartbeats 1000000 in
theorem l2Direction_at (d d2:Nat) (hd:d<16) (h2:(d+12) % 16=d2) (w:World):Calls Qy.prog 157 #[.int .i64 d] w fun e w'=>e=.returned (.agg #[.int .i64 (dirW d),.int .i64 (dirW d2)])∧Below w.heap.size w w':=by
 have hK:=fun W:World=>Blk.new W 3 #[.int .i64 1000,.int .i64 924,.int .i64 707,.int .i64 383,.int .i64 0,.int .i64 (-383),.int .i64 (-707),.int .i64 (-924),.int .i64 (-1000),.int .i64 (-924),.int .i64 (-707),.int .i64 (-383),.int .i64 0,.int .i64 383,.int .i64 707,.int .i64 924]
 have hc:∀ (W:World) (k:Nat),k<16→(W.alloc (.cells #[.int .i64 1000,.int .i64 924,.int .i64 707,.int .i64 383,.int .i64 0,.int .i64 (-383),.int .i64 (-707),.int .i64 (-924),.int .i64 (-1000),.int .i64 (-924),.int .i64 (-707),.int .i64 (-383),.int .i64 0,.int .i64 383,.int .i64 707,.int .i64 924] 3)).cell? ⟨W.heap.size,k,none⟩=some (.int .i64 (dirW k)):=by
  intro W k hk
  rw [(hK W).cell]
  have:k=0∨k=1∨k=2∨k=3∨k=4∨k=5∨k=6∨k=7∨k=8∨k=9∨k=10∨k=11∨k=12∨k=13∨k=14∨k=15:=by omega
  rcases this with rfl|rfl|rfl|rfl|rfl|rfl|rfl|rfl|rfl|rfl|rfl|rfl|rfl|rfl|rfl|rfl <;> rfl
 have hd1:=hc (w.alloc (.cells #[.int .i64 0,.int .i64 0] 24)) d hd
 have hd2:=hc (w.alloc (.cells #[.int .i64 0,.int .i64 0] 24)) d2 (by omega)
 have hdi:(d:Int)<16:=by omega
 clear hK hc
 go_enter Qy.func157,Tryz.ntmps157
 go_wp2_with fail
 refine into_world (fun W=>Below w.heap.size w W∧w.heap.size+1<W.heap.size∧Blk W w.heap.size 24 #[.int .i64 0,.int .i64 0]∧W.cell? ⟨w.heap.size+1,d,none⟩=some (.int .i64 (dirW d))∧W.cell? ⟨w.heap.size+1,d2,none⟩=some (.int .i64 (dirW d2))) ⟨by go_grown,by simp,(Blk.new _ _ _).alloc _,by simpa using hd1,by simpa using hd2⟩ ?_
 rintro W ⟨hb,hz,k0,c1,c2⟩
 have HB:=Lib.hid hb
 have K0:=Lib.hid k0
 clear hb k0 hd1 hd2
 have hq2:(IntKind.i64.wrap ((d:Int)+12)).tmod 16=(d2:Int):=by
  rw [IntWalk.i64_in _ (by omega),Int.tmod_eq_emod_of_nonneg (by omega)]
  omega
 have hdn:(d2:Int)<16:=by omega
 clear h2
 go_still_tail 11,(by kernel_rfl)
 change wpList _ _ _ _ _ W.drew
 have dk:=fun o=>K0.out.cell o
 have f:=fun o=>K0.out.frozen o
 have z:=K0.out.lt
 clear c1 c2
 go_wp2
 refine bodyPost_ret (v:=.agg #[.int .i64 (dirW d),.int .i64 (dirW d2)]) (by simp [results,Tryz.results157,go_sem,dk]) rfl ⟨rfl,?_⟩
 have hb:=HB.out
 go_grown
noncomputable def clampW (x y m:Int):Int × Int:=if lenW x y≤m then (x,y) else (wrap64 ((wrap64 (x * m)).tdiv (lenW x y)),wrap64 ((wrap64 (y * m)).tdiv (lenW x y)))
set_option maxRecDepth 100000 in
set_option maxHeartbeats 1000000 in
theorem l2Clamp_any (x y m:Int) (hm:0≤m) (w:World):Calls Qy.prog 158 #[.agg #[.int .i64 x,.int .i64 y],.int .i64 m] w fun e w'=>e=.returned (.agg #[.int .i64 (clampW x y m).1,.int .i64 (clampW x y m).2])∧Below w.heap.size w w':=by
 go_enter Qy.func158,Tryz.ntmps158
 go_wp2_with fail
 refine (l2Length_any _ _ _).mono ?_
 rintro e w1 ⟨rfl,h0,h1,hb⟩
 have k0:w1.cell? ⟨w.heap.size,0,none⟩=some (.int .i64 x):=(((Blk.new _ _ _).alloc _).next hb).cell 0
 have k1:w1.cell? ⟨w.heap.size,1,none⟩=some (.int .i64 y):=(((Blk.new _ _ _).alloc _).next hb).cell 1
 have HB:=Lib.hid (ba (ba hb))
 have hz:=hb.size
 simp at hz
 have K1:=Lib.hid ((Blk.newAt _ _ _ (w.heap.size+1) (by simp)).next hb)
 by_cases hle:lenW x y≤m
 ·have hcl:clampW x y m=(x,y):=by simp [clampW,hle]
  have d:=fun o=>K1.out.cell o
  have f:=fun o=>K1.out.frozen o
  have z:=K1.out.lt
  go_wp2_with fail
  refine bodyPost_ret (v:=.agg #[.int .i64 x,.int .i64 y]) (by simp [results,Tryz.results158,go_sem,d]) rfl ⟨by rw [hcl],?_⟩
  have hb:=HB.out
  go_grown
 ·have hcl:clampW x y m=(wrap64 ((wrap64 (x * m)).tdiv (lenW x y)),wrap64 ((wrap64 (y * m)).tdiv (lenW x y))):=by simp [clampW,hle]
  have hne:((lenW x y) == 0)=false:=by simp;omega
  go_wp2_with fail
  have hnz:¬ lenW x y=0:=by omega
  go_still_tail 13,(by kernel_rfl)
  change wpList _ _ _ _ _ w1.drew
  have d:=fun o=>K1.out.cell o
  have f:=fun o=>K1.out.frozen o
  have z:=K1.out.lt
  go_wp2
  refine bodyPost_ret (v:=.agg #[.int .i64 (wrap64 ((wrap64 (x * m)).tdiv (lenW x y))),.int .i64 (wrap64 ((wrap64 (y * m)).tdiv (lenW x y)))]) (by simp [results,Tryz.results158,go_sem,d]) rfl ⟨by rw [hcl],?_⟩
  have hb:=HB.out
  go_grown
end Go.Proofs.YtpcjdalgebgofaaGreatDoorY

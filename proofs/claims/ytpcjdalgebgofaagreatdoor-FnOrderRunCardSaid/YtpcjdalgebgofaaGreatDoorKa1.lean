/-
  Lemmas and contracts: Qa Qb Qc Qd. No condition.
-/
import Derived.Conc.FxBegin
import Derived.Calls
import Derived.Laws.Sem
set_option linter.unusedSimpArgs false
set_option linter.unusedVariables false
set_option linter.unusedSectionVars false
namespace Go.Proofs.YtpcjdalgebgofaaGreatDoor
open Go Go.Conc
abbrev withF (P:Program) (F:Array Func):Program:={ P with funcs:=F }
abbrev poison:Obj:=.stringIter ByteArray.empty 0
def okS:Obj→Prop
 | .cells c _ f=>c.size≠0∧f=(0,0)
 | .loop _|.deferred _|.pending _ _=>True
 | _=>False
def okMark:Mark→Bool
 | .noRoom|Mark.extern _=>true
 | _=>false
def EvN (S:Nat→Option Obj) (n:Nat) (x:Event):Prop:=(∀ a:Addr,x.loc=.cell a→S a.block=none∧a.block<n)∧(∀ r,x.loc=.obj r→r<n)∧∀ m,x.loc=.mark m→okMark m=true
theorem EvN.obj (S:Nat→Option Obj) {n r:Nat} (h:r<n) (a b:Bool):EvN S n ⟨.obj r,a,b⟩:=⟨fun _ h=>(by cases h),(fun _ e=>by cases e;exact h),fun _ h=>(by cases h)⟩
theorem EvN.cell {S:Nat→Option Obj} {n:Nat} {a:Addr} (h:S a.block=none) (hn:a.block<n) (b c:Bool):EvN S n ⟨.cell a,b,c⟩:=⟨fun x hx=>(by cases hx;exact ⟨h,hn⟩),fun _ h=>(by cases h),fun _ h=>(by cases h)⟩
theorem EvN.more {S:Nat→Option Obj} {n k:Nat} {x:Event} (h:EvN S n x) (hk:n≤k):EvN S k x:=⟨fun a ha=>⟨(h.1 a ha).1,Nat.lt_of_lt_of_le (h.1 a ha).2 hk⟩,fun r hr=>Nat.lt_of_lt_of_le (h.2.1 r hr) hk,h.2.2⟩
structure Lim where
 top:Nat
 lv:Nat
 lw:Nat
 tv:Tape
 tw:Tape
structure Alike (Ok:Obj→Prop) (S:Nat→Option Obj) (e:Lim) (v w:World):Prop where
 os:v.os=w.os
 output:v.output=w.output
 size:v.heap.size=w.heap.size
 block:∀ i:Nat,S i=none→v.heap[i]?=w.heap[i]?
 shun:∀ (i:Nat) (o:Obj),S i=some o→v.heap[i]?=some poison∧w.heap[i]?=some o∧okS o
 ok:∀ (i:Nat) (o:Obj),v.heap[i]?=some o→Ok o
 vt:v.tape=e.tv
 wt:w.tape=e.tw
 lag:w.drawn+e.lv=v.drawn+e.lw
 tape:∀ (i:Nat) (q:Question),v.drawn≤i→i<e.top→e.tv i q=e.tw (i+e.lw - e.lv) q
section
variable {Ok:Obj→Prop} {S:Nat→Option Obj} {e:Lim} {v w:World}
theorem Alike.cell_sh (h:Alike Ok S e v w) {a:Addr} {o:Obj} (ha:S a.block=some o):v.cell? a=none:=by simp [World.cell?,(h.shun _ _ ha).1]
theorem Alike.cell (h:Alike Ok S e v w) {a:Addr} (ha:S a.block=none):v.cell? a=w.cell? a:=by simp [World.cell?,h.block _ ha]
theorem Alike.frozen (h:Alike Ok S e v w) (a:Addr):v.frozen? a=w.frozen? a:=by
 cases ha:S a.block with
 | some o =>
  obtain ⟨h1,h2,h3⟩:=h.shun _ _ ha
  unfold okS at h3
  split at h3
  ·obtain ⟨_,rfl⟩:=h3
   simp [World.frozen?,h1,h2]
  ·simp [World.frozen?,h1,h2]
  ·simp [World.frozen?,h1,h2]
  ·simp [World.frozen?,h1,h2]
  ·exact h3.elim
 | none=>simp [World.frozen?,h.block _ ha]
theorem cell_lt {w:World} {a:Addr} {u:Value} (h:w.cell? a=some u):a.block<w.heap.size:=by
 unfold World.cell? at h
 cases hb:w.heap[a.block]? with
 | none=>rw [hb] at h;simp at h
 | some o=>exact (Array.getElem?_eq_some_iff.1 hb).1
theorem Alike.modify (h:Alike Ok S e v w) {r:Nat} (hr:S r=none) {f:Obj→Obj} (hf:∀ o,Ok o→Ok (f o)):Alike Ok S e { v with heap:=v.heap.modify r f } { w with heap:=w.heap.modify r f }:=by
 refine ⟨h.os,h.output,by simp [h.size],fun i hi=>?_,fun i o hi=>?_,fun i o ho=>?_,h.vt,h.wt,h.lag,h.tape⟩
 ·simp only [Array.getElem?_modify]
  split
  ·rename_i hai;subst hai;rw [h.block _ hi]
  ·exact h.block _ hi
 ·have hne:r≠i:=fun e=>by subst e;rw [hr] at hi;cases hi
  simp only [Array.getElem?_modify,if_neg hne]
  exact h.shun i o hi
 ·simp only [Array.getElem?_modify] at ho
  split at ho
  ·rename_i hai
   cases hx:v.heap[i]? with
   | none=>rw [hx] at ho;cases ho
   | some x=>rw [hx] at ho;cases ho;exact hf _ (h.ok i x hx)
  ·exact h.ok i o ho
theorem Alike.setCell (h:Alike Ok S e v w) (hO:∀ c t f,Ok (.cells c t f)) {a:Addr} (ha:S a.block=none) (u:Value):Alike Ok S e (v.setCell a u) (w.setCell a u):=h.modify ha fun o ho=>by cases o <;> first|exact hO _ _ _|exact ho
theorem Alike.lt (h:Alike Ok S e v w) {i:Nat} {o:Obj} (hi:S i=some o):i<v.heap.size:=(Array.getElem?_eq_some_iff.1 (h.shun i o hi).1).1
theorem Alike.new (h:Alike Ok S e v w) {o:Obj} (ho:Ok o):Alike Ok S e { v with heap:=v.heap.push o } { w with heap:=w.heap.push o }:=by
 refine ⟨h.os,h.output,by simp [h.size],fun i hi=>?_,fun i x hi=>?_,fun i x hx=>?_,h.vt,h.wt,h.lag,h.tape⟩
 ·simp only [Array.getElem?_push,h.size,h.block _ hi]
 ·have:=h.lt hi
  have h2:=h.size
  simp only [Array.getElem?_push]
  rw [if_neg (by omega),if_neg (by omega)]
  exact h.shun i x hi
 ·simp only [Array.getElem?_push] at hx
  split at hx
  ·cases hx;exact ho
  ·exact h.ok i x hx
theorem Alike.setObj (h:Alike Ok S e v w) {r:Nat} (hr:S r=none) {o:Obj} (ho:Ok o):Alike Ok S e { v with heap:=v.heap.setIfInBounds r o } { w with heap:=w.heap.setIfInBounds r o }:=by
 refine ⟨h.os,h.output,by simp [h.size],fun i hi=>?_,fun i x hi=>?_,fun i x hx=>?_,h.vt,h.wt,h.lag,h.tape⟩
 ·simp only [Array.getElem?_setIfInBounds,h.size,h.block _ hi]
 ·have hne:r≠i:=fun e=>by subst e;rw [hr] at hi;cases hi
  simp only [Array.getElem?_setIfInBounds,if_neg hne]
  exact h.shun i x hi
 ·simp only [Array.getElem?_setIfInBounds] at hx
  split at hx
  ·split at hx
   ·cases hx;exact ho
   ·cases hx
  ·exact h.ok i x hx
theorem Alike.drew (h:Alike Ok S e v w):Alike Ok S e { v with drawn:=v.drawn+1 } { w with drawn:=w.drawn+1 } :=
 ⟨h.os,h.output,h.size,h.block,h.shun,h.ok,h.vt,h.wt,(by have:=h.lag;simp only;omega),fun i q hi=>h.tape i q (by simp only at hi;omega)⟩
theorem Alike.asks (h:Alike Ok S e v w) (hd:v.drawn<e.top) (q:Question):v.tape v.drawn q=w.tape w.drawn q:=by
 have hl:=h.lag
 rw [h.vt,h.wt,h.tape _ q (Nat.le_refl _) hd]
 congr 1
 omega
end
def notInit:Unsupported→Prop
 | .initOrder _=>False
 | _=>True
def Res.bad {α:Type}:Result α→Prop
 | .halt (.stuck _) _=>True
 | .halt (.unsupported u) _=>notInit u
 | _=>False
def Res.good {α:Type}:Result α→Prop
 | .ok _ _|.halt (.panic _) _=>True
 | _=>False
def Res.world {α:Type}:Result α→World
 | .ok _ w|.halt _ w=>w
def Res.put {α:Type}:Result α→World→Result α
 | .ok a _,w=>.ok a w
 | .halt h _,w=>.halt h w
def oneV:Value→Bool
 | .agg _|.tuple _=>false
 | _=>true
theorem run_store_no {α:Type} (P:Program) (m:Mode) (a:Addr) (u:Value) (k:Sem α) (w:World) (h:oneV u=false):(Sem.store m a u k).run P w=.halt (.stuck "store: not the value of one cell") w:=by
 cases u <;> first|rfl|cases h
theorem run_store_yes {α:Type} (P:Program) (m:Mode) (a:Addr) (u:Value) (k:Sem α) (w:World) (h:oneV u=true):(Sem.store m a u k).run P w=match w.cell? a with
  | some _=>if w.frozen? a then .halt (.unsupported (.unsafePointer "a write to bytes that a string shares")) w else k.run P (w.setCell a u)
  |none=>match w.farStore P a u (m == .atomic) with
   | .ok (w,_)=>k.run P w
   | .error h=>.halt h w:=by
 cases u <;> first|rfl|cases h
theorem runT_store_yes {α:Type} (P:Program) (m:Mode) (a:Addr) (u:Value) (k:Sem α) (w:World) (es:Array Event) (h:oneV u=true):(Sem.store m a u k).runT P w es=match w.cell? a with
  | some _=>if w.frozen? a then (.halt (.unsupported (.unsafePointer "a write to bytes that a string shares")) w,es) else k.runT P (w.setCell a u) (es.push ⟨.cell a,true,m == .atomic⟩)
  |none=>match w.farStore P a u (m == .atomic) with
   | .ok (w,touched)=>k.runT P w (es ++ touched.toArray.map (⟨.cell ·,true,m == .atomic⟩))
   | .error h=>(.halt h w,es):=by
 cases u <;> first|rfl|cases h
theorem ask_drawn {α:Type} (a:Ask α):∀ w:World,w.drawn≤(w.ask a).2.drawn∧(w.ask a).2.tape=w.tape:=by
 induction a with
 | done a=>intro w;exact ⟨Nat.le_refl _,rfl⟩
 | ask what range k ih =>
  intro w
  simp only [World.ask]
  split
  ·exact ih _ w
  ·have:=ih ((Question.extern what range).cut (w.tape w.drawn (Question.extern what range))) { w with drawn:=w.drawn+1 }
   simp only at this
   exact ⟨by omega,this.2⟩
theorem farStore_drawn {p:Program} {w w':World} {a:Addr} {v:Value} {at_:Bool} {l:List Addr} (h:w.farStore p a v at_=.ok (w',l)):w'.drawn=w.drawn∧w'.tape=w.tape:=by
 unfold World.farStore at h
 split at h
 ·split at h
  ·rename_i r hr
   cases h
   unfold World.viewStore at hr
   simp only [bind,Except.bind,pure,Except.pure] at hr
   split at hr
   ·cases hr
   ·split at hr
    ·cases hr
    ·repeat' (split at hr <;> try cases hr)
     all_goals exact ⟨rfl,rfl⟩
  ·cases h
 ·cases h
theorem run_drawn {α:Type} (P:Program) (s:Sem α):∀ w:World,w.drawn≤(Res.world (s.run P w)).drawn∧(Res.world (s.run P w)).tape=w.tape:=by
 induction s with
 | pure a=>intro w;exact ⟨Nat.le_refl _,rfl⟩
 | load m a k ih =>
  intro w
  simp only [Sem.run]
  split
  ·exact ih _ w
  ·split
   ·exact ih _ w
   ·exact ⟨Nat.le_refl _,rfl⟩
 | store m a u k ih =>
  intro w
  cases hu:oneV u
  ·rw [run_store_no P m a u k w hu]
   exact ⟨Nat.le_refl _,rfl⟩
  rw [run_store_yes P m a u k w hu]
  split
  ·split
   ·exact ⟨Nat.le_refl _,rfl⟩
   ·exact ih (w.setCell a u)
  ·split
   ·rename_i w' l hf
    obtain ⟨h1,h2⟩:=farStore_drawn hf
    have:=ih w'
    rw [h1,h2] at this
    exact this
   ·exact ⟨Nat.le_refl _,rfl⟩
 | new o k ih=>intro w;exact ih w.heap.size { w with heap:=w.heap.push o }
 | shape r k ih=>intro w;exact ih _ w
 | freeze a n k ih =>
  intro w
  have:=ih (w.freeze a n)
  have e:(w.freeze a n).drawn=w.drawn∧(w.freeze a n).tape=w.tape:=by unfold World.freeze;split <;> exact ⟨rfl,rfl⟩
  rw [e.1,e.2] at this
  exact this
 | frozen a k ih=>intro w;exact ih _ w
 | getObj r k ih =>
  intro w
  simp only [Sem.run]
  split
  ·exact ⟨Nat.le_refl _,rfl⟩
  ·exact ih _ w
  ·exact ⟨Nat.le_refl _,rfl⟩
 | setObj r o k ih =>
  intro w
  simp only [Sem.run]
  split
  ·exact ⟨Nat.le_refl _,rfl⟩
  ·exact ih { w with heap:=w.heap.setIfInBounds r o }
  ·exact ⟨Nat.le_refl _,rfl⟩
 | choose q k ih =>
  intro w
  simp only [Sem.run]
  split
  ·exact ih _ w
  ·have:=ih (q.cut (w.tape w.drawn q)) { w with drawn:=w.drawn+1 }
   simp only at this
   exact ⟨by omega,this.2⟩
 | sys c k ih =>
  intro w
  simp only [Sem.run]
  have h1:w.drawn≤(w.sys c).2.drawn∧(w.sys c).2.tape=w.tape:=by
   unfold World.sys
   have:=ask_drawn (Kernel.perform c w.os) w
   generalize w.ask (Kernel.perform c w.os)=z at *
   obtain ⟨⟨r,os⟩,w'⟩:=z
   cases r <;> first|exact this|exact ⟨Nat.le_refl _,rfl⟩
  have:=ih (w.sys c).1 (w.sys c).2
  exact ⟨by omega,this.2.trans h1.2⟩
 | program k ih=>intro w;exact ih P w
 | mark m k ih=>intro w;exact ih w
 | halt h=>intro w;exact ⟨Nat.le_refl _,rfl⟩
theorem ask_size {α:Type} (a:Ask α):∀ w:World,(w.ask a).2.heap=w.heap:=by
 induction a with
 | done a=>intro w;rfl
 | ask what range k ih =>
  intro w
  simp only [World.ask]
  split
  ·exact ih _ w
  ·exact ih ((Question.extern what range).cut (w.tape w.drawn (Question.extern what range))) { w with drawn:=w.drawn+1 }
theorem farStore_size {p:Program} {w w':World} {a:Addr} {v:Value} {at_:Bool} {l:List Addr} (h:w.farStore p a v at_=.ok (w',l)):w'.heap.size=w.heap.size:=by
 unfold World.farStore at h
 split at h
 ·split at h
  ·rename_i r hr
   cases h
   unfold World.viewStore at hr
   simp only [bind,Except.bind,pure,Except.pure] at hr
   split at hr
   ·cases hr
   ·split at hr
    ·cases hr
    ·repeat' (split at hr <;> try cases hr)
     all_goals simp
  ·cases h
 ·cases h
theorem run_size {α:Type} (P:Program) (s:Sem α):∀ w:World,w.heap.size≤(Res.world (s.run P w)).heap.size:=by
 induction s with
 | pure a=>intro w;exact Nat.le_refl _
 | load m a k ih =>
  intro w
  simp only [Sem.run]
  split
  ·exact ih _ w
  ·split
   ·exact ih _ w
   ·exact Nat.le_refl _
 | store m a u k ih =>
  intro w
  cases hu:oneV u
  ·rw [run_store_no P m a u k w hu]
   exact Nat.le_refl _
  rw [run_store_yes P m a u k w hu]
  split
  ·split
   ·exact Nat.le_refl _
   ·have:=ih (w.setCell a u)
    simpa [World.setCell] using this
  ·split
   ·rename_i w' l hf
    have:=ih w'
    rw [farStore_size hf] at this
    exact this
   ·exact Nat.le_refl _
 | new o k ih =>
  intro w
  have:=ih w.heap.size { w with heap:=w.heap.push o }
  simp only [Array.size_push] at this
  exact Nat.le_trans (Nat.le_succ _) this
 | shape r k ih=>intro w;exact ih _ w
 | freeze a n k ih =>
  intro w
  have:=ih (w.freeze a n)
  have e:(w.freeze a n).heap.size=w.heap.size:=by unfold World.freeze;split <;> simp
  rw [e] at this
  exact this
 | frozen a k ih=>intro w;exact ih _ w
 | getObj r k ih =>
  intro w
  simp only [Sem.run]
  split
  ·exact Nat.le_refl _
  ·exact ih _ w
  ·exact Nat.le_refl _
 | setObj r o k ih =>
  intro w
  simp only [Sem.run]
  split
  ·exact Nat.le_refl _
  ·have:=ih { w with heap:=w.heap.setIfInBounds r o }
   simpa using this
  ·exact Nat.le_refl _
 | choose q k ih =>
  intro w
  simp only [Sem.run]
  split
  ·exact ih _ w
  ·exact ih (q.cut (w.tape w.drawn q)) { w with drawn:=w.drawn+1 }
 | sys c k ih =>
  intro w
  simp only [Sem.run]
  have h1:(w.sys c).2.heap=w.heap:=by
   unfold World.sys
   have:=ask_size (Kernel.perform c w.os) w
   generalize w.ask (Kernel.perform c w.os)=z at *
   obtain ⟨⟨r,os⟩,w'⟩:=z
   cases r <;> first|exact this|rfl
  have:=ih (w.sys c).1 (w.sys c).2
  rw [h1] at this
  exact this
 | program k ih=>intro w;exact ih P w
 | mark m k ih=>intro w;exact ih w
 | halt h=>intro w;exact Nat.le_refl _
end Go.Proofs.YtpcjdalgebgofaaGreatDoor
namespace Go.Proofs.YtpcjdalgebgofaaGreatDoor
open Go Go.Conc
section
variable (P:Program) (F:Array Func)
theorem plainCell_f:∀ d t o,plainCell (withF P F) d t o=plainCell P d t o
 | 0,_,_=>rfl
 |d+1,t,o=>by
  unfold plainCell
  simp only [plainCell_f d]
  rfl
theorem byteOfCell_f:∀ d t o,byteOfCell (withF P F) d t o=byteOfCell P d t o
 | 0,_,_=>rfl
 |d+1,t,o=>by
  unfold byteOfCell
  simp only [byteOfCell_f d]
  rfl
theorem cellHolding_f:∀ d t o,cellHolding (withF P F) d t o=cellHolding P d t o
 | 0,_,_=>rfl
 |d+1,t,o=>by
  unfold cellHolding
  simp only [cellHolding_f d]
  rfl
theorem tight_f:∀ d t,tight (withF P F) d t=tight P d t
 | 0,_=>rfl
 |d+1,t=>by
  unfold tight
  simp only [tight_f d]
  rfl
theorem depth_f:(withF P F).depth=P.depth:=rfl
theorem bytesOf_f (t:TypeId):(withF P F).bytesOf t=P.bytesOf t:=rfl
theorem cellsOf_f (t:TypeId):(withF P F).cellsOf t=P.cellsOf t:=rfl
theorem seenCells_f (c:Array Value) (e:TypeId):∀ f x s,seenCells (withF P F) c e f x s=seenCells P c e f x s
 | 0,_,_=>rfl
 |f+1,x,s=>by
  unfold seenCells
  simp only [seenCells_f c e f,bytesOf_f,cellsOf_f,cellHolding_f,depth_f]
theorem seen_alike {v w:World} {at_:Addr} (h:v.heap[at_.block]?=w.heap[at_.block]?) (u:TypeId) (k:Addr) (b:Bool):v.seen (withF P F) at_ u k b=w.seen P at_ u k b:=by
 unfold World.seen
 simp only [plainCell_f,byteOfCell_f,seenCells_f,bytesOf_f,cellsOf_f,depth_f,h]
 rfl
theorem seen_row {v:World} {at_:Addr} {u:TypeId} {k:Addr} {b:Bool} {r} (h:v.seen P at_ u k b=.ok r):∃ c t f,v.heap[at_.block]?=some (.cells c t f):=by
 unfold World.seen at h
 simp only [bind,Except.bind,pure,Except.pure] at h
 repeat' (split at h <;> try cases h)
 all_goals exact ⟨_,_,_,by assumption⟩
theorem viewLoad_alike {v w:World} {at_:Addr} (h:v.heap[at_.block]?=w.heap[at_.block]?) (u:TypeId) (k:Addr) (b:Bool):v.viewLoad (withF P F) at_ u k b=w.viewLoad P at_ u k b:=by
 unfold World.viewLoad
 rw [seen_alike P F h]
theorem viewLoad_row {v:World} {at_:Addr} {u:TypeId} {k:Addr} {b:Bool} {r:Value × List Addr} (h:v.viewLoad P at_ u k b=.ok r):(∃ c t f,v.heap[at_.block]?=some (.cells c t f))∧∀ a ∈ r.2,a.block=at_.block:=by
 unfold World.viewLoad at h
 simp only [bind,Except.bind,pure,Except.pure] at h
 split at h
 ·cases h
 ·rename_i x hx
  refine ⟨seen_row P hx,?_⟩
  split at h
  ·cases h
   intro a ha
   simp only [List.mem_map] at ha
   obtain ⟨_,_,rfl⟩:=ha
   rfl
  ·cases h
theorem viewStore_alike {v w:World} {at_:Addr} {u:TypeId} {k:Addr} {x:Value} {b:Bool} {v':World} {l:List Addr} (h:v.heap[at_.block]?=w.heap[at_.block]?) (hv:v.viewStore (withF P F) at_ u k x b=.ok (v',l)) :
  (∃ c t f,v.heap[at_.block]?=some (.cells c t f))∧(∀ a ∈ l,a.block=at_.block)∧∃ o,v'={ v with heap:=v.heap.setIfInBounds at_.block o }∧w.viewStore P at_ u k x b=.ok ({ w with heap:=w.heap.setIfInBounds at_.block o },l)∧∃ c t f,o=.cells c t f:=by
 unfold World.viewStore at hv ⊢
 rw [seen_alike P F h,tight_f,depth_f] at hv
 simp only [bind,Except.bind,pure,Except.pure] at hv ⊢
 split at hv
 ·cases hv
 rename_i ht
 rw [if_neg ht]
 split at hv
 ·cases hv
 rename_i y hy
 have hrow:=seen_row P hy
 obtain ⟨c0,t0,f0,hrow⟩:=hrow
 refine ⟨⟨c0,t0,f0,h.trans hrow⟩,?_⟩
 cases hxb:x.bytes? with
 | none=>rw [hxb] at hv;cases hv
 | some bytes =>
  rw [hxb] at hv
  simp only at hv ⊢
  split at hv
  ·cases hv
  rename_i hl
  rw [if_neg hl]
  split at hv
  ·cases hv
  rename_i c hc
  cases hv
  refine ⟨fun a ha=>?_,_,rfl,rfl,_,_,_,rfl⟩
  simp only [List.mem_map] at ha
  obtain ⟨_,_,rfl⟩:=ha
  rfl
end
/-! what the code may hold -/
def isIntT (P:Program) (t:TypeId):Bool:=match P.underlying t with|some (.int _)=>true|_=>false
theorem isIntT_some {P:Program} {t:TypeId} (h:isIntT P t=true):∃ k,P.underlying t=some (.int k):=by
 unfold isIntT at h
 split at h
 ·exact ⟨_,by assumption⟩
 ·cases h
def okB (r:Bool):Builtin→Bool
 | .append|.cap|.len|.max|.min|.close=>true
 | .recover=>!r
 | _=>false
def okOp (P:Program) (r:Bool):Op→Bool
 | .convert s d _=>isIntT P s && isIntT P d
 | .call { callee:=.builtin b,.. }=>okB r b
 | .defer { callee:=.builtin b,.. }=>!r && okB true b
 | .defer _=>!r
 | .ready _|.waits _|.go _|.select _ _|.range _ _|.next _ _|.entry _|.mapEntry ..|.entryStore ..|.sliceToArrayPointer ..=>false
 | _=>true
def okCode (P:Program) (r:Bool):Code→Bool
 | .region _ ops _=>ops.all fun o=>okOp P r o.op
 | .seq a b|.cond _ a b=>okCode P r a && okCode P r b
 | .rangeFunc _ _ a b=>okCode P true a && okCode P true b
 | .block _ c|.loop c|.scope c=>okCode P r c
 | _=>true
def okT:Target→Bool
 | .builtin b ..=>okB true b
 | .collected _|.coroexit _=>false
 | _=>true
def okJump:Code→Bool
 | .exit _|.goto _|.ret=>true
 | _=>false
def okObj (P:Program) (F:Array Func):Obj→Prop
 | .loop l=>okCode P true l.assign=true∧okCode P true l.body=true∧F[l.fn]?=P.funcs[l.fn]?∧∀ c,l.pending=some c→okJump c=true
 | .deferred (some ds)=>∀ d ∈ ds,okT d.target=true
 | .pending _ _=>False
 | _=>True
def okHalt:Halt→Prop
 | .panic _|.stuck _=>True
 | .unsupported u=>notInit u
 | _=>False
theorem okHalt_bad {α:Type} {h:Halt} {w:World} (hh:okHalt h):Res.bad (.halt h w:Result α)∨Res.good (.halt h w:Result α):=by
 cases h <;> first|exact .inl trivial|exact .inr trivial|exact .inl hh|exact hh.elim
def Fits {α:Type} (P:Program) (F:Array Func) (S:Nat→Option Obj) (e:Lim) (s:Sem α) (v w:World):Prop :=
 ∃ (w':World) (es:Array Event),(∀ es0,s.runT P w es0=(Res.put (s.run (withF P F) v) w',es0 ++ es))∧Alike (okObj P F) S e (Res.world (s.run (withF P F) v)) w'∧∀ x ∈ es,EvN S w'.heap.size x
def Fit {α:Type} (P:Program) (F:Array Func) (N:Nat→Prop) (s:Sem α):Prop :=
 ∀ (S:Nat→Option Obj),(∀ i o,S i=some o→P.globals.size+5≤i∧¬ N i)→∀ (e:Lim) (v w:World),Alike (okObj P F) S e v w →
  Res.bad (s.run (withF P F) v)∨(Res.good (s.run (withF P F) v)∧((Res.world (s.run (withF P F) v)).drawn≤e.top→Fits P F S e s v w))
section
variable {P:Program} {F:Array Func} {N:Nat→Prop} {α β:Type}
theorem Fits.here {S:Nat→Option Obj} {e:Lim} {s:Sem α} {v w:World} {r:Result α} (ha:Alike (okObj P F) S e v w) (h1:s.run (withF P F) v=r) (h2:Res.world r=v) (h3:∀ es0,s.runT P w es0=(Res.put r w,es0)):Fits P F S e s v w :=
 ⟨w,#[],fun es0=>by rw [h1,h3];simp,by rw [h1,h2];exact ha,by simp⟩
theorem Fit.pure' (a:α):Fit P F N (.pure a):=fun S _ e v w h=>.inr ⟨trivial,fun _=>Fits.here h rfl rfl fun _=>rfl⟩
theorem Fit.halt' (h:Halt) (hh:okHalt h):Fit P F N (.halt h:Sem α):=fun S _ e v w ha=>(okHalt_bad hh).imp id fun hg=>⟨hg,fun _=>Fits.here ha rfl rfl fun _=>rfl⟩
theorem Fit.bad {s:Sem α} (hb:∀ v,Res.bad (s.run (withF P F) v)):Fit P F N s:=fun _ _ _ v _ _=>.inl (hb v)
theorem Fits.then_ {S:Nat→Option Obj} {e:Lim} {s:Sem α} {k:Sem β} {v w v1 w1:World} (hk:Fits P F S e k v1 w1) (x:Array Event) (hx:∀ y ∈ x,EvN S v1.heap.size y) (f:Result β→Result α) (hr:s.run (withF P F) v=f (k.run (withF P F) v1)) (hf:∀ r,Res.world (f r)=Res.world r∧∀ w,f (Res.put r w)=Res.put (f r) w)
  (ht:∀ es0,s.runT P w es0=(f (k.runT P w1 (es0 ++ x)).1,(k.runT P w1 (es0 ++ x)).2)):Fits P F S e s v w:=by
 obtain ⟨w',es,h1,h2,h3⟩:=hk
 refine ⟨w',x ++ es,fun es0=>?_,by rw [hr,(hf _).1];exact h2,fun y hy=>?_⟩
 ·rw [ht,h1,hr]
  simp only [(hf _).2,Array.append_assoc]
 ·rcases Array.mem_append.1 hy with hy|hy
  ·refine (hx y hy).more ?_
   rw [← h2.size]
   exact run_size _ _ _
  ·exact h3 y hy
theorem Fits.step {S:Nat→Option Obj} {e:Lim} {s k:Sem α} {v w v1 w1:World} (hk:Fits P F S e k v1 w1) (x:Array Event) (hx:∀ y ∈ x,EvN S v1.heap.size y) (hr:s.run (withF P F) v=k.run (withF P F) v1)
  (ht:∀ es0,s.runT P w es0=k.runT P w1 (es0 ++ x)):Fits P F S e s v w:=hk.then_ x hx id hr (fun _=>⟨rfl,fun _=>rfl⟩) ht
theorem Fit.step {s k:Sem α} {S:Nat→Option Obj} {e:Lim} {v w v1 w1:World} (hS:∀ i o,S i=some o→P.globals.size+5≤i∧¬ N i) (hk:Fit P F N k) (ha:Alike (okObj P F) S e v1 w1) (x:Array Event) (hx:∀ y ∈ x,EvN S v1.heap.size y) (hr:s.run (withF P F) v=k.run (withF P F) v1)
  (ht:∀ es0,s.runT P w es0=k.runT P w1 (es0 ++ x)) :
  Res.bad (s.run (withF P F) v)∨(Res.good (s.run (withF P F) v)∧((Res.world (s.run (withF P F) v)).drawn≤e.top→Fits P F S e s v w)):=by
 rcases hk S hS e v1 w1 ha with h|⟨h,h'⟩
 ·rw [hr];exact .inl h
 ·refine .inr ⟨by rw [hr];exact h,fun hd=>?_⟩
  rw [hr] at hd
  exact (h' hd).step x hx hr ht
theorem mem_one {x y:Event} (h:y ∈ (#[x]:Array Event)):y=x:=by simpa using h
theorem Fit.load' {m:Mode} {a:Addr} {k:Value→Sem α} (hk:∀ v,Fit P F N (k v)):Fit P F N (.load m a k):=by
 intro S hS e v w ha
 cases hs:S a.block with
 | some o =>
  have hc:=ha.cell_sh hs
  have hf:v.farLoad (withF P F) a (m == .atomic)=.error (v.noCell a "load: no such cell"):=by simp [World.farLoad,(ha.shun _ _ hs).1]
  have hn:v.noCell a "load: no such cell" = .stuck "load: no such cell" := by simp [World.noCell,(ha.shun _ _ hs).1]
  refine .inl ?_
  simp only [Sem.run,hc,hf,hn]
  trivial
 | none =>
 have hcc:=ha.cell hs
 cases hc:v.cell? a with
 | some u =>
  refine Fit.step hS (hk u) ha #[⟨.cell a,false,m == .atomic⟩] (fun y hy=>by rw [mem_one hy];exact EvN.cell hs (cell_lt hc) _ _) (by simp only [Sem.run,hc]) fun es0=>?_
  simp only [Sem.runT,← hcc,hc]
  rfl
 | none =>
  have hb:=ha.block _ hs
  cases hf:v.farLoad (withF P F) a (m == .atomic) with
  | error h =>
   refine .inl ?_
   simp only [Sem.run,hc,hf]
   unfold World.farLoad at hf
   split at hf
   ·split at hf
    ·cases hf
    ·cases hf;trivial
   ·cases hf
    unfold World.noCell
    split
    ·rename_i hpd
     exact (ha.ok _ _ hpd).elim
    all_goals trivial
  | ok r =>
   obtain ⟨u,l⟩:=r
   have hfw:w.farLoad P a (m == .atomic)=.ok (u,l)∧∀ b ∈ l,S b.block=none∧b.block<v.heap.size:=by
    unfold World.farLoad at hf ⊢
    rw [← hb]
    split at hf
    ·rename_i at_ t hv
     split at hf
     ·rename_i r hr
      cases hf
      have hrow:=viewLoad_row (withF P F) hr
      have hns:S at_.block=none:=by
       cases hs':S at_.block with
       | none=>rfl
       | some o =>
        obtain ⟨⟨c,t,f,hx⟩,_⟩:=hrow
        rw [(ha.shun _ _ hs').1] at hx
        cases hx
      obtain ⟨⟨c,t',f,hx⟩,_⟩:=hrow
      rw [viewLoad_alike P F (ha.block _ hns)] at hr
      rw [hr]
      refine ⟨rfl,fun b hbl=>?_⟩
      rw [(viewLoad_row P hr).2 b hbl]
      exact ⟨hns,(Array.getElem?_eq_some_iff.1 hx).1⟩
     ·cases hf
    ·cases hf
   refine Fit.step hS (hk u) ha (l.toArray.map (⟨.cell ·,false,m == .atomic⟩)) (fun y hy=>?_) (by simp only [Sem.run,hc,hf]) fun es0=>by simp only [Sem.runT,← hcc,hc,hfw.1]
   simp only [Array.mem_map,List.mem_toArray] at hy
   obtain ⟨b,hbl,rfl⟩:=hy
   exact EvN.cell (hfw.2 b hbl).1 (hfw.2 b hbl).2 _ _
theorem Fit.store' {m:Mode} {a:Addr} {u:Value} {k:Sem α} (hk:Fit P F N k):Fit P F N (.store m a u k):=by
 intro S hS e v w ha
 cases hu:oneV u
 ·rw [run_store_no _ m a u k v hu]
  exact .inl trivial
 have hrt:=fun es0=>runT_store_yes P m a u k w es0 hu
 have hrn:=run_store_yes (withF P F) m a u k v hu
 cases hs:S a.block with
 | some o =>
  have hc:=ha.cell_sh hs
  have hf:v.farStore (withF P F) a u (m == .atomic)=.error (v.noCell a "store: no such cell"):=by simp [World.farStore,(ha.shun _ _ hs).1]
  have hn:v.noCell a "store: no such cell" = .stuck "store: no such cell" := by simp [World.noCell,(ha.shun _ _ hs).1]
  refine .inl ?_
  rw [hrn]
  simp only [hc,hf,hn]
  trivial
 | none =>
 have hcc:=ha.cell hs
 have hfz:=ha.frozen a
 cases hc:v.cell? a with
 | some u0 =>
  simp only [hc] at hrn
  cases hz:v.frozen? a with
  | true=>simp only [hz,if_true] at hrn;rw [hrn];exact .inl trivial
  | false =>
   simp only [hz,Bool.false_eq_true,if_false] at hrn
   refine Fit.step hS hk (ha.setCell (fun _ _ _=>trivial) hs u) #[⟨.cell a,true,m == .atomic⟩] (fun y hy=>?_) hrn fun es0=>?_
   ·rw [mem_one hy]
    exact EvN.cell hs (by simpa [World.setCell] using cell_lt hc) _ _
   ·rw [hrt]
    simp only [← hcc,hc,← hfz,hz,Bool.false_eq_true,if_false]
    rfl
 | none =>
  simp only [hc] at hrn
  cases hf:v.farStore (withF P F) a u (m == .atomic) with
  | error h =>
   refine .inl ?_
   rw [hrn]
   simp only [hf]
   unfold World.farStore at hf
   split at hf
   ·split at hf
    ·cases hf
    ·cases hf;trivial
   ·cases hf
    unfold World.noCell
    split
    ·rename_i hpd
     exact (ha.ok _ _ hpd).elim
    all_goals trivial
  | ok r =>
   obtain ⟨v1,l⟩:=r
   simp only [hf] at hrn
   obtain ⟨w1,hfw,ha1,hl⟩:∃ w1,w.farStore P a u (m == .atomic)=.ok (w1,l)∧Alike (okObj P F) S e v1 w1∧∀ b ∈ l,S b.block=none∧b.block<v1.heap.size:=by
    have hsz:=farStore_size hf
    unfold World.farStore at hf ⊢
    rw [← ha.block _ hs]
    split at hf
    ·rename_i at_ t hv
     split at hf
     ·rename_i r hr
      cases hf
      have hrow:=(viewStore_alike P F (v:=v) (w:=v) rfl hr).1
      have hns:S at_.block=none:=by
       cases hs':S at_.block with
       | none=>rfl
       | some o =>
        obtain ⟨c,t,f,hx⟩:=hrow
        rw [(ha.shun _ _ hs').1] at hx
        cases hx
      obtain ⟨_,h2,o,rfl,h4,c1,t1,f1,rfl⟩:=viewStore_alike P F (ha.block _ hns) hr
      rw [h4]
      obtain ⟨c,t,f,hx⟩:=hrow
      exact ⟨_,rfl,ha.setObj hns trivial,fun b hb=>by rw [h2 b hb];exact ⟨hns,by rw [hsz];exact (Array.getElem?_eq_some_iff.1 hx).1⟩⟩
     ·cases hf
    ·cases hf
   refine Fit.step hS hk ha1 (l.toArray.map (⟨.cell ·,true,m == .atomic⟩)) (fun y hy=>?_) hrn fun es0=>?_
   ·simp only [Array.mem_map,List.mem_toArray] at hy
    obtain ⟨b,hbl,rfl⟩:=hy
    exact EvN.cell (hl b hbl).1 (hl b hbl).2 _ _
   ·rw [hrt]
    simp only [← hcc,hc,hfw]
theorem Fit.new' {o:Obj} {k:Nat→Sem α} (ho:okObj P F o) (hk:∀ r,Fit P F N (k r)):Fit P F N (.new o k):=by
 intro S hS e v w ha
 exact Fit.step hS (hk v.heap.size) (ha.new ho) #[] (by simp) rfl fun es0=>by simp only [Sem.runT,← ha.size,Array.append_empty]
theorem Fit.frozen' {a:Addr} {k:Bool→Sem α} (hk:∀ b,Fit P F N (k b)):Fit P F N (.frozen a k):=by
 intro S hS e v w ha
 exact Fit.step hS (hk (v.frozen? a)) ha #[] (by simp) rfl fun es0=>by simp only [Sem.runT,← ha.frozen a,Array.append_empty]
theorem Fit.choose' {q:Question} {k:Nat→Sem α} (hk:∀ n,Fit P F N (k n)):Fit P F N (.choose q k):=by
 intro S hS e v w ha
 cases hq:q.forced with
 | true=>exact Fit.step hS (hk 0) ha #[] (by simp) (by simp only [Sem.run,hq,if_true]) fun es0=>by simp only [Sem.runT,hq,if_true,Array.append_empty]
 | false =>
  have hr:(Sem.choose q k).run (withF P F) v=(k (q.cut (v.tape v.drawn q))).run (withF P F) { v with drawn:=v.drawn+1 }:=by simp only [Sem.run,hq,Bool.false_eq_true,if_false]
  rcases hk (q.cut (v.tape v.drawn q)) S hS e _ _ ha.drew with h|⟨h,h'⟩
  ·rw [hr];exact .inl h
  ·refine .inr ⟨by rw [hr];exact h,fun hd=>?_⟩
   rw [hr] at hd
   have hm:=(run_drawn (withF P F) (k (q.cut (v.tape v.drawn q))) { v with drawn:=v.drawn+1 }).1
   simp only at hm
   have ht:=ha.asks (by omega) q
   exact (h' hd).step #[] (by simp) hr fun es0=>by simp only [Sem.runT,hq,Bool.false_eq_true,if_false,← ht,Array.append_empty]
theorem Fit.program' {k:Program→Sem α} (he:k (withF P F)=k P) (hk:Fit P F N (k P)):Fit P F N (.program k):=by
 intro S hS e v w ha
 exact Fit.step hS hk ha #[] (by simp) (by simp only [Sem.run,he]) fun es0=>by simp only [Sem.runT,Array.append_empty]
theorem Fit.mark' {m:Mark} {k:Sem α} (hm:okMark m=true) (hk:Fit P F N k):Fit P F N (.mark m k):=by
 intro S hS e v w ha
 refine Fit.step hS hk ha #[⟨.mark m,false,true⟩] (fun y hy=>?_) rfl fun es0=>rfl
 rw [mem_one hy]
 exact ⟨fun a h=>(by cases h),fun a h=>(by cases h),fun x h=>(by cases h;exact hm)⟩
theorem cells_or (o:Obj):(∃ c t f,o=.cells c t f)∨∀ c t f,o≠.cells c t f:=by
 cases o <;> first|exact .inl ⟨_,_,_,rfl⟩|exact .inr (fun _ _ _ h=>by cases h)
theorem Fit.getObjAt {r:Nat} {k:Obj→Sem α} {S:Nat→Option Obj} {e:Lim} {v w:World} (hS:∀ i o,S i=some o→P.globals.size+5≤i∧¬ N i) (ha:Alike (okObj P F) S e v w) (hs:S r=none) (hk:∀ o,okObj P F o→Fit P F N (k o)) :
  Res.bad ((Sem.getObj r k).run (withF P F) v)∨(Res.good ((Sem.getObj r k).run (withF P F) v)∧((Res.world ((Sem.getObj r k).run (withF P F) v)).drawn≤e.top→Fits P F S e (.getObj r k) v w)):=by
 have hbl:=ha.block _ hs
 cases ho:v.heap[r]? with
 | none=>exact .inl (by simp only [Sem.run,ho];trivial)
 | some o =>
  rcases cells_or o with ⟨c,t,f,rfl⟩|hne
  ·exact .inl (by simp only [Sem.run,ho];trivial)
  refine Fit.step hS (hk o (ha.ok _ _ ho)) ha #[⟨.obj r,false,o.isChan⟩] (fun y hy=>?_) (by simp only [Sem.run,ho]) fun es0=>?_
  ·rw [mem_one hy]
   exact EvN.obj _ (Array.getElem?_eq_some_iff.1 ho).1 _ _
  ·simp only [Sem.runT,← hbl,ho]
   rfl
theorem Fit.getObj' {r:Nat} {k:Obj→Sem α} (hb:∀ v,Res.bad ((k poison).run (withF P F) v)) (hk:∀ o,okObj P F o→Fit P F (fun i=>i=r∨N i) (k o)):Fit P F N (.getObj r k):=by
 intro S hS e v w ha
 cases hs:S r with
 | some o=>exact .inl (by simp only [Sem.run,(ha.shun _ _ hs).1];exact hb v)
 | none=>exact Fit.getObjAt (N:=fun i=>i=r∨N i) (fun i o hi=>⟨(hS i o hi).1,fun h=>h.elim (fun h=>by subst h;rw [hs] at hi;cases hi) (hS i o hi).2⟩) ha hs hk
theorem Fit.setObj' {r:Nat} {o:Obj} {k:Sem α} (hr:N r) (hO:okObj P F o) (hk:Fit P F N k):Fit P F N (.setObj r o k):=by
 intro S hS e v w ha
 have hs:S r=none:=by
  cases h:S r with
  | none=>rfl
  | some x=>exact absurd hr (hS r x h).2
 have hbl:=ha.block _ hs
 cases ho:v.heap[r]? with
 | none=>exact .inl (by simp only [Sem.run,ho];trivial)
 | some x =>
  rcases cells_or x with ⟨c,t,f,rfl⟩|hne
  ·exact .inl (by simp only [Sem.run,ho];trivial)
  refine Fit.step hS hk (ha.setObj hs hO) #[⟨.obj r,true,o.isChan⟩] (fun y hy=>?_) (by simp only [Sem.run,ho]) fun es0=>?_
  ·rw [mem_one hy]
   exact EvN.obj _ (by simpa using (Array.getElem?_eq_some_iff.1 ho).1) _ _
  ·simp only [Sem.runT,← hbl,ho]
   rfl
theorem run_bind {α β:Type} (Q:Program) (s:Sem α) (f:α→Sem β):∀ v,(s.bind f).run Q v=match s.run Q v with|.ok a w=>(f a).run Q w|.halt h w=>.halt h w:=by
 induction s with
 | pure a=>intro v;rfl
 | halt h=>intro v;rfl
 | load m a k ih =>
  intro v
  simp only [Sem.bind,Sem.run]
  split
  ·exact ih _ v
  ·split
   ·exact ih _ v
   ·rfl
 | store m a u k ih =>
  intro v
  simp only [Sem.bind]
  cases hu:oneV u
  ·rw [run_store_no _ _ _ _ _ _ hu,run_store_no _ _ _ _ _ _ hu]
  ·rw [run_store_yes _ _ _ _ _ _ hu,run_store_yes _ _ _ _ _ _ hu]
   split
   ·split
    ·rfl
    ·exact ih _
   ·split
    ·exact ih _
    ·rfl
 | new o k ih=>intro v;exact ih _ _
 | shape r k ih=>intro v;exact ih _ _
 | freeze a n k ih=>intro v;exact ih _
 | frozen a k ih=>intro v;exact ih _ _
 | getObj r k ih =>
  intro v
  simp only [Sem.bind,Sem.run]
  split
  ·rfl
  ·exact ih _ v
  ·rfl
 | setObj r o k ih =>
  intro v
  simp only [Sem.bind,Sem.run]
  split
  ·rfl
  ·exact ih _
  ·rfl
 | choose q k ih =>
  intro v
  simp only [Sem.bind,Sem.run]
  split
  ·exact ih _ v
  ·exact ih _ _
 | sys c k ih=>intro v;exact ih _ _
 | program k ih=>intro v;exact ih _ v
 | mark m k ih=>intro v;exact ih v
theorem runT_bind {α β:Type} (Q:Program) (s:Sem α) (f:α→Sem β):∀ (w:World) (es:Array Event),(s.bind f).runT Q w es=match s.runT Q w es with|(.ok a w,es)=>(f a).runT Q w es|(.halt h w,es)=>(.halt h w,es):=by
 induction s with
 | pure a=>intro w es;rfl
 | halt h=>intro w es;rfl
 | load m a k ih =>
  intro w es
  simp only [Sem.bind,Sem.runT]
  split
  ·exact ih _ _ _
  ·split
   ·exact ih _ _ _
   ·rfl
 | store m a u k ih =>
  intro w es
  simp only [Sem.bind]
  cases hu:oneV u
  ·cases u <;> first|rfl|cases hu
  ·rw [runT_store_yes _ _ _ _ _ _ _ hu,runT_store_yes _ _ _ _ _ _ _ hu]
   split
   ·split
    ·rfl
    ·exact ih _ _
   ·split
    ·exact ih _ _
    ·rfl
 | new o k ih=>intro w es;exact ih _ _ _
 | shape r k ih=>intro w es;exact ih _ _ _
 | freeze a n k ih=>intro w es;exact ih _ _
 | frozen a k ih=>intro w es;exact ih _ _ _
 | getObj r k ih =>
  intro w es
  simp only [Sem.bind,Sem.runT]
  split
  ·rfl
  ·exact ih _ _ _
  ·rfl
 | setObj r o k ih =>
  intro w es
  simp only [Sem.bind,Sem.runT]
  split
  ·rfl
  ·exact ih _ _
  ·rfl
 | choose q k ih =>
  intro w es
  simp only [Sem.bind,Sem.runT]
  split
  ·exact ih _ _ _
  ·exact ih _ _ _
 | sys c k ih=>intro w es;exact ih _ _ _
 | program k ih=>intro w es;exact ih _ _ _
 | mark m k ih=>intro w es;exact ih _ _
theorem Fit.bind' {s:Sem α} {f:α→Sem β} (hs:Fit P F N s) (hf:∀ a,Fit P F N (f a)):Fit P F N (s.bind f):=by
 intro S hS e v w ha
 have hb:=run_bind (withF P F) s f v
 rcases hs S hS e v w ha with h|⟨h,h'⟩
 ·cases hr:s.run (withF P F) v with
  | ok a v1=>rw [hr] at h;exact h.elim
  | halt x v1 =>
   rw [hr] at h hb
   rw [hb]
   refine .inl ?_
   cases x <;> first|exact h.elim|exact h
 ·cases hr:s.run (withF P F) v with
  | ok a v1 =>
   rw [hr] at h h' hb
   simp only at hb
   have hm:=(run_drawn (withF P F) (f a) v1).1
   by_cases hd1:v1.drawn≤e.top
   ·obtain ⟨w1,es1,h1,h2,h3⟩:=h' hd1
    rw [hr] at h1 h2
    rcases hf a S hS e v1 w1 h2 with g|⟨g,g'⟩
    ·rw [hb];exact .inl g
    ·refine .inr ⟨by rw [hb];exact g,fun hd=>?_⟩
     rw [hb] at hd
     exact (g' hd).step es1 (fun y hy=>by rw [show v1.heap.size=w1.heap.size from h2.size];exact h3 y hy) hb fun es0=>by rw [runT_bind,h1];rfl
   ·-- it draws beyond e: only how it ends is asked for
    have hal:Alike (okObj P F) (fun _=>none) ⟨v1.drawn,0,0,v.tape,v.tape⟩ v v:=⟨rfl,rfl,rfl,fun _ _=>rfl,fun _ _ h=>(by cases h),ha.ok,rfl,rfl,rfl,fun _ _ _ _=>rfl⟩
    rcases hs _ (fun _ _ h=>by cases h) _ v v hal with k|⟨k,k'⟩
    ·rw [hr] at k;exact k.elim
    rw [hr] at k'
    obtain ⟨w1,es1,h1,h2,h3⟩:=k' (Nat.le_refl _)
    rw [hr] at h2
    have hal2:Alike (okObj P F) (fun _=>none) ⟨v1.drawn,0,0,v1.tape,v1.tape⟩ v1 v1:=⟨rfl,rfl,rfl,fun _ _=>rfl,fun _ _ h=>(by cases h),h2.ok,rfl,rfl,rfl,fun _ _ _ _=>rfl⟩
    rcases hf a _ (fun _ _ h=>by cases h) _ v1 v1 hal2 with g|⟨g,_⟩
    ·rw [hb];exact .inl g
    ·exact .inr ⟨by rw [hb];exact g,fun hd=>absurd (Nat.le_trans hm (by rw [hb] at hd;exact hd)) hd1⟩
  | halt x v1 =>
   rw [hr] at h h' hb
   simp only at hb
   refine .inr ⟨by rw [hb];cases x <;> first|exact h.elim|trivial,fun hd=>?_⟩
   rw [hb] at hd
   obtain ⟨w1,es1,h1,h2,h3⟩:=h' hd
   rw [hr] at h1 h2
   refine ⟨w1,es1,fun es0=>?_,by rw [hb];exact h2,h3⟩
   rw [runT_bind,h1,hb]
   rfl
end
end Go.Proofs.YtpcjdalgebgofaaGreatDoor
namespace Go.Proofs.YtpcjdalgebgofaaGreatDoor
open Go Go.Conc
section
variable {P:Program} {F:Array Func} {N:Nat→Prop} {α β:Type}
theorem Fit.pureM (a:α):Fit P F N (Pure.pure a:Sem α):=Fit.pure' a
theorem Fit.bindM {s:Sem α} {f:α→Sem β} (hs:Fit P F N s) (hf:∀ a,Fit P F N (f a)):Fit P F N (s >>= f):=Fit.bind' hs hf
theorem Fit.mapM' {s:Sem α} {f:α→β} (hs:Fit P F N s):Fit P F N (Functor.map f s):=Fit.bind' hs fun _=>Fit.pure' _
theorem Fit.progM {k:Program→Sem α} (he:k (withF P F)=k P) (hk:Fit P F N (k P)):Fit P F N (program >>= k):=Fit.program' he hk
theorem fit_stuck (why:String):Fit P F N (stuck why:Sem α):=Fit.halt' _ trivial
theorem fit_unsupported (u:Unsupported) (h:notInit u:=by exact trivial):Fit P F N (unsupported u:Sem α):=Fit.halt' _ h
theorem fit_goPanic (v:Value):Fit P F N (goPanic v:Sem α):=Fit.halt' _ trivial
theorem fit_load (a:Addr) (m:Mode):Fit P F N (load a m):=Fit.load' fun _=>Fit.pure' _
theorem fit_store (a:Addr) (v:Value) (m:Mode):Fit P F N (store a v m):=Fit.store' (Fit.pure' _)
theorem fit_newObj (o:Obj) (h:okObj P F o:=by exact trivial):Fit P F N (newObj o):=Fit.new' h fun _=>Fit.pure' _
theorem fit_choose (q:Question):Fit P F N (choose q):=Fit.choose' fun _=>Fit.pure' _
theorem fit_frozen (a:Addr):Fit P F N (frozen a):=Fit.frozen' fun _=>Fit.pure' _
theorem fit_askRoom (n:Nat):Fit P F N (askRoom n):=by
 unfold askRoom
 split
 ·exact Fit.mark' rfl (Fit.pure' _)
 ·exact Fit.pure' _
theorem fit_typeInfo (t:TypeId):Fit P F N (typeInfo t):=by
 refine Fit.progM rfl ?_
 split
 ·exact Fit.pureM _
 ·exact fit_stuck _
theorem fit_underlying (t:TypeId):Fit P F N (underlying t):=by
 refine Fit.progM rfl ?_
 split
 ·exact Fit.pureM _
 ·exact fit_stuck _
theorem fit_sizeOf (t:TypeId):Fit P F N (sizeOf t):=Fit.bindM (fit_typeInfo t) fun _=>Fit.pureM _
theorem fit_zeroValue (t:TypeId):Fit P F N (zeroValue t):=Fit.bindM (fit_typeInfo t) fun i=>by
 split
 ·exact Fit.pureM _
 ·exact fit_unsupported _
theorem fit_isAgg (t:TypeId):Fit P F N (isAgg t):=Fit.bindM (fit_underlying t) fun i=>by split <;> exact Fit.pureM _
theorem fit_typeStr (t:TypeId):Fit P F N (typeStr t):=Fit.bindM (fit_typeInfo t) fun i=>by
 simp only
 split
 ·exact fit_unsupported _
 ·exact Fit.pureM _
theorem fit_elemOf (t:TypeId):Fit P F N (elemOf t):=Fit.bindM (fit_underlying t) fun i=>by split <;> first|exact Fit.pureM _|exact fit_stuck _
theorem fit_loadCellsFrom (a:Addr):∀ (n i:Nat) (acc:Array Value),Fit P F N (loadCellsFrom a i n acc)
 | 0,_,_=>Fit.pureM _
 | n+1,_,_=>Fit.bindM (fit_load _ _) fun _=>fit_loadCellsFrom a n _ _
theorem fit_loadCells (a:Addr) (n:Nat):Fit P F N (loadCells a n):=fit_loadCellsFrom a n 0 _
theorem fit_storeCells (a:Addr):∀ (vs:List Value) (i:Nat),Fit P F N (storeCells a vs i)
 | [],i=>by unfold storeCells;exact Fit.pureM _
 | v :: vs,i=>by unfold storeCells;exact Fit.bindM (fit_store _ _ _) fun _=>fit_storeCells a vs _
theorem fit_loadVar (t:TypeId) (a:Addr):Fit P F N (loadVar t a):=Fit.bindM (fit_isAgg t) fun b=>by
 split
 ·exact Fit.bindM (fit_sizeOf t) fun _=>Fit.bindM (fit_loadCells _ _) fun _=>Fit.pureM _
 ·exact fit_load _ _
theorem fit_storeVar (t:TypeId) (a:Addr) (v:Value):Fit P F N (storeVar t a v):=Fit.bindM (fit_sizeOf t) fun n=>by
 simp only
 split
 ·exact Fit.bindM (fit_stuck _) fun _=>fit_storeCells _ _ _
 ·exact Fit.bindM (Fit.pureM _) fun _=>fit_storeCells _ _ _
theorem fit_newRow (t:TypeId) (c:Array Value):Fit P F N (newRow t c):=Fit.bindM (fit_newObj _) fun _=>Fit.pureM _
theorem fit_newVar (t:TypeId) (v:Value):Fit P F N (newVar t v):=fit_newRow _ _
theorem fit_part (t:TypeId) (cs:Array Value) (off:Nat):Fit P F N (part t cs off):=Fit.bindM (fit_isAgg t) fun b=>by
 split
 ·exact Fit.bindM (fit_sizeOf t) fun _=>Fit.pureM _
 ·split
  ·exact Fit.pureM _
  ·exact fit_stuck _
theorem fit_runtimePanic (e:RuntimeError):Fit P F N (runtimePanic e:Sem α):=by
 refine Fit.progM (by cases e <;> rfl) ?_
 cases e with
 | typeAssertion i c a m=>exact Fit.bindM (fit_elemOf _) fun _=>Fit.bindM (fit_newVar _ _) fun _=>fit_goPanic _
 | panicNil=>exact Fit.bindM (fit_elemOf _) fun _=>Fit.bindM (fit_newVar _ _) fun _=>fit_goPanic _
 | _=>exact fit_goPanic _
theorem fit_boundsPanic (k:IntKind) (x y:Int) (c:BoundsCode):Fit P F N (boundsPanic k x y c:Sem α):=by
 unfold boundsPanic
 simp only
 split
 ·exact Fit.bindM (Fit.mapM' (fit_choose _)) fun _=>fit_runtimePanic _
 ·exact Fit.bindM (Fit.pureM _) fun _=>fit_runtimePanic _
theorem fit_asIntOf (v:Value):Fit P F N (asIntOf v):=by unfold asIntOf;split <;> first|exact Fit.pureM _|exact fit_unsupported _|exact fit_stuck _
theorem fit_asInt (v:Value):Fit P F N (asInt v):=Fit.bindM (fit_asIntOf v) fun _=>Fit.pureM _
theorem fit_asBool (v:Value):Fit P F N (asBool v):=by unfold asBool;split <;> first|exact Fit.pureM _|exact fit_stuck _
theorem fit_asAgg (v:Value):Fit P F N (asAgg v):=by unfold asAgg;split <;> first|exact Fit.pureM _|exact fit_stuck _
theorem fit_asAddr (v:Value):Fit P F N (asAddr v):=by unfold asAddr;split <;> first|exact Fit.pureM _|exact fit_stuck _|exact fit_runtimePanic _
theorem fit_list {σ:Type} {f:α→σ→Sem (ForInStep σ)} (hf:∀ a b,Fit P F N (f a b)):∀ (l:List α) (b:σ),Fit P F N (forIn l b f)
 | [],b=>by rw [List.forIn_nil];exact Fit.pureM _
 |x :: l,b=>by
  rw [List.forIn_cons]
  refine Fit.bindM (hf x b) fun r=>?_
  split
  ·exact Fit.pureM _
  ·exact fit_list hf l _
theorem fit_array {σ:Type} {f:α→σ→Sem (ForInStep σ)} (hf:∀ a b,Fit P F N (f a b)) (l:Array α) (b:σ):Fit P F N (forIn l b f):=by
 rw [← Array.forIn_toList]
 exact fit_list hf _ _
theorem fit_range {σ:Type} {f:Nat→σ→Sem (ForInStep σ)} (hf:∀ a b,Fit P F N (f a b)) (n:Nat) (b:σ):Fit P F N (forIn [0:n] b f):=by
 rw [Std.Legacy.Range.forIn_eq_forIn_range']
 exact fit_list hf _ _
theorem fit_foldlM {σ:Type} {f:σ→α→Sem σ} (hf:∀ a b,Fit P F N (f a b)):∀ (l:List α) (b:σ),Fit P F N (l.foldlM f b)
 | [],b=>by rw [List.foldlM_nil];exact Fit.pureM _
 | x :: l,b=>by rw [List.foldlM_cons];exact Fit.bindM (hf b x) fun r=>fit_foldlM hf l r
theorem fit_listM {f:α→Sem β} (hf:∀ a,Fit P F N (f a)):∀ l:List α,Fit P F N (l.mapM f)
 | []=>by rw [List.mapM_nil];exact Fit.pureM _
 | x :: l=>by rw [List.mapM_cons];exact Fit.bindM (hf x) fun r=>Fit.bindM (fit_listM hf l) fun _=>Fit.pureM _
theorem fit_arrayM {f:α→Sem β} (hf:∀ a,Fit P F N (f a)) (l:Array α):Fit P F N (l.mapM f):=by
 rw [Array.mapM_eq_mapM_toList]
 exact Fit.mapM' (fit_listM hf _)
end
end Go.Proofs.YtpcjdalgebgofaaGreatDoor
namespace Go.Proofs.YtpcjdalgebgofaaGreatDoor
open Go Go.Conc
section
variable {P:Program} {F:Array Func} {N:Nat→Prop} {α β:Type}
theorem none_of {S:Nat→Option Obj} {r:Nat} (hS:∀ i o,S i=some o→P.globals.size+5≤i∧¬ N i) (hr:N r):S r=none:=by
 cases h:S r with
 | none=>rfl
 | some o=>exact absurd hr (hS r o h).2
theorem Fit.shapeN {r:Nat} {k:Option (TypeId × Nat)→Sem α} (hr:N r) (hk:∀ s,Fit P F N (k s)):Fit P F N (.shape r k):=by
 intro S hS e v w ha
 have hs:=none_of hS hr
 have he:v.shape? r=w.shape? r:=by simp [World.shape?,ha.block _ hs]
 exact Fit.step hS (hk (v.shape? r)) ha #[] (by simp) rfl fun es0=>by simp only [Sem.runT,← he,Array.append_empty]
theorem Fit.byShun {s:Sem α} (r:Nat) (h1:Fit P F (fun i=>i=r∨N i) s)
  (h2:∀ (v w:World) (o:Obj),v.heap[r]?=some poison→w.heap[r]?=some o→okS o→(∃ a es,s.run (withF P F) v=.ok a v∧(∀ es0,s.runT P w es0=(.ok a w,es0 ++ es))∧∀ x ∈ es,x.loc=.obj r)∨Res.bad (s.run (withF P F) v)):Fit P F N s:=by
 intro S hS e v w ha
 cases hs:S r with
 | some o =>
  obtain ⟨hv,hw,hc⟩:=ha.shun r o hs
  rcases h2 v w o hv hw hc with ⟨a,es,e1,e2,e3⟩|hb
  ·refine .inr ⟨by rw [e1];trivial,fun _=>⟨w,es,fun es0=>by rw [e1,e2];rfl,by rw [e1];exact ha,fun x hx=>?_⟩⟩
   have hl:=e3 x hx
   exact ⟨fun a h=>(by rw [hl] at h;cases h),fun q h=>(by rw [hl] at h;cases h;exact (Array.getElem?_eq_some_iff.1 hw).1),fun m h=>(by rw [hl] at h;cases h)⟩
  ·exact .inl hb
 | none=>exact h1 S (fun i o hi=>⟨(hS i o hi).1,fun h=>h.elim (fun h=>by subst h;rw [hs] at hi;cases hi) (hS i o hi).2⟩) e v w ha
theorem Fit.getObjN {r:Nat} {k:Obj→Sem α} (hr:N r) (hk:∀ o,Fit P F N (k o)):Fit P F N (.getObj r k):=by
 intro S hS e v w ha
 exact Fit.getObjAt hS ha (none_of hS hr) fun o _=>hk o
theorem okS_cases {o:Obj} (h:okS o):(∃ c t,o=.cells c t∧c.size≠0)∨(∃ l,o=.loop l)∨(∃ d,o=.deferred d)∨∃ c t,o=.pending c t:=by
 unfold okS at h
 split at h
 ·obtain ⟨h1,rfl⟩:=h
  exact .inl ⟨_,_,rfl,h1⟩
 ·exact .inr (.inl ⟨_,rfl⟩)
 ·exact .inr (.inr (.inl ⟨_,rfl⟩))
 ·exact .inr (.inr (.inr ⟨_,_,rfl⟩))
 ·exact h.elim
theorem fit_shapeN {r:Nat} (hr:N r):Fit P F N (shape r):=Fit.shapeN hr fun _=>Fit.pure' _
theorem fit_getObjN {r:Nat} (hr:N r):Fit P F N (getObj r):=Fit.getObjN hr fun _=>Fit.pure' _
theorem fit_viewAt (r:Nat):Fit P F N (viewAt r):=by
 refine Fit.byShun r ?_ ?_
 ·refine Fit.bindM (fit_shapeN (.inl rfl)) fun s=>?_
  split
  ·exact Fit.pureM _
  ·refine Fit.bindM (fit_getObjN (.inl rfl)) fun o=>?_
   split <;> exact Fit.pureM _
 ·intro v w o hv hw ho
  have hv':(viewAt r).run (withF P F) v=.ok none v:=by simp [viewAt,shape,getObj,bind,Sem.bind,Sem.run,World.shape?,hv,pure]
  rcases okS_cases ho with ⟨c,t,rfl,_⟩|⟨l,rfl⟩|⟨d,rfl⟩|⟨c,t,rfl⟩
  ·refine .inl ⟨none,#[],hv',fun es=>?_,by simp⟩
   have h:w.shape? r=some (t,c.size):=by simp [World.shape?,hw]
   simp only [viewAt,shape,bind,Sem.bind,Sem.runT,h,Option.isSome_some,if_true,pure,Array.append_empty]
  all_goals
   refine .inl ⟨none,#[⟨.obj r,false,false⟩],hv',fun es=>?_,by simp⟩
   have h:w.shape? r=none:=by simp [World.shape?,hw]
   simp only [viewAt,shape,getObj,bind,Sem.bind,Sem.runT,h,hw,pure,Option.isSome_none,Bool.false_eq_true,if_false]
   rfl
theorem fit_numberAt (r:Nat):Fit P F N (numberAt r):=by
 refine Fit.byShun r ?_ ?_
 ·refine Fit.bindM (fit_shapeN (.inl rfl)) fun s=>?_
  split
  ·exact Fit.pureM _
  ·refine Fit.bindM (fit_getObjN (.inl rfl)) fun o=>?_
   split <;> exact Fit.pureM _
 ·intro v w o hv hw ho
  have hv':(numberAt r).run (withF P F) v=.ok none v:=by simp [numberAt,shape,getObj,bind,Sem.bind,Sem.run,World.shape?,hv,pure]
  rcases okS_cases ho with ⟨c,t,rfl,_⟩|⟨l,rfl⟩|⟨d,rfl⟩|⟨c,t,rfl⟩
  ·refine .inl ⟨none,#[],hv',fun es=>?_,by simp⟩
   have h:w.shape? r=some (t,c.size):=by simp [World.shape?,hw]
   simp only [numberAt,shape,bind,Sem.bind,Sem.runT,h,Option.isSome_some,if_true,pure,Array.append_empty]
  all_goals
   refine .inl ⟨none,#[⟨.obj r,false,false⟩],hv',fun es=>?_,by simp⟩
   have h:w.shape? r=none:=by simp [World.shape?,hw]
   simp only [numberAt,shape,getObj,bind,Sem.bind,Sem.runT,h,hw,pure,Option.isSome_none,Bool.false_eq_true,if_false]
   rfl
theorem fit_noView (a:Addr):Fit P F N (noView a):=Fit.bindM (fit_viewAt _) fun o=>by
 split
 ·exact fit_unsupported _
 ·exact Fit.pureM _
theorem fit_behindNumber (a:Addr):Fit P F N (behindNumber a):=Fit.bindM (fit_numberAt _) fun _=>Fit.pureM _
theorem fit_stringish (a:Addr):Fit P F N (stringish a):=by
 refine Fit.byShun a.block ?_ ?_
 ·refine Fit.bindM (fit_frozen _) fun b=>?_
  split
  ·exact Fit.pureM _
  ·refine Fit.bindM (fit_shapeN (.inl rfl)) fun o=>?_
   split
   ·exact fit_frozen _
   ·exact Fit.pureM _
 ·intro v w o hv hw ho
  have hv':(stringish a).run (withF P F) v=.ok false v:=by simp [stringish,frozen,shape,bind,Sem.bind,Sem.run,World.shape?,World.frozen?,hv,pure]
  refine .inl ⟨false,#[],hv',fun es=>?_,by simp⟩
  rcases okS_cases ho with ⟨c,t,rfl,_⟩|⟨l,rfl⟩|⟨d,rfl⟩|⟨c,t,rfl⟩
  ·have h:w.shape? a.block=some (t,c.size):=by simp [World.shape?,hw]
   have hf:∀ o,w.frozen? ⟨a.block,o,none⟩=false:=fun o=>by simp [World.frozen?,hw]
   have hf':w.frozen? a=false:=by simp [World.frozen?,hw]
   simp only [stringish,frozen,shape,bind,Sem.bind,Sem.runT,h,hf',hf,Bool.false_eq_true,if_false,pure,Array.append_empty]
  all_goals
   have h:w.shape? a.block=none:=by simp [World.shape?,hw]
   have hf':w.frozen? a=false:=by simp [World.frozen?,hw]
   simp only [stringish,frozen,shape,bind,Sem.bind,Sem.runT,h,hf',Bool.false_eq_true,if_false,pure,Array.append_empty]
theorem fit_none0 (x:Addr):Fit P F N (do pure ((← shape x.block) matches some (_,0)):Sem Bool):=by
 refine Fit.byShun x.block ?_ ?_
 ·exact Fit.bindM (fit_shapeN (.inl rfl)) fun _=>Fit.pureM _
 ·intro v w o hv hw ho
  refine .inl ⟨false,#[],by simp [shape,bind,Sem.bind,Sem.run,World.shape?,hv,pure],fun es=>?_,by simp⟩
  rcases okS_cases ho with ⟨c,t,rfl,hc⟩|⟨l,rfl⟩|⟨d,rfl⟩|⟨c,t,rfl⟩
  ·have:∃ n,c.size=n+1:=⟨c.size - 1,by omega⟩
   obtain ⟨n,hn⟩:=this
   have h:w.shape? x.block=some (t,n+1):=by simp [World.shape?,hw,hn]
   simp only [shape,bind,Sem.bind,Sem.runT,h,pure,Array.append_empty]
  all_goals
   have h:w.shape? x.block=none:=by simp [World.shape?,hw]
   simp only [shape,bind,Sem.bind,Sem.runT,h,pure,Array.append_empty]
theorem fit_mayBeOne (a b:Addr):Fit P F N (mayBeOne a b):=by
 exact Fit.bindM (fit_stringish _) fun x=>Fit.bindM (fit_stringish _) fun y=>Fit.bindM (fit_none0 a) fun _=>Fit.bindM (fit_none0 b) fun _=>Fit.pureM _
theorem fit_sameAddr (a b:Addr):Fit P F N (sameAddr a b):=by
 unfold sameAddr
 simp only
 split
 ·exact Fit.pureM _
 refine Fit.bindM (fit_frozen _) fun x=>Fit.bindM (fit_frozen _) fun y=>?_
 have key:Fit P F N (do
   noView a
   noView b
   if ← mayBeOne a b then return (← choose (Question.extern "sameAddr.stringBytes" 2)) == 1
   pure false:Sem Bool):=by
  refine Fit.bindM (fit_noView _) fun _=>Fit.bindM (fit_noView _) fun _=>Fit.bindM (fit_mayBeOne _ _) fun z=>?_
  split
  ·exact Fit.bindM (fit_choose _) fun _=>Fit.pureM _
  ·exact Fit.pureM _
 split
 ·exact Fit.bindM (fit_unsupported _) fun _=>key
 ·exact key
theorem fit_samePointer (a b:Option Addr):Fit P F N (samePointer a b):=by
 unfold samePointer
 split
 ·exact fit_sameAddr _ _
 ·exact Fit.pureM _
theorem fit_byteOf (a:Addr):Fit P F N (byteOf a):=by
 unfold byteOf
 split
 ·exact Fit.pureM _
 refine Fit.progM (k:=fun p=>_) ?_ ?_
 ·simp only [byteOfCell_f,depth_f]
  rfl
 refine Fit.byShun a.block ?_ ?_
 ·refine Fit.bindM (fit_noView _) fun _=>Fit.bindM (fit_shapeN (.inl rfl)) fun o=>?_
  split
  ·simp only
   split
   ·exact Fit.pureM _
   ·split
    ·exact Fit.pureM _
    ·exact fit_stuck _
  ·exact fit_stuck _
 ·intro v w o hv hw _
  exact .inr (by simp [noView,viewAt,shape,getObj,bind,Sem.bind,Sem.run,World.shape?,hv,pure,stuck,Res.bad])
end
section
variable (P:Program) (F:Array Func)
theorem alike_f:∀ d t u,(withF P F).alikeButTags d t u=P.alikeButTags d t u
 | 0,_,_=>rfl
 |d+1,t,u=>by
  unfold Program.alikeButTags
  simp only [alike_f d]
  first|done|rfl
theorem stoodInAs_f (t:TypeId):(withF P F).stoodInAs t=P.stoodInAs t:=by
 unfold Program.stoodInAs
 simp only [alike_f,depth_f]
 first|done|rfl
theorem stoodInHeld_f (t:TypeId):(withF P F).stoodInHeld t=P.stoodInHeld t:=by
 unfold Program.stoodInHeld
 rw [stoodInAs_f]
theorem packed_f (t:TypeId):(withF P F).packed t=P.packed t:=by
 unfold Program.packed Program.packedAs
 simp only [alike_f,depth_f]
 rfl
theorem holdsPacked_f:∀ d t,(withF P F).holdsPacked d t=P.holdsPacked d t
 | 0,_=>rfl
 |d+1,t=>by
  unfold Program.holdsPacked
  simp only [holdsPacked_f d,packed_f]
  rfl
theorem eqGuardType_f:∀ d t,(withF P F).eqGuardType d t=P.eqGuardType d t
 | 0,_=>rfl
 |d+1,t=>by
  unfold Program.eqGuardType
  simp only [eqGuardType_f d]
  rfl
end
section
variable {P:Program} {F:Array Func} {N:Nat→Prop} {α β:Type}
theorem fit_eqGuardIn:∀ (d:Nat) (t:TypeId) (x y:Value),Fit P F N (Op.eqGuardIn d t x y)
 | 0,_,_,_=>fit_unsupported _
 |d+1,t,x,y=>by
  unfold Op.eqGuardIn
  refine Fit.bindM (fit_underlying t) fun u=>?_
  split
  ·exact Fit.pureM _
  ·refine Fit.bindM (fit_array (fun f b=>?_) _ _) fun r=>?_
   ·split
    ·refine Fit.bindM (fit_part _ _ _) fun _=>Fit.bindM (fit_part _ _ _) fun _=>Fit.bindM (fit_eqGuardIn d _ _ _) fun z=>?_
     split <;> exact Fit.pureM _
    ·exact Fit.pureM _
   ·simp only
    split <;> exact Fit.pureM _
  ·refine Fit.bindM (fit_sizeOf _) fun n=>Fit.bindM (fit_range (fun f b=>?_) _ _) fun r=>?_
   ·refine Fit.bindM (fit_part _ _ _) fun _=>Fit.bindM (fit_part _ _ _) fun _=>Fit.bindM (fit_eqGuardIn d _ _ _) fun z=>?_
    split <;> exact Fit.pureM _
   ·simp only
    split <;> exact Fit.pureM _
  ·exact Fit.pureM _
theorem fit_equalIn:∀ (d:Nat) (t:TypeId) (x y:Value),Fit P F N (Op.equalIn d t x y)
 | 0,_,_,_=>fit_unsupported _
 |d+1,t,x,y=>by
  unfold Op.equalIn
  refine Fit.bindM (fit_underlying t) fun u=>?_
  split
  all_goals try (first|exact Fit.pureM _|exact fit_stuck _|exact fit_unsupported _|exact fit_samePointer _ _)
  all_goals try (split <;> first|exact Fit.pureM _|exact fit_stuck _)
  case h_5 =>
   refine Fit.bindM (fit_behindNumber _) fun _=>Fit.bindM (fit_behindNumber _) fun _=>Fit.progM rfl ?_
   split
   ·exact Fit.bindM (fit_byteOf _) fun _=>Fit.bindM (fit_byteOf _) fun _=>Fit.pureM _
   ·refine Fit.bindM (fit_typeInfo _) fun i=>?_
    split
    ·split
     ·exact Fit.pureM _
     ·exact fit_unsupported _
    ·exact fit_unsupported _
  case h_13 =>
   refine Fit.bindM (fit_sizeOf _) fun n=>?_
   split
   ·exact fit_sameAddr _ _
   ·split
    ·exact Fit.pureM _
    ·exact Fit.bindM (fit_choose _) fun _=>Fit.pureM _
  case h_19 =>
   split
   ·exact Fit.pureM _
   ·refine Fit.bindM (fit_typeInfo _) fun i=>?_
    split
    ·refine Fit.progM ?_ (Fit.progM ?_ ?_)
     ·simp only [holdsPacked_f]
     ·simp only [depth_f]
      rfl
     ·simp only
      split
      ·exact Fit.bindM (fit_unsupported _) fun _=>Fit.bindM (fit_typeStr _) fun _=>fit_runtimePanic _
      ·exact Fit.bindM (fit_typeStr _) fun _=>fit_runtimePanic _
    ·exact fit_equalIn d _ _ _
  case h_20 =>
   refine Fit.progM (by simp only [stoodInHeld_f]) ?_
   simp only
   have key:∀ fs:Array Field,∀ xs ys:Array Value,Fit P F N (do
     for f in fs do
      if f.name ≠ "_" then
       if !(← Op.equalIn d f.type (← part f.type xs f.offset) (← part f.type ys f.offset)) then return false
     pure true:Sem Bool):=by
    intro fs xs ys
    refine Fit.bindM (fit_array (fun f b=>?_) _ _) fun r=>?_
    ·split
     ·refine Fit.bindM (fit_part _ _ _) fun _=>Fit.bindM (fit_part _ _ _) fun _=>Fit.bindM (fit_equalIn d _ _ _) fun z=>?_
      split <;> exact Fit.pureM _
     ·exact Fit.pureM _
    ·simp only
     split <;> exact Fit.pureM _
   split
   ·exact Fit.bindM (fit_unsupported _) fun _=>key _ _ _
   ·exact key _ _ _
  case h_21 =>
   refine Fit.bindM (fit_sizeOf _) fun n=>Fit.bindM (fit_range (fun f b=>?_) _ _) fun r=>?_
   ·refine Fit.bindM (fit_part _ _ _) fun _=>Fit.bindM (fit_part _ _ _) fun _=>Fit.bindM (fit_equalIn d _ _ _) fun z=>?_
    split <;> exact Fit.pureM _
   ·simp only
    split <;> exact Fit.pureM _
end
end Go.Proofs.YtpcjdalgebgofaaGreatDoor

/-
  Lemmas and contracts: Qi Qj Qk Ql Qm. No condition.
-/
import Derived.Conc.Listed
import Derived.Test.YtpcjdalgebgofaaGreatDoorKa2
set_option linter.unusedSimpArgs false
set_option linter.unusedVariables false
set_option linter.unusedSectionVars false
namespace Go.Proofs.YtpcjdalgebgofaaGreatDoor
open Go Go.Conc
section
variable {P:Program} {F:Array Func} {N:Nat→Prop} {α β:Type}
theorem sys_env (w:World):w.sys .env=(.strings w.os.env,w):=by
 unfold World.sys
 simp [Kernel.perform,World.ask,Kernel.lengthOf,Kernel.named,Kernel.ofKernel,Kernel.each,Kernel.env,Kernel.stamps,pure,bind,Ask.bind]
theorem fit_sysEnv:Fit P F N (sys .env):=by
 intro S hS e v w ha
 have hr:(sys .env).run (withF P F) v=.ok (.strings v.os.env) v:=by
  show (Sem.pure (v.sys .env).1).run (withF P F) (v.sys .env).2=_
  rw [sys_env]
  rfl
 refine .inr ⟨by rw [hr];trivial,fun _=>⟨w,#[⟨.output,true,false⟩],fun es0=>?_,by rw [hr];exact ha,fun x hx=>?_⟩⟩
 ·rw [hr]
  show (Sem.pure (w.sys .env).1).runT P (w.sys .env).2 (es0.push ⟨.output,true,false⟩)=_
  rw [sys_env,← ha.os]
  rfl
 ·rw [mem_one hx]
  exact ⟨fun _ h=>(by cases h),fun _ h=>(by cases h),fun _ h=>(by cases h)⟩
theorem fit_panicnil:Fit P F N Instr.panicnil:=by
 unfold Instr.panicnil
 refine Fit.bindM fit_sysEnv fun r=>?_
 split
 ·exact Fit.progM rfl (Fit.pureM _)
 ·exact fit_stuck _
theorem fit_panic (v:Value):Fit P F N (Instr.panic v):=by
 unfold Instr.panic
 split
 ·exact fit_goPanic _
 ·refine Fit.bindM fit_panicnil fun z=>?_
  split
  ·exact fit_goPanic _
  ·exact fit_runtimePanic _
 ·exact fit_stuck _
theorem fit_nilAhead:∀ (n:Nat) (t:TypeId) (v:Value) (name:String),Fit P F N (nilAhead n t v name)
 | 0,_,_,_=>Fit.pureM _
 |n+1,t,v,name=>by
  unfold nilAhead
  refine Fit.bindM (fit_typeInfo _) fun i=>?_
  split
  ·have hfb:∀ (l:List FieldStep) (t:TypeId) (o:Option Value),Fit P F N (followBlind l t o):=by
    intro l
    induction l with
    | nil=>intro t o;exact Fit.pureM _
    | cons s rest ih =>
     intro t o
     unfold followBlind
     refine Fit.bindM (fit_underlying _) fun u=>?_
     split
     ·split
      ·split
       all_goals first|exact Fit.pureM _|exact ih _ _|exact fit_stuck _|exact Fit.bindM (fit_part _ _ _) fun _=>ih _ _
      ·exact fit_stuck _
     ·exact fit_stuck _
   refine Fit.bindM (hfb _ _ _) fun q=>?_
   split
   ·exact Fit.pureM _
   ·split
    all_goals first|exact Fit.pureM _|exact fit_nilAhead n _ _ _|exact fit_stuck _|skip
    refine Fit.bindM (fit_underlying _) fun u=>?_
    split <;> exact Fit.pureM _
  ·exact fit_stuck _
end
/-! what an operation may come to -/
def okNext (P:Program) (F:Array Func) (Spec:FuncId→Prop) (r:Bool):Next→Prop
 | .value _|.skip=>True
 | .recover=>r=false
 | .enter f _=>Spec f∨(¬ Spec f∧F[f]?=P.funcs[f]?)
 | .round _ f _ a b=>okCode P true a=true∧okCode P true b=true∧F[f]?=P.funcs[f]?
 | .defer d=>okT d.target=true
 | .comm cs b _=>b=true∧cs.size=1
 | _=>False
def okHeap (P:Program) (F:Array Func) (v:World):Prop:=∀ (i:Nat) (o:Obj),v.heap[i]?=some o→okObj P F o
def Rets (P:Program) (F:Array Func) (Spec:FuncId→Prop) (r:Bool) (s:Sem Next):Prop:=∀ v,okHeap P F v→∀ n v',s.run (withF P F) v=.ok n v'→okNext P F Spec r n
section
variable {P:Program} {F:Array Func} {N:Nat→Prop} {Spec:FuncId→Prop} {r:Bool} {α β:Type}
theorem Alike.self {v:World} (h:okHeap P F v) (n:Nat):Alike (okObj P F) (fun _=>none) ⟨n,0,0,v.tape,v.tape⟩ v v:=⟨rfl,rfl,rfl,fun _ _=>rfl,fun _ _ h=>(by cases h),h,rfl,rfl,rfl,fun _ _ _ _=>rfl⟩
theorem Fit.keeps {s:Sem α} (h:Fit P F N s) {v:World} (hv:okHeap P F v) (hg:Res.good (s.run (withF P F) v)):okHeap P F (Res.world (s.run (withF P F) v)):=by
 rcases h (fun _=>none) (fun _ _ h=>by cases h) _ v v (Alike.self hv (Res.world (s.run (withF P F) v)).drawn) with hb|⟨_,k⟩
 ·cases hr:s.run (withF P F) v with
  | ok a v1=>rw [hr] at hb;exact hb.elim
  | halt x v1=>rw [hr] at hb hg;cases x <;> first|exact hb.elim|exact hg.elim
 ·obtain ⟨w',es,_,h2,_⟩:=k (Nat.le_refl _)
  exact h2.ok
theorem rets_bind {s:Sem α} {f:α→Sem Next} (hs:Fit P F N s) (hf:∀ a,Rets P F Spec r (f a)):Rets P F Spec r (s >>= f):=by
 intro v hv n v' hr
 have e:(s >>= f).run (withF P F) v=match s.run (withF P F) v with|.ok a w=>(f a).run (withF P F) w|.halt h w=>.halt h w:=run_bind _ s f v
 rw [e] at hr
 cases h1:s.run (withF P F) v with
 | ok a v1 =>
  rw [h1] at hr
  have:=hs.keeps hv (by rw [h1];trivial)
  rw [h1] at this
  exact hf a v1 this n v' hr
 | halt x v1=>rw [h1] at hr;cases hr
theorem rets_then {s:Sem α} {f:α→Sem Next} (hf:∀ a v n v',(f a).run (withF P F) v=.ok n v'→okNext P F Spec r n):Rets P F Spec r (s >>= f):=by
 intro v hv n v' hr
 have e:(s >>= f).run (withF P F) v=match s.run (withF P F) v with|.ok a w=>(f a).run (withF P F) w|.halt h w=>.halt h w:=run_bind _ s f v
 rw [e] at hr
 cases h1:s.run (withF P F) v with
 | ok a v1=>rw [h1] at hr;exact hf a v1 n v' hr
 | halt x v1=>rw [h1] at hr;cases hr
theorem rets_pure {n:Next} (h:okNext P F Spec r n):Rets P F Spec r (Pure.pure n):=fun v _ m v' hr=>by cases hr;exact h
theorem rets_halt {h:Halt}:Rets P F Spec r (.halt h):=fun v _ m v' hr=>by cases hr
theorem rets_value {s:Sem Value}:Rets P F Spec r (do pure (.value (← s)):Sem Next):=rets_then fun a v n v' hr=>by cases hr;trivial
theorem rets_unit {s:Sem Unit}:Rets P F Spec r (do s;pure .skip:Sem Next):=rets_then fun a v n v' hr=>by cases hr;trivial
theorem rets_prog {k:Program→Sem Next} (he:k (withF P F)=k P) (hk:Rets P F Spec r (k P)):Rets P F Spec r (program >>= k):=by
 intro v hv n v' hr
 have e:(program >>= k).run (withF P F) v=(k (withF P F)).run (withF P F) v:=rfl
 rw [e,he] at hr
 exact hk v hv n v' hr
def Never {α:Type} (Q:Program) (s:Sem α):Prop:=∀ v x v',s.run Q v≠.ok x v'
theorem never_bind {Q:Program} {s:Sem β} {f:β→Sem α} (hf:∀ a,Never Q (f a)):Never Q (s >>= f):=by
 intro v x v' hr
 have e:(s >>= f).run Q v=match s.run Q v with|.ok a w=>(f a).run Q w|.halt h w=>.halt h w:=run_bind _ s f v
 rw [e] at hr
 cases h1:s.run Q v with
 | ok a v1=>rw [h1] at hr;exact hf a v1 x v' hr
 | halt y v1=>rw [h1] at hr;cases hr
theorem never_bind_head {Q:Program} {s:Sem β} {f:β→Sem α} (hs:Never Q s):Never Q (s >>= f):=by
 intro v x v' hr
 have e:(s >>= f).run Q v=match s.run Q v with|.ok a w=>(f a).run Q w|.halt h w=>.halt h w:=run_bind _ s f v
 rw [e] at hr
 cases h1:s.run Q v with
 | ok a v1=>exact hs v a v1 h1
 | halt y v1=>rw [h1] at hr;cases hr
theorem never_halt {Q:Program} {h:Halt}:Never Q (.halt h:Sem α):=fun v x v' hr=>by cases hr
theorem never_runtimePanic {Q:Program} (e:RuntimeError):Never Q (runtimePanic e:Sem α):=by
 unfold runtimePanic
 refine never_bind fun p=>?_
 cases e with
 | typeAssertion i c a m=>exact never_bind fun _=>never_bind fun _=>never_halt
 | panicNil=>exact never_bind fun _=>never_bind fun _=>never_halt
 | _=>exact never_halt
theorem rets_runtimePanic (e:RuntimeError):Rets P F Spec r (runtimePanic e:Sem Next):=fun v _ n v' hr=>absurd hr (never_runtimePanic e v n v')
end
structure Kin (P:Program) (F:Array Func) (Spec:FuncId→Prop):Prop where
 size:F.size=P.funcs.size
 call:∀ (f:FuncId) (args:Array Value) (N:Nat→Prop),Fit P F N (callFunc f args)
 rets:∀ (r:Bool) (f:FuncId) (args:Array Value),Rets P F Spec r (callFunc f args)
 code:∀ (f:FuncId) (fn:Func) (c:Code),¬ Spec f→F[f]?=some fn→fn.body=some c→okCode P false c=true
section
variable {P:Program} {F:Array Func} {Spec:FuncId→Prop} {N:Nat→Prop}
theorem fit_value {s:Sem Value} (hs:Fit P F N s):Fit P F N (do pure (.value (← s)):Sem Next):=Fit.bindM hs fun _=>Fit.pureM _
theorem fit_unit {s:Sem Unit} (hs:Fit P F N s):Fit P F N (do s;pure .skip:Sem Next):=Fit.bindM hs fun _=>Fit.pureM _
theorem fit_ofValue (f:Value) (args:Array Value):Fit P F N (Deferred.ofValue f args):=by
 unfold Deferred.ofValue
 split
 ·exact Fit.pureM _
 ·exact Fit.pureM _
 ·exact fit_stuck _
theorem fit_resolve (ρ:Operand→Value) (c:Call) (t:TypeId):Fit P F N (resolve ρ c t):=by
 unfold resolve
 simp only
 split
 ·exact Fit.pureM _
 ·exact Fit.pureM _
 ·exact fit_ofValue _ _
theorem fit_callMethod (hk:Kin P F Spec) (r:Value) (name:String) (args:Array Value):Fit P F N (callMethod r name args):=by
 unfold callMethod
 split
 ·refine Fit.progM ?_ ?_
  ·rfl
  ·exact Fit.bindM (fit_method _ _ _ _) fun q=>hk.call _ _ _
 ·exact fit_runtimePanic _
 ·exact fit_stuck _
theorem fit_builtin (b:Builtin) (ts:Array TypeId) (t:TypeId) (cs:Array Bool) (args:Array Value) {r:Bool} (h:okB r b=true):Fit P F N (builtin b ts t cs args):=by
 unfold builtin
 cases b <;> first|cases h|skip
 ·exact fit_value (fit_append _ _ _)
 ·exact fit_value (fit_cap _ _ _)
 ·exact fit_value (fit_close _ _ _)
 ·exact fit_value (fit_len _ _ _)
 ·exact fit_value (fit_max _ _ _)
 ·exact fit_value (fit_min _ _ _)
 ·exact Fit.pureM _
def okTB (r:Bool):Target→Bool
 | .builtin b ..=>okB r b
 | _=>true
theorem okTB_of {t:Target} (h:okT t=true):okTB true t=true:=by cases t <;> first|rfl|exact h
theorem fit_invoke (hk:Kin P F Spec) (t:Target) (args:Array Value) {r:Bool} (h:okTB r t=true):Fit P F N (invoke t args):=by
 unfold invoke
 split
 ·exact fit_runtimePanic _
 ·exact fit_builtin _ _ _ _ _ h
 ·exact hk.call _ _ _
 ·split
  ·exact fit_callMethod hk _ _ _
  ·exact fit_stuck _
 ·split
  ·refine Fit.bindM (fit_underlying _) fun u=>?_
   simp only
   split <;> exact fit_callMethod hk _ _ _
  ·exact fit_stuck _
 ·split
  ·exact Fit.bindM (fit_receiverVia _ _ _ _) fun _=>hk.call _ _ _
  ·exact fit_stuck _
 ·exact fit_yield _ _
 ·exact fit_stuck _
 ·exact Fit.pureM _
theorem fit_callValue (hk:Kin P F Spec) (f:Value) (args:Array Value):Fit P F N (do let d ← Deferred.ofValue f args;invoke d.target d.args):=by
 unfold Deferred.ofValue
 split
 ·exact fit_invoke (r:=true) hk (.fn _ _) _ rfl
 ·exact fit_invoke (r:=true) hk .nil args rfl
 ·exact Fit.halt' _ trivial
theorem fit_exec (hk:Kin P F Spec) (ρ:Operand→Value) (o:Oper) {r:Bool} (h:okOp P r o.op=true):Fit P F N (execOp ρ o):=by
 unfold execOp
 simp only
 generalize o.op=op at *
 cases op with
 | move x=>exact Fit.pureM _
 | assign x=>exact Fit.pureM _
 | pick c a b=>exact Fit.bindM (fit_asBool _) fun _=>Fit.pureM _
 | alloc t=>exact fit_value (fit_alloc _ _ _)
 | box t x=>exact fit_value (fit_box _ _)
 | build t ps=>exact fit_value (fit_build _ _)
 | buildSlice t n ps=>exact fit_value (fit_buildSlice _ _ _)
 | load t a=>exact fit_value (fit_loadAt _ _)
 | store t a x=>exact fit_unit (fit_storeAt _ _ _)
 | nilCheck x =>
  dsimp only
  split
  ·exact fit_runtimePanic _
  ·exact fit_runtimePanic _
  ·exact fit_runtimePanic _
  ·split
   ·exact fit_runtimePanic _
   ·refine Fit.progM rfl (Fit.bindM (fit_nilAhead _ _ _ _) fun z=>?_)
    split
    ·exact Fit.bindM (fit_unsupported _) fun _=>Fit.pureM _
    ·exact Fit.pureM _
   ·exact Fit.pureM _
  ·exact Fit.pureM _
 | binOp op t x y u=>exact Fit.bindM (Fit.bindM (fit_eqGuard _ _ _ _ _ _) fun _=>fit_binOp _ _ _ _) fun _=>Fit.pureM _
 | unOp u t x=>exact fit_value (fit_unary _ _)
 | convert s d x =>
  simp only [okOp,Bool.and_eq_true] at h
  obtain ⟨j,hj⟩:=isIntT_some h.1
  obtain ⟨k,hk'⟩:=isIntT_some h.2
  exact fit_value (fit_convertInt hj hk' _)
 | makeInterface t x=>exact fit_value (fit_makeInterface _ _)
 | makeFunc f a b=>exact fit_value (fit_makeFunc _ _ _)
 | makeMap t r=>exact fit_value (fit_makeMap _ _)
 | makeChan t s=>exact fit_value (fit_makeChan _ _)
 | makeSlice t l c=>exact fit_value (fit_makeSlice _ _ _)
 | slice t x l hh m=>exact fit_value (fit_sliceAt _ _ _ _ _)
 | fieldAddr t x f=>exact fit_value (fit_fieldAt _ _ _)
 | field t x f=>exact fit_value (fit_field _ _ _)
 | indexAddr t x i=>exact fit_value (fit_indexAt _ _ _)
 | index t x i=>exact fit_value (fit_index _ _ _)
 | lookup t x i b=>exact fit_value (fit_lookup _ _ _ _)
 | mapUpdate t m k x=>exact fit_unit (fit_mapUpdate _ _ _ _)
 | insert t m k x=>exact fit_unit (fit_mapUpdate _ _ _ _)
 | typeAssert x t u b=>exact fit_value (fit_typeAssert _ _ _ _)
 | extract t i=>exact fit_value (fit_extract _ _)
 | call c =>
  obtain ⟨callee,args,ts⟩:=c
  cases callee with
  | builtin b=>exact fit_invoke (r:=r) hk (.builtin b _ _ _) _ h
  | invoke rc n=>exact fit_invoke (r:=r) hk (.fn (.method n) #[]) _ rfl
  | value f=>exact fit_callValue hk _ _
 | defer c=>exact Fit.bindM (fit_resolve _ _ _) fun _=>Fit.pureM _
 | panic x=>exact fit_value (fit_panic _)
 | send c x=>exact Fit.pureM _
 | recv t c b =>
  refine Fit.bindM (fit_underlying _) fun u=>?_
  split
  ·exact Fit.bindM (fit_zeroValue _) fun _=>Fit.pureM _
  ·exact fit_stuck _
 | _=>cases h
theorem getLoop_ok {Q:Program} {l:Nat} {v v':World} {r:Loop} (h:(Instr.getLoop l).run Q v=.ok r v'):v'=v∧v.heap[l]?=some (.loop r):=by
 unfold Instr.getLoop at h
 simp only [bind,Sem.bind,getObj,Sem.run] at h
 split at h
 ·cases h
 ·rename_i o ho
  split at h
  ·cases h;exact ⟨rfl,ho⟩
  ·cases h
 ·cases h
variable {r:Bool}
theorem rets_yield (l:Nat) (args:Array Value):Rets P F Spec r (Instr.yield l args):=by
 intro v hv n v' hr
 unfold Instr.yield at hr
 have e:=run_bind (withF P F) (Instr.getLoop l) (fun r=>(do
  if args.size≠r.params.size then stuck "yield: the wrong number of arguments"
  pure (.round l r.fn ((r.params.zip args).foldl (fun tmps (t,a)=>tmps.setIfInBounds t a) r.tmps) r.assign r.body):Sem Next)) v
 have hr':=e.symm.trans hr
 cases h1:(Instr.getLoop l).run (withF P F) v with
 | ok r v1 =>
  rw [h1] at hr'
  obtain ⟨rfl,ho⟩:=getLoop_ok h1
  have hO:=hv _ _ ho
  simp only [bind,Sem.bind,pure] at hr'
  split at hr'
  ·cases hr'
  ·cases hr'
   exact ⟨hO.1,hO.2.1,hO.2.2.1⟩
 | halt x v1=>rw [h1] at hr';cases hr'
theorem rets_callMethod (hk:Kin P F Spec) (x:Value) (name:String) (args:Array Value):Rets P F Spec r (callMethod x name args):=by
 unfold callMethod
 split
 ·refine rets_prog rfl ?_
  exact rets_bind (N:=fun _=>False) (fit_method _ _ _ _) fun q=>hk.rets _ _ _
 ·exact rets_runtimePanic _
 ·exact rets_halt
theorem rets_builtin (b:Builtin) (ts:Array TypeId) (t:TypeId) (cs:Array Bool) (args:Array Value) (h:okB r b=true):Rets P F Spec r (builtin b ts t cs args):=by
 unfold builtin
 cases b <;> first|(cases h;done)|exact rets_value|exact rets_pure (show r=false by simpa [okB] using h)
theorem rets_invoke (hk:Kin P F Spec) (t:Target) (args:Array Value) (h:okTB r t=true) (hc:∀ c,t≠.coroexit c):Rets P F Spec r (invoke t args):=by
 unfold invoke
 split
 ·exact rets_runtimePanic _
 ·exact rets_builtin _ _ _ _ _ h
 ·exact hk.rets _ _ _
 ·split
  ·exact rets_callMethod hk _ _ _
  ·exact rets_halt
 ·split
  ·refine rets_bind (N:=fun _=>False) (fit_underlying _) fun u=>?_
   simp only
   split <;> exact rets_callMethod hk _ _ _
  ·exact rets_halt
 ·split
  ·exact rets_bind (N:=fun _=>False) (fit_receiverVia _ _ _ _) fun _=>hk.rets _ _ _
  ·exact rets_halt
 ·exact rets_yield _ _
 ·exact rets_halt
 ·exact absurd rfl (hc _)
theorem rets_callValue (hk:Kin P F Spec) (f:Value) (args:Array Value):Rets P F Spec r (do let d ← Deferred.ofValue f args;invoke d.target d.args):=by
 unfold Deferred.ofValue
 split
 ·exact rets_invoke hk (.fn _ _) _ rfl (fun _ h=>by cases h)
 ·exact rets_invoke hk .nil args rfl (fun _ h=>by cases h)
 ·exact rets_halt
theorem resolve_ok {Q:Program} {ρ:Operand→Value} {c:Call} {t:TypeId} {v v':World} {d:Deferred} (h:(resolve ρ c t).run Q v=.ok d v'):(∃ b,c.callee=.builtin b∧∃ x y z,d.target=.builtin b x y z)∨(d.target=.nil∨∃ f k,d.target=.fn f k):=by
 unfold resolve Deferred.ofValue at h
 simp only at h
 split at h
 ·rename_i hb
  cases h
  exact .inl ⟨_,hb,_,_,_,rfl⟩
 ·cases h;exact .inr (.inr ⟨_,_,rfl⟩)
 ·split at h
  ·cases h;exact .inr (.inr ⟨_,_,rfl⟩)
  ·cases h;exact .inr (.inl rfl)
  ·cases h
theorem rets_exec (hk:Kin P F Spec) (ρ:Operand→Value) (o:Oper) (h:okOp P r o.op=true):Rets P F Spec r (execOp ρ o):=by
 unfold execOp
 simp only
 generalize o.op=op at *
 cases op with
 | move x=>exact rets_pure trivial
 | assign x=>exact rets_pure trivial
 | store t a x=>exact rets_unit
 | mapUpdate t m k x=>exact rets_unit
 | insert t m k x=>exact rets_unit
 | nilCheck x =>
  dsimp only
  split
  ·exact rets_runtimePanic _
  ·exact rets_runtimePanic _
  ·exact rets_runtimePanic _
  ·split
   ·exact rets_runtimePanic _
   ·refine rets_prog rfl (rets_then fun z v n v' hr=>?_)
    simp only [bind,Sem.bind,pure] at hr
    split at hr
    ·cases hr
    ·cases hr;trivial
   ·exact rets_pure trivial
  ·exact rets_pure trivial
 | call c =>
  obtain ⟨callee,args,ts⟩:=c
  cases callee with
  | builtin b=>exact rets_invoke hk (.builtin b _ _ _) _ h (fun _ h=>by cases h)
  | invoke r n=>exact rets_invoke hk (.fn (.method n) #[]) _ rfl (fun _ h=>by cases h)
  | value f=>exact rets_callValue hk _ _
 | defer c =>
  intro v hv n v' hr
  have e:=run_bind (withF P F) (resolve ρ c o.type) (fun d=>(Pure.pure (.defer d):Sem Next)) v
  have hr':=e.symm.trans hr
  cases h1:(resolve ρ c o.type).run (withF P F) v with
  | ok d v1 =>
   rw [h1] at hr'
   cases hr'
   rcases resolve_ok h1 with ⟨b,hb,x,y,z,hd⟩|hd|⟨f,k,hd⟩
   ·obtain ⟨callee,args,ts⟩:=c
    simp only at hb
    subst hb
    simp only [okOp,Bool.and_eq_true] at h
    show okT d.target=true
    rw [hd]
    exact h.2
   ·show okT d.target=true
    rw [hd];rfl
   ·show okT d.target=true
    rw [hd];rfl
  | halt x v1=>rw [h1] at hr';cases hr'
 | send c x=>exact rets_pure ⟨rfl,rfl⟩
 | recv t c b =>
  refine rets_bind (N:=fun _=>False) (fit_underlying _) fun u=>?_
  split
  ·exact rets_bind (N:=fun _=>False) (fit_zeroValue _) fun _=>rets_pure ⟨rfl,rfl⟩
  ·exact rets_halt
 | pick c a b=>exact rets_then fun a v n v' hr=>by cases hr;trivial
 | binOp op t x y u=>exact rets_then fun a v n v' hr=>by cases hr;trivial
 | _=>first|(cases h;done)|exact rets_value
end
end Go.Proofs.YtpcjdalgebgofaaGreatDoor
namespace Go.Proofs.YtpcjdalgebgofaaGreatDoor
open Go Go.Conc
def okItem (P:Program) (r:Bool):Item→Prop
 | .code c|.inLoop c|.inScope c=>okCode P r c=true
 | .inRegion ops _=>∀ o ∈ ops,okOp P r o.op=true
 | .call ..|Item.extern ..=>False
 | _=>True
def okDef (d:Deferred):Prop:=okT d.target=true∨∃ b,d.target=.collected b
structure okFr (P:Program) (F:Array Func) (fr:Frame):Prop where
 items:∀ it ∈ fr.todo,okItem P fr.roundOf.isSome it
 defers:∀ d ∈ fr.defers,okDef d
 kind:fr.kind=.normal∨fr.kind=.deferred
 fn:F[fr.fn]?=P.funcs[fr.fn]?
def bot:Frame→List Frame→Frame
 | fr,[]=>fr
 | _,c :: cs=>bot c cs
structure okG (P:Program) (F:Array Func) (fr:Frame) (cs:List Frame):Prop where
 top:okFr P F fr
 rest:∀ c ∈ cs,okFr P F c
 bot:(bot fr cs).kind=.normal∧(bot fr cs).roundOf=none
section
variable {P:Program} {F:Array Func} {Spec:FuncId→Prop} {fr fr':Frame} {cs:List Frame}
theorem okG.next (h:okG P F fr cs) (h':okFr P F fr') (hk:fr'.kind=fr.kind) (hr:fr'.roundOf=fr.roundOf):okG P F fr' cs:=by
 refine ⟨h',h.rest,?_⟩
 have:=h.bot
 cases cs with
 | nil=>simpa [Proofs.YtpcjdalgebgofaaGreatDoor.bot,hk,hr] using this
 | cons c cs=>exact this
theorem okG.push (h:okG P F fr cs) (h':okFr P F fr'):okG P F fr' (fr :: cs):=⟨h',fun c hc=>by
 rcases List.mem_cons.1 hc with rfl|hc
 ·exact h.top
 ·exact h.rest c hc,h.bot⟩
theorem okG.pop {c:Frame} (h:okG P F fr (c :: cs)):okG P F c cs:=⟨h.rest c (by simp),fun x hx=>h.rest x (by simp [hx]),h.bot⟩
theorem okFr.todo (h:okFr P F fr) {k:List Item} (hk:∀ it ∈ k,okItem P fr.roundOf.isSome it):okFr P F { fr with todo:=k }:=⟨hk,h.defers,h.kind,h.fn⟩
theorem okFr.mode (h:okFr P F fr) (m:FrameMode):okFr P F { fr with mode:=m }:=⟨h.items,h.defers,h.kind,h.fn⟩
theorem okFr.raise (h:okFr P F fr) (vs:List PanicEntry):okFr P F (fr.raise vs):=by
 unfold Frame.raise
 split <;> exact h.mode _
theorem okFr.finish (h:okFr P F fr) (v:Value):okFr P F (fr.finish v):=by
 have hi:=h.items
 unfold Frame.finish
 split
 all_goals (try exact h)
 all_goals rename_i hk;rw [hk] at hi
 ·refine ⟨fun it hit=>?_,h.defers,h.kind,h.fn⟩
  rcases List.mem_cons.1 hit with rfl|hit
  ·have h0:=hi _ (List.mem_cons_self ..)
   exact h0
  ·exact hi it (List.mem_cons_of_mem _ hit)
 ·refine h.todo fun it hit=>?_
  rcases List.mem_cons.1 hit with rfl|hit
  ·trivial
  ·exact hi it (List.mem_cons_of_mem _ hit)
 ·exact h.todo fun it hit=>hi it (List.mem_cons_of_mem _ hit)
 ·exact (hi _ (List.mem_cons_self ..)).elim
 ·exact (hi _ (List.mem_cons_self ..)).elim
theorem finish_kind (v:Value):(fr.finish v).kind=fr.kind∧(fr.finish v).roundOf=fr.roundOf:=by
 unfold Frame.finish
 split <;> exact ⟨rfl,rfl⟩
theorem raise_kind (vs:List PanicEntry):(fr.raise vs).kind=fr.kind∧(fr.raise vs).roundOf=fr.roundOf:=by
 unfold Frame.raise
 split <;> exact ⟨rfl,rfl⟩
theorem okG.finish (h:okG P F fr cs) (v:Value):okG P F (fr.finish v) cs:=h.next (h.top.finish v) (finish_kind v).1 (finish_kind v).2
theorem okG.raise (h:okG P F fr cs) (vs:List PanicEntry):okG P F (fr.raise vs) cs:=h.next (h.top.raise vs) (raise_kind vs).1 (raise_kind vs).2
theorem exitTo_ok {r:Bool} {id:Nat}:∀ {k k':List Item},exitTo id k=some k'→(∀ it ∈ k,okItem P r it)→∀ it ∈ k',okItem P r it
 | [],_,h,_=>by cases h
 |i :: k,k',h,hk=>by
  have hk2:∀ it ∈ k,okItem P r it:=fun it hit=>hk it (List.mem_cons_of_mem _ hit)
  unfold exitTo at h
  split at h
  ·rename_i e
   cases e
   split at h
   ·cases h;exact hk2
   ·exact exitTo_ok h hk2
  ·rename_i e
   cases e
   exact exitTo_ok h hk2
  ·rename_i e
   cases e
theorem findLabel_ok {r:Bool} {l:Nat}:∀ {c rest:Code},findLabel c l=some rest→okCode P r c=true→okCode P r rest=true
 |.seq a b,rest,h,hc=>by
  simp only [okCode,Bool.and_eq_true] at hc
  unfold findLabel at h
  split at h
  ·rename_i x hx
   cases h
   simp only [okCode,Bool.and_eq_true]
   exact ⟨findLabel_ok hx hc.1,hc.2⟩
  ·exact findLabel_ok h hc.2
 |.label l',rest,h,hc=>by
  unfold findLabel at h
  split at h
  ·cases h;rfl
  ·cases h
 |.skip,_,h,_|.region ..,_,h,_|.cond ..,_,h,_|.block ..,_,h,_|.loop ..,_,h,_|.rangeFunc ..,_,h,_|.exit ..,_,h,_|.scope ..,_,h,_|.goto ..,_,h,_|.ret,_,h,_|.refuse ..,_,h,_=>by
  simp [findLabel] at h
theorem gotoIn_ok {r:Bool} {l:Nat}:∀ {k k':List Item},gotoIn l k=some k'→(∀ it ∈ k,okItem P r it)→∀ it ∈ k',okItem P r it
 | [],_,h,_=>by cases h
 |i :: k,k',h,hk=>by
  have hk2:∀ it ∈ k,okItem P r it:=fun it hit=>hk it (List.mem_cons_of_mem _ hit)
  unfold gotoIn at h
  split at h
  ·rename_i body k0 e
   cases e
   split at h
   ·rename_i rest hr
    cases h
    intro it hit
    rcases List.mem_cons.1 hit with rfl|hit
    ·exact findLabel_ok hr (hk _ (List.mem_cons_self ..))
    ·exact hk it hit
   ·exact gotoIn_ok h hk2
  ·rename_i e
   cases e
   exact gotoIn_ok h hk2
  ·rename_i e
   cases e
theorem okJump_code {r:Bool} {c:Code} (h:okJump c=true):okCode P r c=true:=by
 cases c <;> first|rfl|cases h
end
end Go.Proofs.YtpcjdalgebgofaaGreatDoor
namespace Go.Proofs.YtpcjdalgebgofaaGreatDoor
open Go Go.Conc
inductive SimR (P:Program) (F:Array Func) (Spec:FuncId→Prop) (S:Nat→Option Obj) (e:Lim) (dl dr:List Frame) (v:World) (rq ra:GStep):Prop
 | ended (o:Outcome) (v':World) (q:Array Event) (h:rq=.ended o v' q)
 | go (fr':Frame) (cs':List Frame) (v':World) (q:Array Event) (h:rq=.go (G fr' (cs' ++ dl)) v' q) (hg:okG P F fr' cs') (hh:okHeap P F v') (hd:v.drawn≤v'.drawn∧v.heap.size≤v'.heap.size)
   (k:v'.drawn≤e.top→∃ w' es,ra=.go (G fr' (cs' ++ dr)) w' es∧Alike (okObj P F) S e v' w'∧∀ x ∈ es,EvN S w'.heap.size x)
 | comm (fr':Frame) (cs':List Frame) (c:CommCase) (sh:CommShape) (v':World) (q:Array Event) (h:rq=.comm (G fr' (cs' ++ dl)) #[c] true sh v' q) (hg:okG P F fr' cs') (hh:okHeap P F v') (hd:v.drawn≤v'.drawn∧v.heap.size≤v'.heap.size)
   (k:v'.drawn≤e.top→∃ w' es,ra=.comm (G fr' (cs' ++ dr)) #[c] true sh w' es∧Alike (okObj P F) S e v' w'∧∀ x ∈ es,EvN S w'.heap.size x)
 | spec (f:FuncId) (args:Array Value) (kd:CallKind) (fr':Frame) (cs':List Frame) (v':World) (q:Array Event) (hf:Spec f) (hkd:kd=.normal∨kd=.deferred) (h:rq=.go (G (Frame.enter (withF P F) f args kd) (fr' :: cs' ++ dl)) v' q) (hg:okG P F fr' cs') (hh:okHeap P F v') (hd:v.drawn≤v'.drawn∧v.heap.size≤v'.heap.size)
   (k:v'.drawn≤e.top→∃ w' es,ra=.go (G (Frame.enter P f args kd) (fr' :: cs' ++ dr)) w' es∧Alike (okObj P F) S e v' w'∧∀ x ∈ es,EvN S w'.heap.size x)
section
variable {P:Program} {F:Array Func} {Spec:FuncId→Prop} {S:Nat→Option Obj} {e:Lim} {dl dr:List Frame} {v w:World} {fr fr':Frame} {cs cs':List Frame}
theorem SimR.still (ha:Alike (okObj P F) S e v w) (hg:okG P F fr' cs') {rq ra:GStep} (h:rq=.go (G fr' (cs' ++ dl)) v) (h':ra=.go (G fr' (cs' ++ dr)) w):SimR P F Spec S e dl dr v rq ra :=
 .go fr' cs' v #[] h hg ha.ok ⟨Nat.le_refl _,Nat.le_refl _⟩ fun _=>⟨w,#[],h',ha,by simp⟩
theorem enter_eq {f:FuncId} (hf:F[f]?=P.funcs[f]?) (args:Array Value) (kd:CallKind):Frame.enter (withF P F) f args kd=Frame.enter P f args kd:=by
 unfold Frame.enter
 simp only [hf]
theorem okFr.enter (hk:Kin P F Spec) {f:FuncId} (hns:¬ Spec f) (hf:F[f]?=P.funcs[f]?) (args:Array Value) {kd:CallKind} (hkd:kd=.normal∨kd=.deferred):okFr P F (Frame.enter P f args kd):=by
 refine ⟨fun it hit=>?_,(by simp [Frame.enter]),hkd,hf⟩
 simp only [Frame.enter,List.mem_singleton] at hit
 subst hit
 show okCode P false _=true
 cases hfn:P.funcs[f]? with
 | none=>rfl
 | some fn =>
  cases hb:fn.body with
  | none=>simp [hb];rfl
  | some c =>
   simp only [Option.bind_some,hb,Option.getD_some]
   exact hk.code f fn c hns (hf.trans hfn) hb
theorem okFr.round {l f:Nat} {ts:Array Value} {a b:Code} (h:okCode P true a=true∧okCode P true b=true∧F[f]?=P.funcs[f]?) {kd:CallKind} (hkd:kd=.normal∨kd=.deferred):okFr P F (Frame.round l f ts a b kd):=by
 refine ⟨fun it hit=>?_,(by simp [Frame.round]),hkd,h.2.2⟩
 simp only [Frame.round,List.mem_cons,List.not_mem_nil,or_false] at hit
 rcases hit with rfl|rfl|rfl
 ·exact h.1
 ·trivial
 ·exact h.2.1
theorem tryRecover_app (h:okG P F fr cs) (d:List Frame):tryRecover fr (cs ++ d)=(tryRecover fr cs).map fun x=>(x.1,x.2 ++ d):=by
 rcases h.top.kind with hk|hk
 ·unfold tryRecover
  simp [hk]
 ·cases cs with
  | nil =>
   have:=h.bot.1
   simp only [Proofs.YtpcjdalgebgofaaGreatDoor.bot] at this
   rw [hk] at this
   cases this
  | cons c cs =>
   unfold tryRecover
   simp only [hk,List.cons_append]
   split <;> rfl
theorem tryRecover_ok (h:okG P F fr cs) {x:Value} {cs':List Frame} (hr:tryRecover fr cs=some (x,cs')):okG P F fr cs':=by
 rcases h.top.kind with hk|hk
 ·unfold tryRecover at hr
  simp [hk] at hr
 ·cases cs with
  | nil=>unfold tryRecover at hr;simp [hk] at hr
  | cons c cs =>
   unfold tryRecover at hr
   simp only [hk] at hr
   split at hr
   ·cases hr
    refine ⟨h.top,fun y hy=>?_,?_⟩
    ·rcases List.mem_cons.1 hy with rfl|hy
     ·exact (h.rest c (by simp)).mode _
     ·exact h.rest y (by simp [hy])
    ·have:=h.bot
     cases cs with
     | nil=>exact this
     | cons _ _=>exact this
   ·cases hr
def kindOf (fr:Frame):CallKind:=match fr.todo with|.call _ true _ _ :: _=>.wrapped|_=>.normal
theorem kind_normal (h:okFr P F fr):kindOf fr=.normal:=by
 have hi:=h.items
 unfold kindOf
 split
 ·rename_i hk
  rw [hk] at hi
  exact (hi _ (List.mem_cons_self ..)).elim
 ·rfl
theorem early_no (h:okFr P F fr):(fr.kind == .early)=false:=by
 rcases h.kind with hk|hk <;> rw [hk] <;> rfl
theorem sim_apply (hk:Kin P F Spec) (hg:okG P F fr cs) (hS:∀ i o,S i=some o→P.globals.size+5≤i) {s:Sem Next} (hf:Fit P F (fun _=>False) s) (hr:Rets P F Spec fr.roundOf.isSome s) (ha:Alike (okObj P F) S e v w) :
  SimR P F Spec S e dl dr v (stepG.apply (withF P F) true fr (cs ++ dl) none s v) (stepG.apply P true fr (cs ++ dr) none s w):=by
 have hkd:=kind_normal hg.top
 have hea:=early_no hg.top
 have hdr:=And.intro (run_drawn (withF P F) s v).1 (run_size (withF P F) s v)
 unfold stepG.apply
 simp only [hea,if_true,Sem.runT_eq,Bool.false_eq_true,if_false]
 rcases hf S (fun i o hi=>⟨hS i o hi,id⟩) e v w ha with hb|⟨hgd,k⟩
 ·cases hrun:s.run (withF P F) v with
  | ok n v'=>rw [hrun] at hb;exact hb.elim
  | halt x v' =>
   rw [hrun] at hb
   cases x <;> first|exact hb.elim|skip
   ·rename_i u
    cases u <;> first|exact hb.elim|exact .ended _ _ _ rfl
   ·exact .ended _ _ _ rfl
 ·have k2:(Res.world (s.run (withF P F) v)).drawn≤e.top→∃ w' es,s.run P w=Res.put (s.run (withF P F) v) w'∧s.events P w #[]=es∧Alike (okObj P F) S e (Res.world (s.run (withF P F) v)) w'∧∀ x ∈ es,EvN S w'.heap.size x:=fun hd=>by
   obtain ⟨w',es,h1,h2,h3⟩:=k hd
   have:=h1 #[]
   rw [Sem.runT_eq] at this
   simp only [Array.empty_append,Prod.mk.injEq] at this
   exact ⟨w',es,this.1,this.2,h2,h3⟩
  clear k
  have hseen:∀ {es:Array Event} {w':World},(∀ x ∈ es,EvN S w'.heap.size x)→∀ x ∈ seen P fr.fn es ++ #[],EvN S w'.heap.size x:=fun h x hx=>h x (mem_seen (by simpa using hx))
  cases hrun:s.run (withF P F) v with
  | halt x v' =>
   rw [hrun] at hgd hdr k2
   cases x <;> first|exact hgd.elim|skip
   rename_i x
   refine .go (fr.raise [{ v:=x,recovered:=false }]) cs v' _ rfl (hg.raise _) ?_ hdr fun hd=>?_
   ·have:=hf.keeps ha.ok (by rw [hrun];trivial)
    rwa [hrun] at this
   ·obtain ⟨w',es,h1,h2,h3,h4⟩:=k2 hd
    refine ⟨w',_,?_,h3,hseen h4⟩
    rw [h1,h2]
    rfl
  | ok n v' =>
   have hh:=hf.keeps ha.ok (by rw [hrun];trivial)
   have hn:=hr v ha.ok n v' hrun
   rw [hrun] at hgd hdr k2 hh
   have kk:∀ {fr':Frame} {cs':List Frame} {ra:GStep},(∀ w' es,s.run P w=.ok n w'→s.events P w #[]=es→ra=.go (G fr' (cs' ++ dr)) w' (seen P fr.fn es ++ #[])) →
     v'.drawn≤e.top→∃ w' es,ra=.go (G fr' (cs' ++ dr)) w' es∧Alike (okObj P F) S e v' w'∧∀ x ∈ es,EvN S w'.heap.size x:=fun hra hd=>by
    obtain ⟨w',es,h1,h2,h3,h4⟩:=k2 hd
    exact ⟨w',_,hra w' es h1 h2,h3,hseen h4⟩
   cases n with
   | value x=>exact .go (fr.finish x) cs v' _ rfl (hg.finish x) hh hdr (kk fun w' es h1 h2=>by rw [h1,h2];rfl)
   | skip=>exact .go (fr.finish undef) cs v' _ rfl (hg.finish undef) hh hdr (kk fun w' es h1 h2=>by rw [h1,h2];rfl)
   | enter f args =>
    rcases hn with hsp|⟨hns,hfn⟩
    ·refine .spec f args (kindOf fr) fr cs v' _ hsp (.inl hkd) rfl hg hh hdr fun hd=>?_
     obtain ⟨w',es,h1,h2,h3,h4⟩:=k2 hd
     refine ⟨w',_,?_,h3,hseen h4⟩
     rw [h1,h2]
     rfl
    ·simp only [enter_eq hfn]
     exact .go (Frame.enter P f args (kindOf fr)) (fr :: cs) v' _ rfl (hg.push (okFr.enter hk hns hfn args (.inl hkd))) hh hdr (kk fun w' es h1 h2=>by rw [h1,h2];rfl)
   | round l f ts a b=>exact .go (Frame.round l f ts a b .normal) (fr :: cs) v' _ rfl (hg.push (okFr.round hn (.inl rfl))) hh hdr (kk fun w' es h1 h2=>by rw [h1,h2];rfl)
   | defer d =>
    have hof:okFr P F { fr with defers:=d :: fr.defers }:=⟨hg.top.items,fun x hx=>(List.mem_cons.1 hx).elim (fun h=>by subst h;exact .inl hn) (hg.top.defers x),hg.top.kind,hg.top.fn⟩
    exact .go ({ fr with defers:=d :: fr.defers }.finish undef) cs v' _ rfl (hg.next (hof.finish _) (finish_kind _).1 (finish_kind _).2) hh hdr (kk fun w' es h1 h2=>by rw [h1,h2];rfl)
   | recover =>
    have hro:fr.roundOf=none:=by
     have:fr.roundOf.isSome=false:=hn
     simpa using this
    simp only [hro,tryRecover_app hg]
    cases htr:tryRecover fr cs with
    | none=>exact .go (fr.finish .nilIface) cs v' _ rfl (hg.finish _) hh hdr (kk fun w' es h1 h2=>by rw [h1,h2];rfl)
    | some x =>
     obtain ⟨x,cs'⟩:=x
     exact .go (fr.finish x) cs' v' _ rfl ((tryRecover_ok hg htr).finish _) hh hdr (kk fun w' es h1 h2=>by rw [h1,h2];rfl)
   | comm cs0 bl sh =>
    obtain ⟨rfl,hone⟩:=hn
    obtain ⟨c,rfl⟩:∃ c,cs0=#[c]:=by
     obtain ⟨l⟩:=cs0
     match l,hone with
     | [c],_=>exact ⟨c,rfl⟩
    refine .comm fr cs c sh v' _ rfl hg hh hdr fun hd=>?_
    obtain ⟨w',es,h1,h2,h3,h4⟩:=k2 hd
    refine ⟨w',_,?_,h3,hseen h4⟩
    rw [h1,h2]
    rfl
   | _=>exact hn.elim
theorem fit_results (fn:Func) (ts:Array Value) {N:Nat→Prop}:Fit P F N (results fn ts):=by
 unfold results
 refine Fit.bindM (fit_arrayM (fun r=>?_) _) fun _=>Fit.pureM _
 split
 ·exact Fit.pureM _
 ·exact Fit.bindM (fit_asAddr _) fun _=>fit_loadVar _ _
theorem catches_no (h:okFr P F fr) (Q:Program):fr.catches Q=false:=by
 have hi:=h.items
 unfold Frame.catches
 split
 ·rename_i hk
  rw [hk] at hi
  exact (hi _ (List.mem_cons_self ..)).elim
 ·rfl
theorem takeDeferred_ok {Q:Program} {b:Nat} {v v':World} {ds:List Deferred} (h:(Instr.takeDeferred b).run Q v=.ok ds v'):v.heap[b]?=some (.deferred (some ds)):=by
 unfold Instr.takeDeferred at h
 simp only [bind,Sem.bind,getObj,Sem.run] at h
 split at h
 ·cases h
 ·rename_i o ho
  split at h
  ·simp only [setObj,Sem.bind,Sem.run,pure] at h
   rw [ho] at h
   simp only at h
   cases h
   exact ho
  ·cases h
 ·cases h
end
end Go.Proofs.YtpcjdalgebgofaaGreatDoor
namespace Go.Proofs.YtpcjdalgebgofaaGreatDoor
open Go Go.Conc
section
variable {P:Program} {F:Array Func} {Spec:FuncId→Prop} {S:Nat→Option Obj} {e:Lim} {dl dr:List Frame} {v w:World} {fr fr':Frame} {cs cs':List Frame}
theorem Fit.ran {α:Type} {N:Nat→Prop} {s:Sem α} (hf:Fit P F N s) (hS:∀ i o,S i=some o→P.globals.size+5≤i∧¬ N i) (ha:Alike (okObj P F) S e v w) :
  (Res.bad (s.run (withF P F) v))∨(∃ (r:Result α),s.run (withF P F) v=r∧Res.good r∧okHeap P F (Res.world r)∧(v.drawn≤(Res.world r).drawn∧v.heap.size≤(Res.world r).heap.size) ∧
   ((Res.world r).drawn≤e.top→∃ w' es,s.run P w=Res.put r w'∧s.events P w #[]=es∧Alike (okObj P F) S e (Res.world r) w'∧(∀ x ∈ es,EvN S w'.heap.size x)∧∀ fn,∀ x ∈ seen P fn es,EvN S w'.heap.size x)):=by
 rcases hf S hS e v w ha with hb|⟨hgd,k⟩
 ·exact .inl hb
 ·refine .inr ⟨_,rfl,hgd,hf.keeps ha.ok hgd,⟨(run_drawn (withF P F) s v).1,run_size (withF P F) s v⟩,fun hd=>?_⟩
  obtain ⟨w',es,h1,h2,h3⟩:=k hd
  have:=h1 #[]
  rw [Sem.runT_eq] at this
  simp only [Array.empty_append,Prod.mk.injEq] at this
  exact ⟨w',es,this.1,this.2,h2,h3,fun fn x hx=>h3 x (mem_seen hx)⟩
theorem doReturn_mid {Q:Program} {main:Bool} {c:Frame} {rest:List Frame} (hkd:fr.kind=.normal∨fr.kind=.deferred) (x:Value) (u:World) :
  doReturn Q main fr (c :: rest) none x u=.go (G (if fr.kind=.normal then c.finish x else (match c.mode with
   | .panicking ({ recovered:=true,.. } :: older)=>match older.dropWhile (!·.goexit) with|[]=>{ c with mode:=.returning }|r=>{ c with mode:=.panicking r }
   | _=>c)) rest) u:=by
 unfold doReturn
 rcases hkd with h|h <;> simp only [h,G] <;> rfl
theorem okFr.back (_h:okFr P F fr) (c:Frame) (hc:okFr P F c) (x:Value) :
  let c':=(if fr.kind=.normal then c.finish x else (match c.mode with
   | .panicking ({ recovered:=true,.. } :: older)=>match older.dropWhile (!·.goexit) with|[]=>{ c with mode:=.returning }|r=>{ c with mode:=.panicking r }
   | _=>c))
  okFr P F c'∧c'.kind=c.kind∧c'.roundOf=c.roundOf:=by
 intro c'
 show okFr P F (if fr.kind=.normal then c.finish x else _)∧(if fr.kind=.normal then c.finish x else _).kind=_∧(if fr.kind=.normal then c.finish x else _).roundOf=_
 split
 ·exact ⟨hc.finish x,finish_kind x⟩
 ·split
  ·split
   ·exact ⟨hc.mode _,rfl,rfl⟩
   ·exact ⟨hc.mode _,rfl,rfl⟩
  ·exact ⟨hc,rfl,rfl⟩
theorem doReturn_sim (hg:okG P F fr cs) (hcs:cs≠[]) (x:Value):∃ fr' cs',okG P F fr' cs'∧(∀ u dl,doReturn (withF P F) true fr (cs ++ dl) none x u=.go (G fr' (cs' ++ dl)) u)∧∀ u dr,doReturn P true fr (cs ++ dr) none x u=.go (G fr' (cs' ++ dr)) u:=by
 cases cs with
 | nil=>exact absurd rfl hcs
 | cons c rest =>
  obtain ⟨h1,h2,h3⟩:=okFr.back hg.top c hg.pop.top x
  exact ⟨_,rest,hg.pop.next h1 h2 h3,fun u dl=>doReturn_mid hg.top.kind x u,fun u dr=>doReturn_mid hg.top.kind x u⟩
theorem ite_sim {c:Prop} [Decidable c] {a b a' b':GStep} (h1:c→SimR P F Spec S e dl dr v a a') (h2:¬ c→SimR P F Spec S e dl dr v b b'):SimR P F Spec S e dl dr v (if c then a else b) (if c then a' else b'):=by
 by_cases h:c
 ·rw [if_pos h,if_pos h];exact h1 h
 ·rw [if_neg h,if_neg h];exact h2 h
theorem callDeferred_sim (hk:Kin P F Spec) (hg:okG P F fr cs) (hS:∀ i o,S i=some o→P.globals.size+5≤i) {d:Deferred} (hd:okT d.target=true) (ha:Alike (okObj P F) S e v w) :
  SimR P F Spec S e dl dr v (callDeferred (withF P F) fr (cs ++ dl) none d v) (callDeferred P fr (cs ++ dr) none d w):=by
 unfold callDeferred
 refine ite_sim (fun _=>.ended _ _ _ rfl) fun _=>?_
 have hf:Fit P F (fun _=>False) (invoke d.target d.args):=fit_invoke (r:=true) hk _ _ (okTB_of hd)
 have hr:Rets P F Spec true (invoke d.target d.args):=rets_invoke hk _ _ (okTB_of hd) (fun c h=>by rw [h] at hd;cases hd)
 simp only [Sem.runT_eq]
 rcases hf.ran (fun i o hi=>⟨hS i o hi,id⟩) ha with hb|⟨r,hrun,hgd,hh,hdr,k⟩
 ·cases hrun:(invoke d.target d.args).run (withF P F) v with
  | ok n v'=>rw [hrun] at hb;exact hb.elim
  | halt x v' =>
   rw [hrun] at hb
   cases x <;> first|exact hb.elim|exact .ended _ _ _ rfl
 rw [hrun]
 have kk:∀ {fr':Frame} {cs':List Frame} {ra:GStep},(∀ w' es,(invoke d.target d.args).run P w=Res.put r w'→(invoke d.target d.args).events P w #[]=es→ra=.go (G fr' (cs' ++ dr)) w' (seen P fr.fn es ++ #[])) →
   (Res.world r).drawn≤e.top→∃ w' es,ra=.go (G fr' (cs' ++ dr)) w' es∧Alike (okObj P F) S e (Res.world r) w'∧∀ x ∈ es,EvN S w'.heap.size x:=fun hra hd=>by
  obtain ⟨w',es,h1,h2,h3,_,h5⟩:=k hd
  exact ⟨w',_,hra w' es h1 h2,h3,fun x hx=>h5 _ x (by simpa using hx)⟩
 cases r with
 | halt x v' =>
  cases x <;> first|exact hgd.elim|skip
  rename_i x
  exact .go (fr.raise [{ v:=x,recovered:=false }]) cs v' _ rfl (hg.raise _) hh hdr (kk fun w' es h1 h2=>by rw [h1,h2];rfl)
 | ok n v' =>
  have hn:=hr v ha.ok n v' hrun
  cases n with
  | enter f args =>
   rcases hn with hsp|⟨hns,hfn⟩
   ·refine .spec f args .deferred fr cs v' _ hsp (.inr rfl) rfl hg hh hdr fun hd=>?_
    obtain ⟨w',es,h1,h2,h3,_,h5⟩:=k hd
    refine ⟨w',seen P fr.fn es ++ #[],?_,h3,fun x hx=>h5 _ x (by simpa using hx)⟩
    rw [h1,h2]
    rfl
   ·simp only [enter_eq hfn]
    exact .go (Frame.enter P f args .deferred) (fr :: cs) v' _ rfl (hg.push (okFr.enter hk hns hfn args (.inr rfl))) hh hdr (kk fun w' es h1 h2=>by rw [h1,h2];rfl)
  | round l f ts a b=>exact .go (Frame.round l f ts a b .deferred) (fr :: cs) v' _ rfl (hg.push (okFr.round hn (.inr rfl))) hh hdr (kk fun w' es h1 h2=>by rw [h1,h2];rfl)
  | recover=>cases hn
  | value x=>exact .go fr cs v' _ rfl hg hh hdr (kk fun w' es h1 h2=>by rw [h1,h2];rfl)
  | skip=>exact .go fr cs v' _ rfl hg hh hdr (kk fun w' es h1 h2=>by rw [h1,h2];rfl)
  | defer x=>exact .go fr cs v' _ rfl hg hh hdr (kk fun w' es h1 h2=>by rw [h1,h2];rfl)
  | comm a b c=>exact .go fr cs v' _ rfl hg hh hdr (kk fun w' es h1 h2=>by rw [h1,h2];rfl)
  | _=>exact hn.elim
theorem unwind_sim (hk:Kin P F Spec) (hg:okG P F fr cs) (hnb:cs=[]→fr.defers≠[]) (hS:∀ i o,S i=some o→P.globals.size+5≤i) (hm:fr.mode≠.run) (ha:Alike (okObj P F) S e v w) :
  SimR P F Spec S e dl dr v (unwind (withF P F) true fr (cs ++ dl) none v) (unwind P true fr (cs ++ dr) none w):=by
 unfold unwind
 cases hds:fr.defers with
 | cons d ds =>
  have hd:=hg.top.defers d (by rw [hds];simp)
  have hg':okG P F { fr with defers:=ds } cs:=hg.next ⟨hg.top.items,fun x hx=>hg.top.defers x (by rw [hds];simp [hx]),hg.top.kind,hg.top.fn⟩ rfl rfl
  rcases hd with hd|⟨b,hb⟩
  ·obtain ⟨tg,as⟩:=d
   cases tg with
   | collected b=>cases hd
   | _=>exact callDeferred_sim hk hg' hS hd ha
  ·obtain ⟨tg,as⟩:=d
   simp only at hb
   subst hb
   simp only [Sem.runT_eq]
   rcases (fit_takeDeferred (P:=P) (F:=F) (N:=fun _=>False) b).ran (fun i o hi=>⟨hS i o hi,id⟩) ha with hb|⟨r,hrun,hgd,hh,hdr,k⟩
   ·cases hrun:(Instr.takeDeferred b).run (withF P F) v with
    | ok n v'=>rw [hrun] at hb;exact hb.elim
    | halt x v'=>exact .ended _ _ _ rfl
   rw [hrun]
   cases r with
   | halt x v'=>exact .ended _ _ _ rfl
   | ok calls v' =>
    have hO:=ha.ok _ _ (takeDeferred_ok hrun)
    have hg2:okG P F { fr with defers:=calls ++ ds } cs:=hg.next ⟨hg.top.items,fun x hx=>by
     rcases List.mem_append.1 hx with hx|hx
     ·exact .inl (hO x hx)
     ·exact hg.top.defers x (by rw [hds];simp [hx]),hg.top.kind,hg.top.fn⟩ rfl rfl
    refine .go { fr with defers:=calls ++ ds } cs v' _ rfl hg2 hh hdr fun hd=>?_
    obtain ⟨w',es,h1,h2,h3,_,h5⟩:=k hd
    refine ⟨w',seen P fr.fn es ++ #[],?_,h3,fun x hx=>h5 _ x (by simpa using hx)⟩
    rw [h1,h2]
    rfl
 | nil =>
  have hcs:cs≠[]:=fun h=>hnb h hds
  cases hmd:fr.mode with
  | run=>exact absurd hmd hm
  | panicking chain =>
   simp only [catches_no hg.top,Bool.false_eq_true,if_false]
   cases cs with
   | nil=>exact absurd rfl hcs
   | cons c rest=>exact SimR.still ha (hg.pop.raise chain) rfl rfl
  | returning =>
   simp only
   have hfn:(withF P F).funcs[fr.fn]?=P.funcs[fr.fn]?:=hg.top.fn
   rw [hfn]
   cases hf:P.funcs[fr.fn]? with
   | none =>
    obtain ⟨fr',cs',h1,h2,h3⟩:=doReturn_sim hg hcs (fr.tmps.getD 0 undef)
    exact SimR.still ha h1 (h2 v dl) (h3 w dr)
   | some fn =>
    simp only [Sem.runT_eq]
    rcases (fit_results (P:=P) (F:=F) (N:=fun _=>False) fn fr.tmps).ran (fun i o hi=>⟨hS i o hi,id⟩) ha with hb|⟨r,hrun,hgd,hh,hdr,k⟩
    ·cases hrun:(results fn fr.tmps).run (withF P F) v with
     | ok n v'=>rw [hrun] at hb;exact hb.elim
     | halt x v'=>cases x <;> exact .ended _ _ _ rfl
    rw [hrun]
    cases r with
    | halt x v'=>cases x <;> exact .ended _ _ _ rfl
    | ok x v' =>
     obtain ⟨fr',cs',h1,h2,h3⟩:=doReturn_sim hg hcs x
     refine .go fr' cs' v' _ (by simp only [h2 v' dl];rfl) h1 hh hdr fun hd=>?_
     obtain ⟨w',es,k1,k2,k3,_,k5⟩:=k hd
     refine ⟨w',seen P fr.fn es ++ #[],?_,k3,fun x hx=>k5 _ x (by simpa using hx)⟩
     rw [k1,k2]
     simp only [Res.put,h3 w' dr]
     rfl
end
end Go.Proofs.YtpcjdalgebgofaaGreatDoor
namespace Go.Proofs.YtpcjdalgebgofaaGreatDoor
open Go Go.Conc
section
variable {P:Program} {F:Array Func} {Spec:FuncId→Prop} {S:Nat→Option Obj} {e:Lim} {dl dr:List Frame} {v w:World} {fr fr':Frame} {cs cs':List Frame}
def leaveOf (p:Program) (fr:Frame) (callers:List Frame) (w:World) (jump:Option Code):GStep :=
 match fr.roundOf with
 | none=>if jump matches none|some .ret then .go { frame:={ fr with mode:=.returning },callers,status:=.running,dying:=none } w else .ended (.stuck "exit, goto: no such block or label" (fr.pos p)) w
 | some l =>
  let (r,es):=(Instr.endRound l jump).runT p w #[]
  GStep.after (seen p fr.fn es) <| match r with
  | .ok v w=>doReturn p true fr callers none v w
  | .halt _ w=>.ended (.stuck "range over a function: no such loop" (fr.pos p)) w
theorem leave_sim (hg:okG P F fr cs) (hS:∀ i o,S i=some o→P.globals.size+5≤i) (ha:Alike (okObj P F) S e v w) (jump:Option Code) (hj:∀ c,jump=some c→okJump c=true) :
  SimR P F Spec S e dl dr v (leaveOf (withF P F) fr (cs ++ dl) v jump) (leaveOf P fr (cs ++ dr) w jump):=by
 unfold leaveOf
 cases hro:fr.roundOf with
 | none=>exact ite_sim (fun _=>SimR.still ha (hg.next (hg.top.mode .returning) rfl rfl) (by simp [G,hro]) (by simp [G,hro])) (fun _=>.ended _ _ _ rfl)
 | some l =>
  simp only [Sem.runT_eq]
  have hcs:cs≠[]:=fun h=>by
   subst h
   have:=hg.bot.2
   simp only [Proofs.YtpcjdalgebgofaaGreatDoor.bot] at this
   rw [hro] at this
   cases this
  rcases (fit_endRound (P:=P) (F:=F) (N:=fun _=>False) l jump hj).ran (fun i o hi=>⟨hS i o hi,id⟩) ha with hb|⟨r,hrun,hgd,hh,hdr,k⟩
  ·cases hrun:(Instr.endRound l jump).run (withF P F) v with
   | ok n v'=>rw [hrun] at hb;exact hb.elim
   | halt x v'=>exact .ended _ _ _ rfl
  rw [hrun]
  cases r with
  | halt x v'=>exact .ended _ _ _ rfl
  | ok x v' =>
   obtain ⟨fr',cs',h1,h2,h3⟩:=doReturn_sim hg hcs x
   refine .go fr' cs' v' _ (by simp only [h2 v' dl];rfl) h1 hh hdr fun hd=>?_
   obtain ⟨w',es,k1,k2,k3,_,k5⟩:=k hd
   refine ⟨w',seen P fr.fn es ++ #[],?_,k3,fun x hx=>k5 _ x (by simpa using hx)⟩
   rw [k1,k2]
   simp only [Res.put,h3 w' dr]
   rfl
theorem endLoop_ok {Q:Program} {l:Nat} {v v':World} {j:Option Code} (h:(Instr.endLoop l).run Q v=.ok j v'):∃ r,v.heap[l]?=some (.loop r)∧j=r.pending:=by
 simp only [Instr.endLoop,bind] at h
 rw [run_bind] at h
 cases h1:(Instr.getLoop l).run Q v with
 | halt x v1=>rw [h1] at h;cases h
 | ok r v1 =>
  rw [h1] at h
  obtain ⟨rfl,ho⟩:=getLoop_ok h1
  refine ⟨r,ho,?_⟩
  simp only at h
  split at h
  ·exact absurd h (never_bind_head (never_runtimePanic _) _ _ _)
  ·simp only [Sem.bind,setObj,Sem.run,pure,ho] at h
   cases h
   rfl
theorem enterLoop_ok {Q:Program} {f:FuncId} {ts:Array Value} {ps:Array Tmp} {a b:Code} {o:Option Nat} {v v':World} {l:Nat} {mark:List Deferred} (h:(Instr.enterLoop f ts ps a b o).run Q v=.ok (l,mark) v'):∀ d ∈ mark,okDef d:=by
 unfold Instr.enterLoop at h
 cases o with
 | none =>
  simp only [bind,Sem.bind,newObj,Sem.run,pure] at h
  cases h
  intro d hd
  simp only [List.mem_singleton] at hd
  subst hd
  exact .inr ⟨_,rfl⟩
 | some r =>
  simp only [bind,pure] at h
  rw [run_bind] at h
  cases h1:(Instr.getLoop r).run Q v with
  | halt x v1=>rw [h1] at h;cases h
  | ok y v1 =>
   rw [h1] at h
   simp only [Sem.run,Sem.bind,newObj] at h
   cases h
   intro d hd
   cases hd
theorem SimR.after {v1:World} {rq ra:GStep} (h:SimR P F Spec S e dl dr v1 rq ra) (hd:v.drawn≤v1.drawn∧v.heap.size≤v1.heap.size) (q:Array Event) {es:Array Event} (hes:∀ x ∈ es,EvN S v1.heap.size x):SimR P F Spec S e dl dr v (GStep.after q rq) (GStep.after es ra):=by
 have ev:∀ {es2:Array Event} {v' w':World},Alike (okObj P F) S e v' w'→v1.heap.size≤v'.heap.size→(∀ x ∈ es2,EvN S w'.heap.size x)→∀ x ∈ es ++ es2,EvN S w'.heap.size x:=fun hal hs h2 x hx=>by
  rcases Array.mem_append.1 hx with hx|hx
  ·exact (hes x hx).more (by rw [← hal.size];exact hs)
  ·exact h2 x hx
 cases h with
 | ended o v' q h=>rw [h];exact .ended _ _ _ rfl
 | go a b v' q' h hg hh hd' k =>
  rw [h]
  refine .go a b v' _ rfl hg hh ⟨Nat.le_trans hd.1 hd'.1,Nat.le_trans hd.2 hd'.2⟩ fun h=>?_
  obtain ⟨w',es2,h1,h2,h3⟩:=k h
  exact ⟨w',_,by rw [h1];rfl,h2,ev h2 hd'.2 h3⟩
 | comm a b c sh v' q' h hg hh hd' k =>
  rw [h]
  refine .comm a b c sh v' _ rfl hg hh ⟨Nat.le_trans hd.1 hd'.1,Nat.le_trans hd.2 hd'.2⟩ fun h=>?_
  obtain ⟨w',es2,h1,h2,h3⟩:=k h
  exact ⟨w',_,by rw [h1];rfl,h2,ev h2 hd'.2 h3⟩
 | spec f a kd b cs v' q' hf hkd h hg hh hd' k =>
  rw [h]
  refine .spec f a kd b cs v' _ hf hkd rfl hg hh ⟨Nat.le_trans hd.1 hd'.1,Nat.le_trans hd.2 hd'.2⟩ fun h=>?_
  obtain ⟨w',es2,h1,h2,h3⟩:=k h
  exact ⟨w',_,by rw [h1];rfl,h2,ev h2 hd'.2 h3⟩
theorem SimR.afterOff {S':Nat→Option Obj} {e':Lim} {dr':List Frame} {v1:World} {rq ra ra':GStep} (h:SimR P F Spec S' e' dl dr' v1 rq ra') (hd:v.drawn≤v1.drawn∧v.heap.size≤v1.heap.size) (hv:¬ v1.drawn≤e.top) (q:Array Event):SimR P F Spec S e dl dr v (GStep.after q rq) ra:=by
 cases h with
 | ended o v' q h=>rw [h];exact .ended _ _ _ rfl
 | go a b v' q h hg hh hd' k=>rw [h];exact .go a b v' _ rfl hg hh ⟨Nat.le_trans hd.1 hd'.1,Nat.le_trans hd.2 hd'.2⟩ fun h=>absurd (Nat.le_trans hd'.1 h) hv
 | comm a b c sh v' q h hg hh hd' k=>rw [h];exact .comm a b c sh v' _ rfl hg hh ⟨Nat.le_trans hd.1 hd'.1,Nat.le_trans hd.2 hd'.2⟩ fun h=>absurd (Nat.le_trans hd'.1 h) hv
 | spec f a kd b cs v' q hf hkd h hg hh hd' k=>rw [h];exact .spec f a kd b cs v' _ hf hkd rfl hg hh ⟨Nat.le_trans hd.1 hd'.1,Nat.le_trans hd.2 hd'.2⟩ fun h=>absurd (Nat.le_trans hd'.1 h) hv
theorem exec_sim (hk:Kin P F Spec) (hg:okG P F fr cs) (hS:∀ i o,S i=some o→P.globals.size+5≤i) (ha:Alike (okObj P F) S e v w) :
  SimR P F Spec S e dl dr v (stepG.exec (withF P F) true true fr (cs ++ dl) none v) (stepG.exec P true true fr (cs ++ dr) none w):=by
 obtain ⟨fn,tmps,todo,defers,mode,kind,ro⟩:=fr
 have hi:=hg.top.items
 have still:∀ {k:List Item},(∀ it ∈ k,okItem P ro.isSome it)→SimR P F Spec S e dl dr v (.go { frame:={ fn,tmps,todo:=k,defers,mode,kind,roundOf:=ro },callers:=cs ++ dl,status:=.running,dying:=none } v) (.go { frame:={ fn,tmps,todo:=k,defers,mode,kind,roundOf:=ro },callers:=cs ++ dr,status:=.running,dying:=none } w) :=
  fun hk'=>SimR.still ha (hg.next (hg.top.todo hk') rfl rfl) rfl rfl
 have lv:=fun j hj=>leave_sim (Spec:=Spec) (dl:=dl) (dr:=dr) hg hS ha j hj
 unfold stepG.exec
 cases todo with
 | nil=>exact lv none (fun _ h=>by cases h)
 | cons it k =>
  have h0:=hi it (List.mem_cons_self ..)
  have hk2:∀ x ∈ k,okItem P ro.isSome x:=fun x hx=>hi x (List.mem_cons_of_mem _ hx)
  have two:∀ {a b:Item},okItem P ro.isSome a→okItem P ro.isSome b→∀ x ∈ a :: b :: k,okItem P ro.isSome x:=fun ha hb x hx=>by
   rcases List.mem_cons.1 hx with rfl|hx
   ·exact ha
   ·rcases List.mem_cons.1 hx with rfl|hx
    ·exact hb
    ·exact hk2 x hx
  have one:∀ {a:Item},okItem P ro.isSome a→∀ x ∈ a :: k,okItem P ro.isSome x:=fun ha x hx=>by
   rcases List.mem_cons.1 hx with rfl|hx
   ·exact ha
   ·exact hk2 x hx
  cases it with
  | code c =>
   cases c with
   | ret=>exact lv (some .ret) (fun _ h=>by cases h;rfl)
   | skip=>exact still hk2
   | label l=>exact still hk2
   | seq a b =>
    have h0':okCode P ro.isSome a=true∧okCode P ro.isSome b=true:=by
     have:okCode P ro.isSome (.seq a b)=true:=h0
     simpa [okCode] using this
    exact still (two h0'.1 h0'.2)
   | cond x a b =>
    have h0':okCode P ro.isSome a=true∧okCode P ro.isSome b=true:=by
     have:okCode P ro.isSome (.cond x a b)=true:=h0
     simpa [okCode] using this
    simp only
    generalize Frame.eval _ x=xv
    cases xv with
    | bool z =>
     refine still (one ?_)
     cases z
     ·exact h0'.2
     ·exact h0'.1
    | _=>exact .ended _ _ _ rfl
   | block id body=>exact still (two h0 trivial)
   | loop body=>exact still (two h0 h0)
   | scope body=>exact still (two h0 h0)
   | exit id =>
    simp only
    cases hx:exitTo id k with
    | none=>exact lv (some (.exit id)) (fun _ h=>by cases h;rfl)
    | some k'=>exact still (exitTo_ok hx hk2)
   | goto l =>
    simp only
    cases hx:gotoIn l k with
    | none=>exact lv (some (.goto l)) (fun _ h=>by cases h;rfl)
    | some k'=>exact still (gotoIn_ok hx hk2)
   | refuse why=>exact .ended _ _ _ rfl
   | rangeFunc f params assign body =>
    have h0':okCode P true assign=true∧okCode P true body=true:=by
     have:okCode P ro.isSome (.rangeFunc f params assign body)=true:=h0
     simpa [okCode] using this
    simp only [Sem.runT_eq]
    rcases (fit_enterLoop (P:=P) (F:=F) (N:=fun _=>False) fn tmps params assign body ro ⟨h0'.1,h0'.2,hg.top.fn⟩).ran (fun i o hi=>⟨hS i o hi,id⟩) ha with hb|⟨r,hrun,hgd,hh,hdr,kr⟩
    ·cases hrun:(Instr.enterLoop fn tmps params assign body ro).run (withF P F) v with
     | ok n v'=>rw [hrun] at hb;exact hb.elim
     | halt x v'=>exact .ended _ _ _ rfl
    rw [hrun]
    cases r with
    | halt x v'=>exact .ended _ _ _ rfl
    | ok x v' =>
     obtain ⟨l,mark⟩:=x
     have hmk:=enterLoop_ok hrun
     have hg':okG P F { fn,tmps,todo:=.inRangeFunc l :: k,defers:=mark ++ defers,mode,kind,roundOf:=ro } cs:=by
      refine hg.next ⟨fun x hx=>?_,fun x hx=>?_,hg.top.kind,hg.top.fn⟩ rfl rfl
      ·exact one (a:=.inRangeFunc l) trivial x hx
      ·rcases List.mem_append.1 hx with hx|hx
       ·exact hmk x hx
       ·exact hg.top.defers x hx
     by_cases hd:v'.drawn≤e.top
     ·obtain ⟨w',es,h1,h2,h3,_,h5⟩:=kr hd
      rw [h1,h2]
      exact SimR.after (sim_apply hk hg' hS (fit_callValue hk _ _) (rets_callValue hk _ _) h3) hdr _ (fun x hx=>by show EvN S v'.heap.size x;rw [show v'.heap.size=w'.heap.size from h3.size];exact h5 _ x hx)
     ·exact SimR.afterOff (sim_apply (dr:=dr) hk hg' (fun _ _ h=>by cases h) (fit_callValue hk _ _) (rets_callValue hk _ _) (Alike.self hh 0)) hdr hd _
   | region id ops draw =>
    have h0':∀ o ∈ ops,okOp P ro.isSome o.op=true:=by
     have:okCode P ro.isSome (.region id ops draw)=true:=h0
     simp only [okCode,Array.all_eq_true_iff_forall_mem] at this
     exact this
    cases draw with
    | false=>exact still (one (a:=.inRegion ops (List.range ops.size)) h0')
    | true =>
     simp only [Bool.not_true,Bool.false_eq_true,if_false,choose,Sem.run,Question.forced,Question.cut]
     refine .go { fn,tmps,todo:=.inRegion ops (Region.schedule ((withF P F).follows .mixedOrders) ops (v.tape v.drawn (.order fn id))) :: k,defers,mode,kind,roundOf:=ro } cs { v with drawn:=v.drawn+1 } #[] rfl (hg.next (hg.top.todo (one (a:=.inRegion ops _) h0')) rfl rfl) ha.ok ⟨Nat.le_succ _,Nat.le_refl _⟩ fun hd=>?_
     have ht:=ha.asks (by simp only at hd;omega) (.order fn id)
     exact ⟨{ w with drawn:=w.drawn+1 },#[],by rw [ht];rfl,ha.drew,by simp⟩
  | inBlock id=>exact still hk2
  | inScope b=>exact still hk2
  | inLoop b=>exact still (two h0 h0)
  | inRangeFunc l=>exact .ended _ _ _ rfl
  | call d b r s=>exact h0.elim
  | beginRound =>
   refine sim_apply hk hg hS ?_ ?_ ha
   ·cases ro with
    | none=>exact Fit.bindM (fit_stuck _) fun _=>Fit.pureM _
    | some l=>exact Fit.bindM (fit_beginRound _) fun _=>Fit.pureM _
   ·exact rets_unit
  | endRangeFunc l =>
   simp only [Sem.runT_eq]
   rcases (fit_endLoop (P:=P) (F:=F) (N:=fun _=>False) l).ran (fun i o hi=>⟨hS i o hi,id⟩) ha with hb|⟨r,hrun,hgd,hh,hdr,kr⟩
   ·cases hrun:(Instr.endLoop l).run (withF P F) v with
    | ok n v'=>rw [hrun] at hb;exact hb.elim
    | halt x v'=>rw [hrun] at hb;cases x <;> first|exact hb.elim|exact .ended _ _ _ rfl
   rw [hrun]
   cases r with
   | halt x v' =>
    cases x <;> first|exact hgd.elim|skip
    rename_i x
    refine .go _ cs v' _ rfl (hg.raise [{ v:=x,recovered:=false }]) hh hdr fun hd=>?_
    obtain ⟨w',es,h1,h2,h3,_,h5⟩:=kr hd
    refine ⟨w',seen P fn es ++ #[],?_,h3,fun x hx=>h5 _ x (by simpa using hx)⟩
    rw [h1,h2]
    rfl
   | ok j v' =>
    obtain ⟨lp,ho,rfl⟩:=endLoop_ok hrun
    have hO:=ha.ok _ _ ho
    refine .go { fn,tmps,todo:=(lp.pending.map Item.code).toList ++ k,defers,mode,kind,roundOf:=ro } cs v' _ rfl (hg.next (hg.top.todo fun x hx=>?_) rfl rfl) hh hdr fun hd=>?_
    ·rcases List.mem_append.1 hx with hx|hx
     ·cases hp:lp.pending with
      | none=>rw [hp] at hx;simp at hx
      | some c =>
       rw [hp] at hx
       simp only [Option.map_some,Option.toList_some,List.mem_singleton] at hx
       subst hx
       exact okJump_code (hO.2.2.2 c hp)
     ·exact hk2 x hx
    ·obtain ⟨w',es,h1,h2,h3,_,h5⟩:=kr hd
     refine ⟨w',seen P fn es ++ #[],?_,h3,fun x hx=>h5 _ x (by simpa using hx)⟩
     rw [h1,h2]
     rfl
  | inRegion ops todo =>
   cases todo with
   | nil=>exact still hk2
   | cons i rest =>
    refine ite_sim (fun _=>?_) fun _=>.go _ cs v _ rfl (hg.finish undef) ha.ok ⟨Nat.le_refl _,Nat.le_refl _⟩ fun _=>⟨w,#[],rfl,ha,by simp⟩
    unfold stepG.oper
    simp only [Frame.oper?]
    cases ho:ops[i]? with
    | none=>exact .ended _ _ _ rfl
    | some o =>
     have hop:okOp P ro.isSome o.op=true:=h0 o (Array.mem_of_getElem? ho)
     have key:=sim_apply (dl:=dl) (dr:=dr) hk hg hS (fit_exec hk (Frame.eval { fn,tmps,todo:=.inRegion ops (i :: rest) :: k,defers,mode,kind,roundOf:=ro }) o hop) (rets_exec hk _ o hop) ha
     cases ro with
     | none=>exact key
     | some l =>
      have nd:∀ c,o.op≠.defer c:=fun c hc=>by
       rw [hc] at hop
       obtain ⟨callee,as,ts⟩:=c
       cases callee <;> simp [okOp] at hop
      simp only
      split
      ·exact absurd ‹o.op=Op.defer _› (nd _)
      ·exact key
  | _=>exact h0.elim
end
end Go.Proofs.YtpcjdalgebgofaaGreatDoor

/-
  Lemmas and contracts: Qy Ka Base Fr Mem Dr Fb Lo. No condition.
-/
import Derived.Conc.Holds
import Derived.Conc.LeavingOf
import Derived.Handed
import Derived.SevenTiedAt
import Derived.Stop.LaidErr
import Derived.Stop.LaidTwo
import Derived.Test.YtpcjdalgebgofaaGreatDoorChecked
import Derived.WalkKit
import Derived.WalkSpells
import Derived.WalkLawsBesides
import Derived.Lib.Hide
import Derived.Lib.QuietBelow
import Derived.BigQuiet
import Derived.Handy
import Derived.Test.YtpcjdalgebgofaaGreatDoorRows
import Derived.ProofKit
import Derived.OpenShut
import Derived.ShutString
import Derived.ChangeOld
import Derived.Deep.SlicePairs
import Derived.Lib.SmallJoins
import Derived.Laws.OwnMore
import Derived.Maps.AppendAt
import Derived.Deep.AppendLies
import Derived.RegionTactic
import Derived.OwnWalk
import Derived.Deep.LoopGhost
import Derived.Deep.Cut
import Derived.Deep.CutRange
import Derived.Deep.DeepCutAuto
import Derived.Deep.RegionLaw
import Derived.Laws.BitsAllLaws
import Derived.Laws.BitsLemmas
import Derived.Deep.Slices
import Derived.Lib.LaidTab
import Derived.Shelf.Vars
import Derived.Test.YtpcjdalgebgofaaGreatDoorKa4
set_option linter.unusedSimpArgs false
set_option linter.unusedVariables false
set_option linter.unusedSectionVars false
namespace Go.Proofs.YtpcjdalgebgofaaGreatDoor
open Go Go.Conc
def stub:Func:={ (default:Func) with name := "x", body:=none }
def mkF (P:Program) (s:Nat) (body:Func) (keep:Nat→Bool):Array Func:=Array.ofFn fun i:Fin P.funcs.size=>if i.1=s then body else if keep i.1 then P.funcs[i.1] else stub
section
variable {P:Program} {s:Nat} {body:Func} {keep:Nat→Bool}
theorem mkF_size:(mkF P s body keep).size=P.funcs.size:=by simp [mkF]
theorem mkF_keep {i:Nat} (hs:i≠s) (hk:keep i=true):(mkF P s body keep)[i]?=P.funcs[i]?:=by
 unfold mkF
 rw [Array.getElem?_ofFn]
 split
 ·rename_i h
  simp [hs,hk]
 ·rename_i h
  rw [Array.getElem?_eq_none (by omega)]
theorem mkF_spec (h:s<P.funcs.size):(mkF P s body keep)[s]?=some body:=by
 unfold mkF
 rw [Array.getElem?_ofFn]
 simp [h]
theorem mkF_cases {i:Nat} {fn:Func} (h:(mkF P s body keep)[i]?=some fn):i<P.funcs.size∧((i=s∧fn=body)∨(i≠s∧keep i=true∧P.funcs[i]?=some fn)∨(i≠s∧keep i=false∧fn=stub)):=by
 unfold mkF at h
 rw [Array.getElem?_ofFn] at h
 split at h
 ·rename_i hlt
  refine ⟨hlt,?_⟩
  by_cases hs:i=s
  ·simp only [hs,if_true,Option.some.injEq] at h
   exact .inl ⟨hs,h.symm⟩
  ·simp only [hs,if_false] at h
   cases hk:keep i
   ·simp only [hk,Bool.false_eq_true,if_false,Option.some.injEq] at h
    exact .inr (.inr ⟨hs,rfl,h.symm⟩)
   ·simp only [hk,if_true] at h
    exact .inr (.inl ⟨hs,rfl,by rw [Array.getElem?_eq_getElem hlt];exact h⟩)
 ·cases h
end
def okFn (P:Program) (fn:Func):Bool:=!(fn.name == "runtime.NumGoroutine") && (match fn.body with|some c=>okCode P false c|none=>false)
def okExt (P:Program) (F:Array Func) (fn:Func):Prop:=(fn.name == "runtime.NumGoroutine")=false∧fn.body=none∧Extern.findNext fn=none∧∃ e:Array Value→Sem Value,Extern.find fn=some e∧∀ (args:Array Value) (N:Nat→Prop),Fit P F N (e args)
section
variable {P:Program} {F:Array Func}
theorem call_none {Q:Program} {f:FuncId} (h:Q.funcs[f]?=none) (args:Array Value) (v:World):(callFunc f args).run Q v=.halt (.stuck "call: no such function") v:=by
 simp [callFunc,bind,Sem.bind,Sem.run,program,h,stuck]
theorem call_body {Q:Program} {f:FuncId} {fn:Func} (h:Q.funcs[f]?=some fn) (hn:(fn.name == "runtime.NumGoroutine")=false) (hb:fn.body.isSome=true) (args:Array Value) (v:World):(callFunc f args).run Q v=.ok (.enter f args) v:=by
 have hb':fn.body.isNone=false:=by
  cases hbb:fn.body with
  | none=>rw [hbb] at hb;cases hb
  | some c=>rfl
 simp only [callFunc,bind,Sem.bind,Sem.run,program,h,hn,hb',pure,Bool.false_eq_true,if_false]
theorem callT_body {Q:Program} {f:FuncId} {fn:Func} (h:Q.funcs[f]?=some fn) (hn:(fn.name == "runtime.NumGoroutine")=false) (hb:fn.body.isSome=true) (args:Array Value) (v:World) (es:Array Event):(callFunc f args).runT Q v es=(.ok (.enter f args) v,es):=by
 have hb':fn.body.isNone=false:=by
  cases hbb:fn.body with
  | none=>rw [hbb] at hb;cases hb
  | some c=>rfl
 simp only [callFunc,bind,Sem.bind,Sem.runT,program,h,hn,hb',pure,Bool.false_eq_true,if_false]
theorem call_stub {Q:Program} {f:FuncId} (h:Q.funcs[f]?=some stub) (args:Array Value) (v:World):Res.bad ((callFunc f args).run Q v):=by
 have h1:Extern.findNext stub=none:=by kernel_rfl
 have h2:Extern.find stub=none:=by kernel_rfl
 have h3:(stub.name.endsWith ".init" && !stub.name.startsWith "(" && !stub.name.startsWith "gosem.")=false:=by kernel_rfl
 have h4:(stub.name == "runtime.NumGoroutine")=false:=by kernel_rfl
 have h5:stub.body.isNone=true:=rfl
 simp only [callFunc,bind,Sem.bind,Sem.run,program,h,h1,h2,h3,h4,h5,pure,Bool.false_eq_true,if_false,if_true,mark]
 trivial
theorem fit_enter {f:FuncId} {fq fp:Func} (hq:F[f]?=some fq) (hp:P.funcs[f]?=some fp) (nq:(fq.name == "runtime.NumGoroutine")=false) (np:(fp.name == "runtime.NumGoroutine")=false) (bq:fq.body.isSome=true) (bp:fp.body.isSome=true) (args:Array Value) {N:Nat→Prop}:Fit P F N (callFunc f args):=by
 intro S hS e v w ha
 have h1:=call_body (Q:=withF P F) hq nq bq args v
 exact .inr ⟨by rw [h1];trivial,fun _=>Fits.here ha h1 rfl fun es0=>callT_body hp np bp args w es0⟩
theorem fit_ext {f:FuncId} {fn:Func} (hq:F[f]?=some fn) (hp:P.funcs[f]?=some fn) (h:okExt P F fn) (args:Array Value) {N:Nat→Prop}:Fit P F N (callFunc f args):=by
 obtain ⟨hn,hb,hx,e,hf,he⟩:=h
 have hb':fn.body.isNone=true:=by rw [hb];rfl
 refine Fit.progM ?_ ?_
 ·show (match F[f]? with|none=>_|some fn=>_)=(match P.funcs[f]? with|none=>_|some fn=>_)
  rw [hq,hp]
 ·simp only [hp,hn,hb',hx,hf,Bool.false_eq_true,if_false,if_true]
  exact Fit.bindM (Fit.mark' rfl (Fit.pure' _)) fun _=>Fit.bindM (he args N) fun _=>Fit.pureM _
theorem rets_ext {f:FuncId} {fn:Func} (hq:F[f]?=some fn) (h:okExt P F fn) {Spec:FuncId→Prop} (r:Bool) (args:Array Value):Rets P F Spec r (callFunc f args):=by
 obtain ⟨hn,hb,hx,e,hf,he⟩:=h
 have hb':fn.body.isNone=true:=by rw [hb];rfl
 intro v hv n v' hr
 have h1:(callFunc f args).run (withF P F) v=((mark (Mark.extern f):Sem Unit) >>= fun _=>e args >>= fun z=>Pure.pure (Next.value z)).run (withF P F) v:=by
  simp only [callFunc,bind,Sem.bind,Sem.run,program,hq,hn,hb',hx,hf,Bool.false_eq_true,if_false,if_true]
 rw [h1] at hr
 have h2:((mark (Mark.extern f):Sem Unit) >>= fun _=>e args >>= fun z=>Pure.pure (Next.value z)).run (withF P F) v=(e args >>= fun z=>Pure.pure (Next.value z)).run (withF P F) v:=rfl
 rw [h2] at hr
 exact rets_value (P:=P) (F:=F) (Spec:=Spec) (r:=r) v hv n v' hr
structure KinTest (P:Program) (F:Array Func) (Spec:FuncId→Prop):Prop where
 size:F.size=P.funcs.size
 each:∀ (i:Nat) (fn:Func),F[i]?=some fn→(Spec i∧(fn.name == "runtime.NumGoroutine")=false∧fn.body.isSome=true∧∃ fp,P.funcs[i]?=some fp∧(fp.name == "runtime.NumGoroutine")=false∧fp.body.isSome=true)∨(P.funcs[i]?=some fn∧okFn P fn=true)∨(P.funcs[i]?=some fn∧okExt P F fn)∨fn=stub
theorem okFn_parts {fn:Func} (h:okFn P fn=true):(fn.name == "runtime.NumGoroutine")=false∧∃ c,fn.body=some c∧okCode P false c=true:=by
 unfold okFn at h
 simp only [Bool.and_eq_true,Bool.not_eq_true'] at h
 refine ⟨h.1,?_⟩
 cases hb:fn.body with
 | none=>rw [hb] at h;cases h.2
 | some c=>rw [hb] at h;exact ⟨c,rfl,h.2⟩
theorem kin_of {Spec:FuncId→Prop} (h:KinTest P F Spec):Kin P F Spec:=by
 refine ⟨h.size,fun f args N=>?_,fun r f args=>?_,fun f fn c hns hf hb=>?_⟩
 ·cases hq:F[f]? with
  | none=>exact Fit.bad fun v=>by rw [call_none (Q:=withF P F) hq];trivial
  | some fn =>
   rcases h.each f fn hq with ⟨_,nq,bq,fp,hp,np,bp⟩|⟨hp,hok⟩|⟨hp,hx⟩|rfl
   ·exact fit_enter hq hp nq np bq bp args
   ·obtain ⟨nq,c,bq,_⟩:=okFn_parts hok
    exact fit_enter hq hp nq nq (by rw [bq];rfl) (by rw [bq];rfl) args
   ·exact fit_ext hq hp hx args
   ·exact Fit.bad fun v=>call_stub (Q:=withF P F) hq args v
 ·cases hq:F[f]? with
  | none=>exact fun v _ n v' hr=>by rw [call_none (Q:=withF P F) hq] at hr;cases hr
  | some fn =>
   rcases h.each f fn hq with ⟨hs,nq,bq,_⟩|⟨hp,hok⟩|⟨hp,hx⟩|rfl
   ·exact fun v _ n v' hr=>by
     rw [call_body (Q:=withF P F) hq nq bq] at hr
     cases hr
     exact .inl hs
   ·obtain ⟨nq,c,bq,_⟩:=okFn_parts hok
    exact fun v _ n v' hr=>by
     rw [call_body (Q:=withF P F) hq nq (by rw [bq];rfl)] at hr
     cases hr
     exact (Classical.em (Spec f)).imp id fun hs=>⟨hs,hq.trans hp.symm⟩
   ·exact rets_ext hq hx r args
   ·exact fun v _ n v' hr=>by
     have:=call_stub (Q:=withF P F) hq args v
     rw [hr] at this
     exact this.elim
 ·rcases h.each f fn hf with ⟨hs,_⟩|⟨_,hok⟩|⟨_,hx⟩|rfl
  ·exact absurd hs hns
  ·obtain ⟨_,c',hb',hc⟩:=okFn_parts hok
   rw [hb] at hb'
   cases hb'
   exact hc
  ·rw [hx.2.1] at hb;cases hb
  ·cases hb
end
end Go.Proofs.YtpcjdalgebgofaaGreatDoor
namespace Go.Proofs.YtpcjdalgebgofaaGreatDoor
open Go Go.Conc Go.ConcX Go.RowKit
section
variable {P:Program} {F:Array Func} {N:Nat→Prop}
theorem fit_cutType (n:String):Fit P F N (cutType n):=by
 refine Fit.progM rfl ?_
 split
 ·exact Fit.pureM _
 ·exact fit_stuck _
theorem fit_handle (t:TypeId):Fit P F N (Extern.Rtype.handle t):=Fit.progM rfl (Fit.pureM _)
theorem fit_ofHandle (h:Value):Fit P F N (Extern.Rtype.ofHandle h):=by
 refine Fit.progM rfl ?_
 split
 ·exact Fit.pureM _
 ·exact fit_stuck _
theorem fit_noPack (w:String) (t:TypeId):Fit P F N (Extern.Rtype.noPack w t):=by
 refine Fit.progM (by simp only [packed_f]) ?_
 split
 ·exact fit_unsupported _
 ·exact Fit.pureM _
theorem fit_noPackHeld (w:String) (t:TypeId):Fit P F N (Extern.Rtype.noPackHeld w t):=by
 refine Fit.progM ?_ (Fit.progM ?_ ?_)
 ·simp only [holdsPacked_f]
 ·simp only [depth_f]
  first|done|rfl
 ·split
  ·exact fit_unsupported _
  ·exact Fit.pureM _
theorem fit_reflTypeOf (args:Array Value):Fit P F N (Extern.ReflectliteType.typeOf args):=by
 obtain ⟨l⟩:=args
 cases l with
 | nil=>exact fit_stuck _
 | cons x r =>
  cases r with
  | cons y r=>cases x <;> exact fit_stuck _
  | nil=>cases x <;> first|exact fit_stuck _|exact Fit.pureM _|exact Fit.bindM (fit_cutType _) fun _=>Fit.bindM (fit_handle _) fun _=>Fit.pureM _
theorem fit_ofRtype (v:Value):Fit P F N (Extern.ReflectliteType.ofRtype v):=by
 cases v with
 | agg cs =>
  obtain ⟨l⟩:=cs
  cases l with
  | nil=>exact fit_stuck _
  | cons x r =>
   cases r with
   | cons y r=>exact fit_stuck _
   | nil=>exact Fit.bindM (fit_ofHandle _) fun _=>Fit.bindM (fit_noPack _ _) fun _=>Fit.pureM _
 | _=>exact fit_stuck _
theorem fit_reflComparable (args:Array Value):Fit P F N (Extern.ReflectliteType.method (fun t=>do Extern.Rtype.noPackHeld "Comparable" t;pure (.bool (← typeInfo t).comparable)) args):=by
 obtain ⟨l⟩:=args
 cases l with
 | nil=>exact fit_stuck _
 | cons x r =>
  cases r with
  | cons y r=>exact fit_stuck _
  | nil=>exact Fit.bindM (fit_ofRtype _) fun t=>Fit.bindM (fit_noPackHeld _ _) fun _=>Fit.bindM (fit_typeInfo _) fun _=>Fit.pureM _
theorem okFn_f (fn:Func):okFn (withF P F) fn=okFn P fn:=by
 unfold okFn
 cases fn.body with
 | none=>rfl
 | some c=>simp only [okCode_f]
end
structure KinList (P:Program) (s:Nat) (body:Func) (good ext:List Nat):Prop where
 size:s<P.funcs.size
 name:(body.name == "runtime.NumGoroutine")=false
 isB:body.body.isSome=true
 old:∃ fp,P.funcs[s]?=some fp∧(fp.name == "runtime.NumGoroutine")=false∧fp.body.isSome=true
 good:good.all (fun i=>((P.funcs[i]?).map (okFn P)).getD false)=true
 ext:∀ i ∈ ext,∃ fn,P.funcs[i]?=some fn∧(fn.name == "runtime.NumGoroutine")=false∧fn.body=none∧Extern.findNext fn=none∧∃ e:Array Value→Sem Value,Extern.find fn=some e∧∀ (P:Program) (F:Array Func) (args:Array Value) (N:Nat→Prop),Fit P F N (e args)
section
variable {P:Program} {s:Nat} {body:Func} {good ext:List Nat} {keep:Nat→Bool}
theorem kinTest_of (h:KinList P s body good ext) (hk:∀ i,keep i=true→i ∈ good∨i ∈ ext):KinTest P (mkF P s body keep) (fun f=>f=s):=by
 refine ⟨mkF_size,fun i fn hf=>?_⟩
 obtain ⟨hlt,hc⟩:=mkF_cases hf
 rcases hc with ⟨rfl,rfl⟩|⟨hne,hki,hp⟩|⟨_,_,rfl⟩
 ·exact .inl ⟨rfl,h.name,h.isB,h.old⟩
 ·rcases hk i hki with hi|hi
  ·have:=List.all_eq_true.1 h.good i hi
   rw [hp] at this
   exact .inr (.inl ⟨hp,this⟩)
  ·obtain ⟨fn',hp',h1,h2,h3,e,h4,h5⟩:=h.ext i hi
   obtain rfl:fn'=fn:=Option.some.inj (hp'.symm.trans hp)
   exact .inr (.inr (.inl ⟨hp,h1,h2,h3,e,h4,fun args N=>h5 _ _ args N⟩))
 ·exact .inr (.inr (.inr rfl))
theorem kinTestQ_of (h:KinList P s body good ext) (hk:∀ i,keep i=true→i ∈ good∨i ∈ ext):KinTest (withF P (mkF P s body keep)) (mkF P s body keep) (fun f=>f=s):=by
 refine ⟨rfl,fun i fn hf=>?_⟩
 have hf':(withF P (mkF P s body keep)).funcs[i]?=some fn:=hf
 rcases (kinTest_of h hk).each i fn hf with ⟨rfl,h1,h2,_⟩|⟨_,h2⟩|⟨_,h1,h2,h3,e,h4,h5⟩|rfl
 ·exact .inl ⟨rfl,h1,h2,fn,hf',h1,h2⟩
 ·exact .inr (.inl ⟨hf',by rw [okFn_f];exact h2⟩)
 ·obtain ⟨hlt,hc⟩:=mkF_cases hf
  rcases hc with ⟨rfl,rfl⟩|⟨hne,hki,hp⟩|⟨_,_,rfl⟩
  ·exact .inl ⟨rfl,h.name,h.isB,fn,hf',h.name,h.isB⟩
  ·rcases hk i hki with hi|hi
   ·have:=List.all_eq_true.1 h.good i hi
    rw [hp] at this
    exact .inr (.inl ⟨hf',by rw [okFn_f];exact this⟩)
   ·obtain ⟨fn',hp',h1',h2',h3',e',h4',h5'⟩:=h.ext i hi
    obtain rfl:fn'=fn:=Option.some.inj (hp'.symm.trans hp)
    exact .inr (.inr (.inl ⟨hf',h1',h2',h3',e',h4',fun args N=>h5' _ _ args N⟩))
  ·exact .inr (.inr (.inr rfl))
 ·exact .inr (.inr (.inr rfl))
end
section
variable {H:Type} {enc:TypeId × Value→H}
theorem leaving_of_good {a:Assume} {C:Checked} {os:Os} {f:FuncId} {fn:Func} {s:ChangeSpec} {conds:List PathCond} {apart fresh handsOn again:Bool} {X:World→Array Value→Prop}
  (hX:∀ (w w':World) (args:Array Value),w.heap=w'.heap→X w args→X w' args)
  (own:ownKnob C.prog.godebug=none) (started:os.Started) (hfn:C.prog.funcs[f]?=some fn)
  (witness:∃ (w:World) (tape:Tape) (i:Input),w.os=os∧(w.forCall tape i).Shaped C.prog∧i.vars=[]∧Input.okWide C.prog (w.forCall tape i) .any w.heap.size f i ∧
   ((s.pre enc C.prog fn conds apart (w.forCall tape i).memory i.args∧X (w.forCall tape i).memory i.args)∧sizedMet enc C.prog fn (OpenSpec.ofChange s) apart (w.forCall tape i).memory i.args)∧a.holds C.prog (lone (Frame.enter C.prog f i.args .normal) [] (w.forCall tape i)))
  (runs:∀ (W:World) (base:Nat) (args:Array Value) (ds gs:List (DataW H)) (before:List MemPlace),
   (∀ (j:Nat) t v,fn.params[j]?=some t→args[j]?=some v→Value.okWide C.prog W .any base t v) →
   DataW.Whole enc C.prog fn.params.toList s.vars apart W args.toList ds gs before →
   X W args→W.ShapedOpen C.prog →
   ∃ M last o w' t',runNT C.prog (M+1) (solo (G (Frame.enter C.prog f args .normal) []) W) #[]=(.ended o w',t')∧runN C.prog M (solo (G (Frame.enter C.prog f args .normal) []) W)=.next last ∧
    step C.prog last=.ended o w'∧Conc.Good C.prog (fun v W'=>s.post enc C.prog fn apart fresh handsOn again W args v W') last o w' t') :
  ReturnsInLeavingWide a C os f .any (fun w args=>(s.pre enc C.prog fn conds apart w args∧X w args)∧sizedMet enc C.prog fn (OpenSpec.ofChange s) apart w args) (s.post enc C.prog fn apart fresh handsOn again):=by
 refine returnsInLeavingWide_of_good own started witness ?_
 intro w tape i _ hsh _ hok hpre hholds
 obtain ⟨_,_,_,fn',hfn',_,_,_,_,hval⟩:=hok
 have e:fn'=fn:=Option.some.inj (hfn'.symm.trans hfn)
 subst e
 obtain ⟨⟨⟨ds,gs,before,hw,hc⟩,hx⟩,hz⟩:=hpre
 have hw':=DataW.Whole.of_heap (w':=w.forCall tape i) (by rfl) hw
 obtain ⟨M,last,o,w',t',h1,h2,h3,h4⟩:=runs (w.forCall tape i) w.heap.size i.args ds gs before hval hw' (hX _ _ _ (by rfl) hx) hsh
 exact ⟨M,last,o,w',t',h1,h2,h3,h4.mono fun v hp=>ChangeSpec.post_blind hp⟩
theorem trodVars_len {P:Program} {W:World} {sp:Nat→Bool}:∀ {ns:List String} {gs:List (DataW H)} {ps:List MemPlace},DataW.TrodVars enc P W sp ns gs ps→gs.length=ns.length
 | [],[],_,_=>rfl
 | [],_ :: _,_,h=>h.elim
 | _ :: _,[],_,h=>h.elim
 |n :: ns,d :: ds,ps,h=>by
  obtain ⟨g,t,cs,fuel,p,q,h1,h2,h3,h4,hs,e⟩:=h
  simp only [List.length_cons]
  rw [trodVars_len hs]
end
theorem nine {α:Type} {l:List α} (h:l.length=9):∃ a b c d e f g i j,l=[a,b,c,d,e,f,g,i,j]:=by
 match l,h with
 | [a,b,c,d,e,f,g,i,j],_=>exact ⟨a,b,c,d,e,f,g,i,j,rfl⟩
noncomputable def world0 (P:Program):World:=(begin P (fun _ _=>0) default).world
structure Laid0 (P:Program):Prop where
 size:(world0 P).heap.size=P.globals.size+5
 rows:(List.range P.globals.size).all (fun g=>(((world0 P).heap[g]?).bind Obj.row?).isSome)=true
 even:(world0 P).heap.all (fun o=>!odd o)=true
theorem odd_alike {a b:Obj} (h:a.alike b) (hb:odd b=false):odd a=false:=by
 unfold Obj.alike at h
 split at h
 ·rfl
 ·rfl
 ·rw [h];exact hb
theorem shaped_odd {P:Program} {W:World} (h0:Laid0 P) (hs:W.ShapedOpen P):P.globals.size+5≤W.heap.size∧∀ (i:Nat) (o:Obj),W.heap[i]?=some o→odd o=true→P.globals.size+5≤i:=by
 obtain ⟨h1,h2⟩:=hs
 refine ⟨?_,fun i o ho hod=>?_⟩
 ·obtain ⟨o,o0,ho,_,_⟩:=h2 (P.globals.size+4) (by omega) (by have:=h0.size;unfold world0 at this;omega)
  have:=(Array.getElem?_eq_some_iff.1 ho).1
  omega
 ·rcases Nat.lt_or_ge i (P.globals.size+5) with hlt|hge
  ·exfalso
   rcases Nat.lt_or_ge i P.globals.size with hg|hg
   ·have:=List.all_eq_true.1 h0.rows i (List.mem_range.2 hg)
    obtain ⟨⟨zero,t⟩,hr⟩:=Option.isSome_iff_exists.1 this
    obtain ⟨cs,hc,_⟩:=h1 i zero t hg hr
    rw [ho] at hc
    cases hc
    cases hod
   ·obtain ⟨o',o0,ho',ho0,ha⟩:=h2 i hg (by have:=h0.size;unfold world0 at this;omega)
    rw [ho] at ho'
    cases ho'
    have hb:odd o0=false:=by
     have:=Array.all_eq_true'.1 h0.even o0 (Array.mem_of_getElem? ho0)
     simpa using this
    have:odd o=false:=by
     split at ha
     ·exact odd_alike ha hb
     ·rw [ha];exact hb
    rw [this] at hod
    cases hod
  ·exact hge
theorem scrub_cell {W:World} {a:Addr} {v:Value} (h:W.cell? a=some v):(scrub W).cell? a=some v:=by
 unfold World.cell? at h ⊢
 cases hh:W.heap[a.block]? with
 | none=>rw [hh] at h;cases h
 | some o =>
  rw [hh] at h
  cases o with
  | cells c t f=>rw [scrub_cells hh];exact h
  | _=>cases h
def LawR (W:World) (x:Value) (v:World):Prop:=x=.bool true∧W.heap.size≤v.heap.size∧v.os=W.os∧v.output=W.output∧∀ i,i<W.heap.size→v.heap[i]?=(scrub W).heap[i]?
theorem lawR_of {W v:World} {τ:Tape} (h:Below (Worldon (scrub W) τ).heap.size (Worldon (scrub W) τ) v):LawR W (.bool true) v:=by
 have hz:(Worldon (scrub W) τ).heap.size=W.heap.size:=by simp [Worldon,scrub]
 refine ⟨rfl,?_,h.os,h.output,fun i hi=>h.block i (by omega)⟩
 have:=h.size
 omega
theorem below_twin {P:Program} {F:Array Func} {W v w':World} {S:Nat→Option Obj} {x:Value} (hS:SOK P (oddAt W) W.heap.size S) (ht:Twin (okObj P F) S v w') (hR:LawR W x v):Below W.heap.size W { w' with tape:=W.tape }:=by
 obtain ⟨_,hz,ho,hu,hb⟩:=hR
 have hT:=scrub_twin P F W
 refine ⟨ht.os.symm.trans ho,rfl,ht.output.symm.trans hu,?_,fun i hi=>?_⟩
 ·show W.heap.size≤w'.heap.size
  have:=ht.size
  omega
 ·show w'.heap[i]?=W.heap[i]?
  have hSi:=hS.old i hi
  cases hs:S i with
  | none =>
   rw [← ht.block i hs,hb i hi]
   exact hT.block i (by rw [← hSi];exact hs)
  | some o =>
   rw [(ht.shun i o hs).2.1]
   exact (hT.shun i o (by rw [← hSi];exact hs)).2.1.symm
end Go.Proofs.YtpcjdalgebgofaaGreatDoor
namespace Go.Proofs.YtpcjdalgebgofaaGreatDoor
open Go.RowKit Go.Sort
abbrev Ent:=Int × Int
def inR (n lo hi:Int):Bool:=decide (lo≤n) && decide (n≤hi)
section
variable {w w':World} {A:Option Addr} {n:Nat} {es:List Ent}
end
def Blk (w:World) (g T:Nat) (cs:Array Value):Prop:=w.heap[g]?=some (.cells cs T (0,0))
section
variable {w w':World} {g T:Nat} {cs:Array Value}
end
end Go.Proofs.YtpcjdalgebgofaaGreatDoor
namespace Go.Proofs.YtpcjdalgebgofaaGreatDoor
open Go.RowKit Go.ChangeShapes Go.WideShapes Go.ChangeAt Go.Deep
theorem own_:ownKnob Tryz.prog.godebug=none:=by kernel_rfl
theorem laidOut_:laidOutB Tryz.prog=true:=by kernel_rfl
/-! The facts on the program's head,without a run over its letters: they are laid as a list of letters once. -/
section
variable {P:Program} {ws:List (List Char)}
theorem make_cut (h:behindMainWord (wordsSigns P.initOrder.toList)=ws) (hc:ws.head?=some "cut".toList):P.make=some .cut:=by
 obtain ⟨r,rfl⟩:∃ r,ws = "cut".toList :: r:=by
  cases ws with
  | nil=>cases hc
  | cons x r=>injection hc with hc;exact ⟨r,by rw [hc]⟩
 unfold Program.make
 rw [h]
 simp
theorem lifts_cut (h:behindMainWord (wordsSigns P.initOrder.toList)=ws) (hc:ws.head?=some "cut".toList) (hs:stripLifts liftWords ws=([],ws)):P.liftsFinal=false:=by
 obtain ⟨r,rfl⟩:∃ r,ws = "cut".toList :: r:=by
  cases ws with
  | nil=>cases hc
  | cons x r=>injection hc with hc;exact ⟨r,by rw [hc]⟩
 unfold Program.liftsFinal Program.headLifts
 rw [h,hs]
 simp
theorem mayEnter_cut (h:behindMainWord (wordsSigns P.initOrder.toList)=ws) (hc:ws.head?=some "cut".toList) (hs:stripLifts liftWords ws=([],ws)) (h1:P.laysLater=false) (h2:P.bearsReflect=false) (h3:P.doorFits []=true):P.mayEnter=true:=by
 obtain ⟨r,rfl⟩:∃ r,ws = "cut".toList :: r:=by
  cases ws with
  | nil=>cases hc
  | cons x r=>injection hc with hc;exact ⟨r,by rw [hc]⟩
 unfold Program.mayEnter
 rw [h]
 simp only []
 rw [hs]
 simp [h1,h2,h3]
theorem joined_by {f:FuncId} {fn:Func} {s:ChangeSpec} {c:OpenClaim} (hm:P.mayEnter=true) (hl:P.liftsFinal=c.lifted) (hk:P.make=some c.make)
  (k1:c.wf (OpenSpec.ofChange s)=true) (k2:laidOutB P=true) (k3:mapsRowed P=true) (k4:fn.params.all (P.readableRec ·)=true) (k5:namedTie P c.named s.vars=true)
  (k6:c.stops=[]) (k7:P.stops=[]) (k8:c.knobs=[]) (k9:P.stopKnobs=[]) (k10:c.inPlace=P.inPlace f) (k11:c.unfollowed=P.unfollowed f) (k12:c.recurses=P.recurses f) (k13:c.named=P.varsNamed f)
  (k14:((c.maps == (fn.params.toList ++ s.plain.varTypes P).any (P.mapsRec ·)) && (c.ifaces == (fn.params.toList ++ s.plain.varTypes P).any (P.ifacesRec ·)))=true) (k15:(c.mapsOut == P.mapsAmong fn.resultTypes.toList)=true)
  (k16:((c.loops == (fn.params.toList ++ s.plain.varTypes P).any (P.loopsFrom ·)) && (c.wideKeys == (fn.params.toList ++ s.plain.varTypes P ++ fn.resultTypes.toList).any (P.wideKeysFrom ·)))=true)
  (k17:(s.vars.all (P.varReadable ·) && fn.resultTypes.all (fun t=>P.readableRec t && decide (t<P.types.size)))=true) (k18:((c.ifacesOut == fn.resultTypes.toList.any (P.ifacesRec ·)) && (c.loopsOut == fn.resultTypes.toList.any (P.loopsFrom ·)))=true)
  (k19:(c.plainKeys == P.plainKeys)=true) (k20:c.shortTexts=none) (k21:P.stopsHeard=true) (k22:c.domain=[]) (k23:c.kinds=[]) (k24:c.pinned=c.pinnedBy)
  (k25:((c.veiled == (fn.params.toList ++ s.plain.varTypes P ++ fn.resultTypes.toList).any (P.veiledRec ·)) && c.veiledFits P fn.params.toList (fn.params.toList ++ s.plain.varTypes P ++ fn.resultTypes.toList))=true):joinedFacts P f fn s c=true:=by
 simp only [Bool.and_eq_true] at k14 k16 k17 k18 k25
 obtain ⟨k14a,k14b⟩:=k14
 obtain ⟨k16a,k16b⟩:=k16
 obtain ⟨k17a,k17b⟩:=k17
 obtain ⟨k18a,k18b⟩:=k18
 obtain ⟨k25a,k25b⟩:=k25
 unfold joinedFacts
 simp only [Bool.and_eq_true]
 repeat' apply And.intro
 all_goals first|assumption|(rw [k6];rfl)|(rw [k7];rfl)|(rw [k8];rfl)|(rw [k9];rfl)|(rw [k20];rfl)|(rw [k22,k23];rfl)|(rw [hl];exact beq_self_eq_true _)|(rw [hk];exact beq_self_eq_true _)|(rw [← k24];exact beq_self_eq_true _)|(rw [← k10];exact beq_self_eq_true _)|(rw [← k11];exact beq_self_eq_true _)|(rw [← k12];exact beq_self_eq_true _)|(rw [← k13];exact beq_self_eq_true _)
end
set_option maxRecDepth 100000 in
theorem io0:Tryz.prog.initOrder=String.ofList [Char.ofNat 104,Char.ofNat 97,Char.ofNat 114,Char.ofNat 110,Char.ofNat 101,Char.ofNat 115,Char.ofNat 115,Char.ofNat 32,Char.ofNat 100,Char.ofNat 51,Char.ofNat 54,Char.ofNat 52,Char.ofNat 53,Char.ofNat 54,Char.ofNat 51,Char.ofNat 53,Char.ofNat 97,Char.ofNat 102,Char.ofNat 101,Char.ofNat 49,Char.ofNat 52,Char.ofNat 99,Char.ofNat 53,Char.ofNat 55,Char.ofNat 53,Char.ofNat 57,Char.ofNat 101,Char.ofNat 52,Char.ofNat 57,Char.ofNat 54,Char.ofNat 48,Char.ofNat 57,Char.ofNat 53,Char.ofNat 55,Char.ofNat 102,Char.ofNat 57,Char.ofNat 53,Char.ofNat 97,Char.ofNat 100,Char.ofNat 54,Char.ofNat 51,Char.ofNat 55,Char.ofNat 97,Char.ofNat 50,Char.ofNat 51,Char.ofNat 99,Char.ofNat 48,Char.ofNat 52,Char.ofNat 55,Char.ofNat 49,Char.ofNat 48,Char.ofNat 99,Char.ofNat 48,Char.ofNat 54,Char.ofNat 50,Char.ofNat 51,Char.ofNat 98,Char.ofNat 100,Char.ofNat 49,Char.ofNat 50,Char.ofNat 54,Char.ofNat 98,Char.ofNat 48,Char.ofNat 97,Char.ofNat 50,Char.ofNat 97,Char.ofNat 53,Char.ofNat 102,Char.ofNat 102,Char.ofNat 48,Char.ofNat 99,Char.ofNat 97,Char.ofNat 32,Char.ofNat 99,Char.ofNat 117,Char.ofNat 116,Char.ofNat 32,Char.ofNat 97,Char.ofNat 116,Char.ofNat 32,Char.ofNat 108,Char.ofNat 111,Char.ofNat 111,Char.ofNat 112,Char.ofNat 46,Char.ofNat 101,Char.ofNat 120,Char.ofNat 97,Char.ofNat 109,Char.ofNat 112,Char.ofNat 108,Char.ofNat 101,Char.ofNat 47,Char.ofNat 114,Char.ofNat 101,Char.ofNat 112,Char.ofNat 108,Char.ofNat 97,Char.ofNat 121,Char.ofNat 118,Char.ofNat 101,Char.ofNat 114,Char.ofNat 105,Char.ofNat 102,Char.ofNat 105,Char.ofNat 101,Char.ofNat 114,Char.ofNat 47,Char.ofNat 108,Char.ofNat 97,Char.ofNat 119,Char.ofNat 115,Char.ofNat 46,Char.ofNat 70,Char.ofNat 110,Char.ofNat 70,Char.ofNat 105,Char.ofNat 110,Char.ofNat 101,Char.ofNat 84,Char.ofNat 97,Char.ofNat 103,Char.ofNat 32,Char.ofNat 108,Char.ofNat 111,Char.ofNat 111,Char.ofNat 112,Char.ofNat 46,Char.ofNat 101,Char.ofNat 120,Char.ofNat 97,Char.ofNat 109,Char.ofNat 112,Char.ofNat 108,Char.ofNat 101,Char.ofNat 47,Char.ofNat 114,Char.ofNat 101,Char.ofNat 112,Char.ofNat 108,Char.ofNat 97,Char.ofNat 121,Char.ofNat 118,Char.ofNat 101,Char.ofNat 114,Char.ofNat 105,Char.ofNat 102,Char.ofNat 105,Char.ofNat 101,Char.ofNat 114,Char.ofNat 47,Char.ofNat 108,Char.ofNat 97,Char.ofNat 119,Char.ofNat 115,Char.ofNat 46,Char.ofNat 70,Char.ofNat 110,Char.ofNat 79,Char.ofNat 114,Char.ofNat 100,Char.ofNat 101,Char.ofNat 114,Char.ofNat 32,Char.ofNat 108,Char.ofNat 111,Char.ofNat 111,Char.ofNat 112,Char.ofNat 46,Char.ofNat 101,Char.ofNat 120,Char.ofNat 97,Char.ofNat 109,Char.ofNat 112,Char.ofNat 108,Char.ofNat 101,Char.ofNat 47,Char.ofNat 114,Char.ofNat 101,Char.ofNat 112,Char.ofNat 108,Char.ofNat 97,Char.ofNat 121,Char.ofNat 118,Char.ofNat 101,Char.ofNat 114,Char.ofNat 105,Char.ofNat 102,Char.ofNat 105,Char.ofNat 101,Char.ofNat 114,Char.ofNat 47,Char.ofNat 108,Char.ofNat 97,Char.ofNat 119,Char.ofNat 115,Char.ofNat 46,Char.ofNat 70,Char.ofNat 110,Char.ofNat 79,Char.ofNat 114,Char.ofNat 100,Char.ofNat 101,Char.ofNat 114,Char.ofNat 82,Char.ofNat 117,Char.ofNat 110,Char.ofNat 32,Char.ofNat 108,Char.ofNat 111,Char.ofNat 111,Char.ofNat 112,Char.ofNat 46,Char.ofNat 101,Char.ofNat 120,Char.ofNat 97,Char.ofNat 109,Char.ofNat 112,Char.ofNat 108,Char.ofNat 101,Char.ofNat 47,Char.ofNat 114,Char.ofNat 101,Char.ofNat 112,Char.ofNat 108,Char.ofNat 97,Char.ofNat 121,Char.ofNat 118,Char.ofNat 101,Char.ofNat 114,Char.ofNat 105,Char.ofNat 102,Char.ofNat 105,Char.ofNat 101,Char.ofNat 114,Char.ofNat 47,Char.ofNat 108,Char.ofNat 97,Char.ofNat 119,Char.ofNat 115,Char.ofNat 46,Char.ofNat 70,Char.ofNat 110,Char.ofNat 70,Char.ofNat 105,Char.ofNat 110,Char.ofNat 101,Char.ofNat 32,Char.ofNat 108,Char.ofNat 111,Char.ofNat 111,Char.ofNat 112,Char.ofNat 46,Char.ofNat 101,Char.ofNat 120,Char.ofNat 97,Char.ofNat 109,Char.ofNat 112,Char.ofNat 108,Char.ofNat 101,Char.ofNat 47,Char.ofNat 114,Char.ofNat 101,Char.ofNat 112,Char.ofNat 108,Char.ofNat 97,Char.ofNat 121,Char.ofNat 118,Char.ofNat 101,Char.ofNat 114,Char.ofNat 105,Char.ofNat 102,Char.ofNat 105,Char.ofNat 101,Char.ofNat 114,Char.ofNat 47,Char.ofNat 108,Char.ofNat 97,Char.ofNat 119,Char.ofNat 115,Char.ofNat 46,Char.ofNat 70,Char.ofNat 110,Char.ofNat 70,Char.ofNat 105,Char.ofNat 110,Char.ofNat 101,Char.ofNat 72,Char.ofNat 97,Char.ofNat 115,Char.ofNat 104,Char.ofNat 32,Char.ofNat 108,Char.ofNat 111,Char.ofNat 111,Char.ofNat 112,Char.ofNat 46,Char.ofNat 101,Char.ofNat 120,Char.ofNat 97,Char.ofNat 109,Char.ofNat 112,Char.ofNat 108,Char.ofNat 101,Char.ofNat 47,Char.ofNat 114,Char.ofNat 101,Char.ofNat 112,Char.ofNat 108,Char.ofNat 97,Char.ofNat 121,Char.ofNat 118,Char.ofNat 101,Char.ofNat 114,Char.ofNat 105,Char.ofNat 102,Char.ofNat 105,Char.ofNat 101,Char.ofNat 114,Char.ofNat 47,Char.ofNat 108,Char.ofNat 97,Char.ofNat 119,Char.ofNat 115,Char.ofNat 46,Char.ofNat 70,Char.ofNat 110,Char.ofNat 84,Char.ofNat 105,Char.ofNat 99,Char.ofNat 107,Char.ofNat 70,Char.ofNat 105,Char.ofNat 110,Char.ofNat 101]:=by kernel_rfl
set_option maxRecDepth 100000 in
theorem io_:Tryz.prog.initOrder.toList=[Char.ofNat 104,Char.ofNat 97,Char.ofNat 114,Char.ofNat 110,Char.ofNat 101,Char.ofNat 115,Char.ofNat 115,Char.ofNat 32,Char.ofNat 100,Char.ofNat 51,Char.ofNat 54,Char.ofNat 52,Char.ofNat 53,Char.ofNat 54,Char.ofNat 51,Char.ofNat 53,Char.ofNat 97,Char.ofNat 102,Char.ofNat 101,Char.ofNat 49,Char.ofNat 52,Char.ofNat 99,Char.ofNat 53,Char.ofNat 55,Char.ofNat 53,Char.ofNat 57,Char.ofNat 101,Char.ofNat 52,Char.ofNat 57,Char.ofNat 54,Char.ofNat 48,Char.ofNat 57,Char.ofNat 53,Char.ofNat 55,Char.ofNat 102,Char.ofNat 57,Char.ofNat 53,Char.ofNat 97,Char.ofNat 100,Char.ofNat 54,Char.ofNat 51,Char.ofNat 55,Char.ofNat 97,Char.ofNat 50,Char.ofNat 51,Char.ofNat 99,Char.ofNat 48,Char.ofNat 52,Char.ofNat 55,Char.ofNat 49,Char.ofNat 48,Char.ofNat 99,Char.ofNat 48,Char.ofNat 54,Char.ofNat 50,Char.ofNat 51,Char.ofNat 98,Char.ofNat 100,Char.ofNat 49,Char.ofNat 50,Char.ofNat 54,Char.ofNat 98,Char.ofNat 48,Char.ofNat 97,Char.ofNat 50,Char.ofNat 97,Char.ofNat 53,Char.ofNat 102,Char.ofNat 102,Char.ofNat 48,Char.ofNat 99,Char.ofNat 97,Char.ofNat 32,Char.ofNat 99,Char.ofNat 117,Char.ofNat 116,Char.ofNat 32,Char.ofNat 97,Char.ofNat 116,Char.ofNat 32,Char.ofNat 108,Char.ofNat 111,Char.ofNat 111,Char.ofNat 112,Char.ofNat 46,Char.ofNat 101,Char.ofNat 120,Char.ofNat 97,Char.ofNat 109,Char.ofNat 112,Char.ofNat 108,Char.ofNat 101,Char.ofNat 47,Char.ofNat 114,Char.ofNat 101,Char.ofNat 112,Char.ofNat 108,Char.ofNat 97,Char.ofNat 121,Char.ofNat 118,Char.ofNat 101,Char.ofNat 114,Char.ofNat 105,Char.ofNat 102,Char.ofNat 105,Char.ofNat 101,Char.ofNat 114,Char.ofNat 47,Char.ofNat 108,Char.ofNat 97,Char.ofNat 119,Char.ofNat 115,Char.ofNat 46,Char.ofNat 70,Char.ofNat 110,Char.ofNat 70,Char.ofNat 105,Char.ofNat 110,Char.ofNat 101,Char.ofNat 84,Char.ofNat 97,Char.ofNat 103,Char.ofNat 32,Char.ofNat 108,Char.ofNat 111,Char.ofNat 111,Char.ofNat 112,Char.ofNat 46,Char.ofNat 101,Char.ofNat 120,Char.ofNat 97,Char.ofNat 109,Char.ofNat 112,Char.ofNat 108,Char.ofNat 101,Char.ofNat 47,Char.ofNat 114,Char.ofNat 101,Char.ofNat 112,Char.ofNat 108,Char.ofNat 97,Char.ofNat 121,Char.ofNat 118,Char.ofNat 101,Char.ofNat 114,Char.ofNat 105,Char.ofNat 102,Char.ofNat 105,Char.ofNat 101,Char.ofNat 114,Char.ofNat 47,Char.ofNat 108,Char.ofNat 97,Char.ofNat 119,Char.ofNat 115,Char.ofNat 46,Char.ofNat 70,Char.ofNat 110,Char.ofNat 79,Char.ofNat 114,Char.ofNat 100,Char.ofNat 101,Char.ofNat 114,Char.ofNat 32,Char.ofNat 108,Char.ofNat 111,Char.ofNat 111,Char.ofNat 112,Char.ofNat 46,Char.ofNat 101,Char.ofNat 120,Char.ofNat 97,Char.ofNat 109,Char.ofNat 112,Char.ofNat 108,Char.ofNat 101,Char.ofNat 47,Char.ofNat 114,Char.ofNat 101,Char.ofNat 112,Char.ofNat 108,Char.ofNat 97,Char.ofNat 121,Char.ofNat 118,Char.ofNat 101,Char.ofNat 114,Char.ofNat 105,Char.ofNat 102,Char.ofNat 105,Char.ofNat 101,Char.ofNat 114,Char.ofNat 47,Char.ofNat 108,Char.ofNat 97,Char.ofNat 119,Char.ofNat 115,Char.ofNat 46,Char.ofNat 70,Char.ofNat 110,Char.ofNat 79,Char.ofNat 114,Char.ofNat 100,Char.ofNat 101,Char.ofNat 114,Char.ofNat 82,Char.ofNat 117,Char.ofNat 110,Char.ofNat 32,Char.ofNat 108,Char.ofNat 111,Char.ofNat 111,Char.ofNat 112,Char.ofNat 46,Char.ofNat 101,Char.ofNat 120,Char.ofNat 97,Char.ofNat 109,Char.ofNat 112,Char.ofNat 108,Char.ofNat 101,Char.ofNat 47,Char.ofNat 114,Char.ofNat 101,Char.ofNat 112,Char.ofNat 108,Char.ofNat 97,Char.ofNat 121,Char.ofNat 118,Char.ofNat 101,Char.ofNat 114,Char.ofNat 105,Char.ofNat 102,Char.ofNat 105,Char.ofNat 101,Char.ofNat 114,Char.ofNat 47,Char.ofNat 108,Char.ofNat 97,Char.ofNat 119,Char.ofNat 115,Char.ofNat 46,Char.ofNat 70,Char.ofNat 110,Char.ofNat 70,Char.ofNat 105,Char.ofNat 110,Char.ofNat 101,Char.ofNat 32,Char.ofNat 108,Char.ofNat 111,Char.ofNat 111,Char.ofNat 112,Char.ofNat 46,Char.ofNat 101,Char.ofNat 120,Char.ofNat 97,Char.ofNat 109,Char.ofNat 112,Char.ofNat 108,Char.ofNat 101,Char.ofNat 47,Char.ofNat 114,Char.ofNat 101,Char.ofNat 112,Char.ofNat 108,Char.ofNat 97,Char.ofNat 121,Char.ofNat 118,Char.ofNat 101,Char.ofNat 114,Char.ofNat 105,Char.ofNat 102,Char.ofNat 105,Char.ofNat 101,Char.ofNat 114,Char.ofNat 47,Char.ofNat 108,Char.ofNat 97,Char.ofNat 119,Char.ofNat 115,Char.ofNat 46,Char.ofNat 70,Char.ofNat 110,Char.ofNat 70,Char.ofNat 105,Char.ofNat 110,Char.ofNat 101,Char.ofNat 72,Char.ofNat 97,Char.ofNat 115,Char.ofNat 104,Char.ofNat 32,Char.ofNat 108,Char.ofNat 111,Char.ofNat 111,Char.ofNat 112,Char.ofNat 46,Char.ofNat 101,Char.ofNat 120,Char.ofNat 97,Char.ofNat 109,Char.ofNat 112,Char.ofNat 108,Char.ofNat 101,Char.ofNat 47,Char.ofNat 114,Char.ofNat 101,Char.ofNat 112,Char.ofNat 108,Char.ofNat 97,Char.ofNat 121,Char.ofNat 118,Char.ofNat 101,Char.ofNat 114,Char.ofNat 105,Char.ofNat 102,Char.ofNat 105,Char.ofNat 101,Char.ofNat 114,Char.ofNat 47,Char.ofNat 108,Char.ofNat 97,Char.ofNat 119,Char.ofNat 115,Char.ofNat 46,Char.ofNat 70,Char.ofNat 110,Char.ofNat 84,Char.ofNat 105,Char.ofNat 99,Char.ofNat 107,Char.ofNat 70,Char.ofNat 105,Char.ofNat 110,Char.ofNat 101]:=by rw [io0,String.toList_ofList]
set_option maxRecDepth 100000 in
theorem io1:wordsSigns Tryz.prog.initOrder.toList=[[Char.ofNat 104,Char.ofNat 97,Char.ofNat 114,Char.ofNat 110,Char.ofNat 101,Char.ofNat 115,Char.ofNat 115],[Char.ofNat 100,Char.ofNat 51,Char.ofNat 54,Char.ofNat 52,Char.ofNat 53,Char.ofNat 54,Char.ofNat 51,Char.ofNat 53,Char.ofNat 97,Char.ofNat 102,Char.ofNat 101,Char.ofNat 49,Char.ofNat 52,Char.ofNat 99,Char.ofNat 53,Char.ofNat 55,Char.ofNat 53,Char.ofNat 57,Char.ofNat 101,Char.ofNat 52,Char.ofNat 57,Char.ofNat 54,Char.ofNat 48,Char.ofNat 57,Char.ofNat 53,Char.ofNat 55,Char.ofNat 102,Char.ofNat 57,Char.ofNat 53,Char.ofNat 97,Char.ofNat 100,Char.ofNat 54,Char.ofNat 51,Char.ofNat 55,Char.ofNat 97,Char.ofNat 50,Char.ofNat 51,Char.ofNat 99,Char.ofNat 48,Char.ofNat 52,Char.ofNat 55,Char.ofNat 49,Char.ofNat 48,Char.ofNat 99,Char.ofNat 48,Char.ofNat 54,Char.ofNat 50,Char.ofNat 51,Char.ofNat 98,Char.ofNat 100,Char.ofNat 49,Char.ofNat 50,Char.ofNat 54,Char.ofNat 98,Char.ofNat 48,Char.ofNat 97,Char.ofNat 50,Char.ofNat 97,Char.ofNat 53,Char.ofNat 102,Char.ofNat 102,Char.ofNat 48,Char.ofNat 99,Char.ofNat 97],[Char.ofNat 99,Char.ofNat 117,Char.ofNat 116],[Char.ofNat 97,Char.ofNat 116],[Char.ofNat 108,Char.ofNat 111,Char.ofNat 111,Char.ofNat 112,Char.ofNat 46,Char.ofNat 101,Char.ofNat 120,Char.ofNat 97,Char.ofNat 109,Char.ofNat 112,Char.ofNat 108,Char.ofNat 101,Char.ofNat 47,Char.ofNat 114,Char.ofNat 101,Char.ofNat 112,Char.ofNat 108,Char.ofNat 97,Char.ofNat 121,Char.ofNat 118,Char.ofNat 101,Char.ofNat 114,Char.ofNat 105,Char.ofNat 102,Char.ofNat 105,Char.ofNat 101,Char.ofNat 114,Char.ofNat 47,Char.ofNat 108,Char.ofNat 97,Char.ofNat 119,Char.ofNat 115,Char.ofNat 46,Char.ofNat 70,Char.ofNat 110,Char.ofNat 70,Char.ofNat 105,Char.ofNat 110,Char.ofNat 101,Char.ofNat 84,Char.ofNat 97,Char.ofNat 103],[Char.ofNat 108,Char.ofNat 111,Char.ofNat 111,Char.ofNat 112,Char.ofNat 46,Char.ofNat 101,Char.ofNat 120,Char.ofNat 97,Char.ofNat 109,Char.ofNat 112,Char.ofNat 108,Char.ofNat 101,Char.ofNat 47,Char.ofNat 114,Char.ofNat 101,Char.ofNat 112,Char.ofNat 108,Char.ofNat 97,Char.ofNat 121,Char.ofNat 118,Char.ofNat 101,Char.ofNat 114,Char.ofNat 105,Char.ofNat 102,Char.ofNat 105,Char.ofNat 101,Char.ofNat 114,Char.ofNat 47,Char.ofNat 108,Char.ofNat 97,Char.ofNat 119,Char.ofNat 115,Char.ofNat 46,Char.ofNat 70,Char.ofNat 110,Char.ofNat 79,Char.ofNat 114,Char.ofNat 100,Char.ofNat 101,Char.ofNat 114],[Char.ofNat 108,Char.ofNat 111,Char.ofNat 111,Char.ofNat 112,Char.ofNat 46,Char.ofNat 101,Char.ofNat 120,Char.ofNat 97,Char.ofNat 109,Char.ofNat 112,Char.ofNat 108,Char.ofNat 101,Char.ofNat 47,Char.ofNat 114,Char.ofNat 101,Char.ofNat 112,Char.ofNat 108,Char.ofNat 97,Char.ofNat 121,Char.ofNat 118,Char.ofNat 101,Char.ofNat 114,Char.ofNat 105,Char.ofNat 102,Char.ofNat 105,Char.ofNat 101,Char.ofNat 114,Char.ofNat 47,Char.ofNat 108,Char.ofNat 97,Char.ofNat 119,Char.ofNat 115,Char.ofNat 46,Char.ofNat 70,Char.ofNat 110,Char.ofNat 79,Char.ofNat 114,Char.ofNat 100,Char.ofNat 101,Char.ofNat 114,Char.ofNat 82,Char.ofNat 117,Char.ofNat 110],[Char.ofNat 108,Char.ofNat 111,Char.ofNat 111,Char.ofNat 112,Char.ofNat 46,Char.ofNat 101,Char.ofNat 120,Char.ofNat 97,Char.ofNat 109,Char.ofNat 112,Char.ofNat 108,Char.ofNat 101,Char.ofNat 47,Char.ofNat 114,Char.ofNat 101,Char.ofNat 112,Char.ofNat 108,Char.ofNat 97,Char.ofNat 121,Char.ofNat 118,Char.ofNat 101,Char.ofNat 114,Char.ofNat 105,Char.ofNat 102,Char.ofNat 105,Char.ofNat 101,Char.ofNat 114,Char.ofNat 47,Char.ofNat 108,Char.ofNat 97,Char.ofNat 119,Char.ofNat 115,Char.ofNat 46,Char.ofNat 70,Char.ofNat 110,Char.ofNat 70,Char.ofNat 105,Char.ofNat 110,Char.ofNat 101],[Char.ofNat 108,Char.ofNat 111,Char.ofNat 111,Char.ofNat 112,Char.ofNat 46,Char.ofNat 101,Char.ofNat 120,Char.ofNat 97,Char.ofNat 109,Char.ofNat 112,Char.ofNat 108,Char.ofNat 101,Char.ofNat 47,Char.ofNat 114,Char.ofNat 101,Char.ofNat 112,Char.ofNat 108,Char.ofNat 97,Char.ofNat 121,Char.ofNat 118,Char.ofNat 101,Char.ofNat 114,Char.ofNat 105,Char.ofNat 102,Char.ofNat 105,Char.ofNat 101,Char.ofNat 114,Char.ofNat 47,Char.ofNat 108,Char.ofNat 97,Char.ofNat 119,Char.ofNat 115,Char.ofNat 46,Char.ofNat 70,Char.ofNat 110,Char.ofNat 70,Char.ofNat 105,Char.ofNat 110,Char.ofNat 101,Char.ofNat 72,Char.ofNat 97,Char.ofNat 115,Char.ofNat 104],[Char.ofNat 108,Char.ofNat 111,Char.ofNat 111,Char.ofNat 112,Char.ofNat 46,Char.ofNat 101,Char.ofNat 120,Char.ofNat 97,Char.ofNat 109,Char.ofNat 112,Char.ofNat 108,Char.ofNat 101,Char.ofNat 47,Char.ofNat 114,Char.ofNat 101,Char.ofNat 112,Char.ofNat 108,Char.ofNat 97,Char.ofNat 121,Char.ofNat 118,Char.ofNat 101,Char.ofNat 114,Char.ofNat 105,Char.ofNat 102,Char.ofNat 105,Char.ofNat 101,Char.ofNat 114,Char.ofNat 47,Char.ofNat 108,Char.ofNat 97,Char.ofNat 119,Char.ofNat 115,Char.ofNat 46,Char.ofNat 70,Char.ofNat 110,Char.ofNat 84,Char.ofNat 105,Char.ofNat 99,Char.ofNat 107,Char.ofNat 70,Char.ofNat 105,Char.ofNat 110,Char.ofNat 101]]:=by rw [io_];kernel_rfl
set_option maxRecDepth 100000 in
theorem io2:behindMainWord (wordsSigns Tryz.prog.initOrder.toList)=[[Char.ofNat 99,Char.ofNat 117,Char.ofNat 116],[Char.ofNat 97,Char.ofNat 116],[Char.ofNat 108,Char.ofNat 111,Char.ofNat 111,Char.ofNat 112,Char.ofNat 46,Char.ofNat 101,Char.ofNat 120,Char.ofNat 97,Char.ofNat 109,Char.ofNat 112,Char.ofNat 108,Char.ofNat 101,Char.ofNat 47,Char.ofNat 114,Char.ofNat 101,Char.ofNat 112,Char.ofNat 108,Char.ofNat 97,Char.ofNat 121,Char.ofNat 118,Char.ofNat 101,Char.ofNat 114,Char.ofNat 105,Char.ofNat 102,Char.ofNat 105,Char.ofNat 101,Char.ofNat 114,Char.ofNat 47,Char.ofNat 108,Char.ofNat 97,Char.ofNat 119,Char.ofNat 115,Char.ofNat 46,Char.ofNat 70,Char.ofNat 110,Char.ofNat 70,Char.ofNat 105,Char.ofNat 110,Char.ofNat 101,Char.ofNat 84,Char.ofNat 97,Char.ofNat 103],[Char.ofNat 108,Char.ofNat 111,Char.ofNat 111,Char.ofNat 112,Char.ofNat 46,Char.ofNat 101,Char.ofNat 120,Char.ofNat 97,Char.ofNat 109,Char.ofNat 112,Char.ofNat 108,Char.ofNat 101,Char.ofNat 47,Char.ofNat 114,Char.ofNat 101,Char.ofNat 112,Char.ofNat 108,Char.ofNat 97,Char.ofNat 121,Char.ofNat 118,Char.ofNat 101,Char.ofNat 114,Char.ofNat 105,Char.ofNat 102,Char.ofNat 105,Char.ofNat 101,Char.ofNat 114,Char.ofNat 47,Char.ofNat 108,Char.ofNat 97,Char.ofNat 119,Char.ofNat 115,Char.ofNat 46,Char.ofNat 70,Char.ofNat 110,Char.ofNat 79,Char.ofNat 114,Char.ofNat 100,Char.ofNat 101,Char.ofNat 114],[Char.ofNat 108,Char.ofNat 111,Char.ofNat 111,Char.ofNat 112,Char.ofNat 46,Char.ofNat 101,Char.ofNat 120,Char.ofNat 97,Char.ofNat 109,Char.ofNat 112,Char.ofNat 108,Char.ofNat 101,Char.ofNat 47,Char.ofNat 114,Char.ofNat 101,Char.ofNat 112,Char.ofNat 108,Char.ofNat 97,Char.ofNat 121,Char.ofNat 118,Char.ofNat 101,Char.ofNat 114,Char.ofNat 105,Char.ofNat 102,Char.ofNat 105,Char.ofNat 101,Char.ofNat 114,Char.ofNat 47,Char.ofNat 108,Char.ofNat 97,Char.ofNat 119,Char.ofNat 115,Char.ofNat 46,Char.ofNat 70,Char.ofNat 110,Char.ofNat 79,Char.ofNat 114,Char.ofNat 100,Char.ofNat 101,Char.ofNat 114,Char.ofNat 82,Char.ofNat 117,Char.ofNat 110],[Char.ofNat 108,Char.ofNat 111,Char.ofNat 111,Char.ofNat 112,Char.ofNat 46,Char.ofNat 101,Char.ofNat 120,Char.ofNat 97,Char.ofNat 109,Char.ofNat 112,Char.ofNat 108,Char.ofNat 101,Char.ofNat 47,Char.ofNat 114,Char.ofNat 101,Char.ofNat 112,Char.ofNat 108,Char.ofNat 97,Char.ofNat 121,Char.ofNat 118,Char.ofNat 101,Char.ofNat 114,Char.ofNat 105,Char.ofNat 102,Char.ofNat 105,Char.ofNat 101,Char.ofNat 114,Char.ofNat 47,Char.ofNat 108,Char.ofNat 97,Char.ofNat 119,Char.ofNat 115,Char.ofNat 46,Char.ofNat 70,Char.ofNat 110,Char.ofNat 70,Char.ofNat 105,Char.ofNat 110,Char.ofNat 101],[Char.ofNat 108,Char.ofNat 111,Char.ofNat 111,Char.ofNat 112,Char.ofNat 46,Char.ofNat 101,Char.ofNat 120,Char.ofNat 97,Char.ofNat 109,Char.ofNat 112,Char.ofNat 108,Char.ofNat 101,Char.ofNat 47,Char.ofNat 114,Char.ofNat 101,Char.ofNat 112,Char.ofNat 108,Char.ofNat 97,Char.ofNat 121,Char.ofNat 118,Char.ofNat 101,Char.ofNat 114,Char.ofNat 105,Char.ofNat 102,Char.ofNat 105,Char.ofNat 101,Char.ofNat 114,Char.ofNat 47,Char.ofNat 108,Char.ofNat 97,Char.ofNat 119,Char.ofNat 115,Char.ofNat 46,Char.ofNat 70,Char.ofNat 110,Char.ofNat 70,Char.ofNat 105,Char.ofNat 110,Char.ofNat 101,Char.ofNat 72,Char.ofNat 97,Char.ofNat 115,Char.ofNat 104],[Char.ofNat 108,Char.ofNat 111,Char.ofNat 111,Char.ofNat 112,Char.ofNat 46,Char.ofNat 101,Char.ofNat 120,Char.ofNat 97,Char.ofNat 109,Char.ofNat 112,Char.ofNat 108,Char.ofNat 101,Char.ofNat 47,Char.ofNat 114,Char.ofNat 101,Char.ofNat 112,Char.ofNat 108,Char.ofNat 97,Char.ofNat 121,Char.ofNat 118,Char.ofNat 101,Char.ofNat 114,Char.ofNat 105,Char.ofNat 102,Char.ofNat 105,Char.ofNat 101,Char.ofNat 114,Char.ofNat 47,Char.ofNat 108,Char.ofNat 97,Char.ofNat 119,Char.ofNat 115,Char.ofNat 46,Char.ofNat 70,Char.ofNat 110,Char.ofNat 84,Char.ofNat 105,Char.ofNat 99,Char.ofNat 107,Char.ofNat 70,Char.ofNat 105,Char.ofNat 110,Char.ofNat 101]]:=by rw [io1];kernel_rfl
set_option maxRecDepth 100000 in
theorem io3:stripLifts liftWords [[Char.ofNat 99,Char.ofNat 117,Char.ofNat 116],[Char.ofNat 97,Char.ofNat 116],[Char.ofNat 108,Char.ofNat 111,Char.ofNat 111,Char.ofNat 112,Char.ofNat 46,Char.ofNat 101,Char.ofNat 120,Char.ofNat 97,Char.ofNat 109,Char.ofNat 112,Char.ofNat 108,Char.ofNat 101,Char.ofNat 47,Char.ofNat 114,Char.ofNat 101,Char.ofNat 112,Char.ofNat 108,Char.ofNat 97,Char.ofNat 121,Char.ofNat 118,Char.ofNat 101,Char.ofNat 114,Char.ofNat 105,Char.ofNat 102,Char.ofNat 105,Char.ofNat 101,Char.ofNat 114,Char.ofNat 47,Char.ofNat 108,Char.ofNat 97,Char.ofNat 119,Char.ofNat 115,Char.ofNat 46,Char.ofNat 70,Char.ofNat 110,Char.ofNat 70,Char.ofNat 105,Char.ofNat 110,Char.ofNat 101,Char.ofNat 84,Char.ofNat 97,Char.ofNat 103],[Char.ofNat 108,Char.ofNat 111,Char.ofNat 111,Char.ofNat 112,Char.ofNat 46,Char.ofNat 101,Char.ofNat 120,Char.ofNat 97,Char.ofNat 109,Char.ofNat 112,Char.ofNat 108,Char.ofNat 101,Char.ofNat 47,Char.ofNat 114,Char.ofNat 101,Char.ofNat 112,Char.ofNat 108,Char.ofNat 97,Char.ofNat 121,Char.ofNat 118,Char.ofNat 101,Char.ofNat 114,Char.ofNat 105,Char.ofNat 102,Char.ofNat 105,Char.ofNat 101,Char.ofNat 114,Char.ofNat 47,Char.ofNat 108,Char.ofNat 97,Char.ofNat 119,Char.ofNat 115,Char.ofNat 46,Char.ofNat 70,Char.ofNat 110,Char.ofNat 79,Char.ofNat 114,Char.ofNat 100,Char.ofNat 101,Char.ofNat 114],[Char.ofNat 108,Char.ofNat 111,Char.ofNat 111,Char.ofNat 112,Char.ofNat 46,Char.ofNat 101,Char.ofNat 120,Char.ofNat 97,Char.ofNat 109,Char.ofNat 112,Char.ofNat 108,Char.ofNat 101,Char.ofNat 47,Char.ofNat 114,Char.ofNat 101,Char.ofNat 112,Char.ofNat 108,Char.ofNat 97,Char.ofNat 121,Char.ofNat 118,Char.ofNat 101,Char.ofNat 114,Char.ofNat 105,Char.ofNat 102,Char.ofNat 105,Char.ofNat 101,Char.ofNat 114,Char.ofNat 47,Char.ofNat 108,Char.ofNat 97,Char.ofNat 119,Char.ofNat 115,Char.ofNat 46,Char.ofNat 70,Char.ofNat 110,Char.ofNat 79,Char.ofNat 114,Char.ofNat 100,Char.ofNat 101,Char.ofNat 114,Char.ofNat 82,Char.ofNat 117,Char.ofNat 110],[Char.ofNat 108,Char.ofNat 111,Char.ofNat 111,Char.ofNat 112,Char.ofNat 46,Char.ofNat 101,Char.ofNat 120,Char.ofNat 97,Char.ofNat 109,Char.ofNat 112,Char.ofNat 108,Char.ofNat 101,Char.ofNat 47,Char.ofNat 114,Char.ofNat 101,Char.ofNat 112,Char.ofNat 108,Char.ofNat 97,Char.ofNat 121,Char.ofNat 118,Char.ofNat 101,Char.ofNat 114,Char.ofNat 105,Char.ofNat 102,Char.ofNat 105,Char.ofNat 101,Char.ofNat 114,Char.ofNat 47,Char.ofNat 108,Char.ofNat 97,Char.ofNat 119,Char.ofNat 115,Char.ofNat 46,Char.ofNat 70,Char.ofNat 110,Char.ofNat 70,Char.ofNat 105,Char.ofNat 110,Char.ofNat 101],[Char.ofNat 108,Char.ofNat 111,Char.ofNat 111,Char.ofNat 112,Char.ofNat 46,Char.ofNat 101,Char.ofNat 120,Char.ofNat 97,Char.ofNat 109,Char.ofNat 112,Char.ofNat 108,Char.ofNat 101,Char.ofNat 47,Char.ofNat 114,Char.ofNat 101,Char.ofNat 112,Char.ofNat 108,Char.ofNat 97,Char.ofNat 121,Char.ofNat 118,Char.ofNat 101,Char.ofNat 114,Char.ofNat 105,Char.ofNat 102,Char.ofNat 105,Char.ofNat 101,Char.ofNat 114,Char.ofNat 47,Char.ofNat 108,Char.ofNat 97,Char.ofNat 119,Char.ofNat 115,Char.ofNat 46,Char.ofNat 70,Char.ofNat 110,Char.ofNat 70,Char.ofNat 105,Char.ofNat 110,Char.ofNat 101,Char.ofNat 72,Char.ofNat 97,Char.ofNat 115,Char.ofNat 104],[Char.ofNat 108,Char.ofNat 111,Char.ofNat 111,Char.ofNat 112,Char.ofNat 46,Char.ofNat 101,Char.ofNat 120,Char.ofNat 97,Char.ofNat 109,Char.ofNat 112,Char.ofNat 108,Char.ofNat 101,Char.ofNat 47,Char.ofNat 114,Char.ofNat 101,Char.ofNat 112,Char.ofNat 108,Char.ofNat 97,Char.ofNat 121,Char.ofNat 118,Char.ofNat 101,Char.ofNat 114,Char.ofNat 105,Char.ofNat 102,Char.ofNat 105,Char.ofNat 101,Char.ofNat 114,Char.ofNat 47,Char.ofNat 108,Char.ofNat 97,Char.ofNat 119,Char.ofNat 115,Char.ofNat 46,Char.ofNat 70,Char.ofNat 110,Char.ofNat 84,Char.ofNat 105,Char.ofNat 99,Char.ofNat 107,Char.ofNat 70,Char.ofNat 105,Char.ofNat 110,Char.ofNat 101]]=([],[[Char.ofNat 99,Char.ofNat 117,Char.ofNat 116],[Char.ofNat 97,Char.ofNat 116],[Char.ofNat 108,Char.ofNat 111,Char.ofNat 111,Char.ofNat 112,Char.ofNat 46,Char.ofNat 101,Char.ofNat 120,Char.ofNat 97,Char.ofNat 109,Char.ofNat 112,Char.ofNat 108,Char.ofNat 101,Char.ofNat 47,Char.ofNat 114,Char.ofNat 101,Char.ofNat 112,Char.ofNat 108,Char.ofNat 97,Char.ofNat 121,Char.ofNat 118,Char.ofNat 101,Char.ofNat 114,Char.ofNat 105,Char.ofNat 102,Char.ofNat 105,Char.ofNat 101,Char.ofNat 114,Char.ofNat 47,Char.ofNat 108,Char.ofNat 97,Char.ofNat 119,Char.ofNat 115,Char.ofNat 46,Char.ofNat 70,Char.ofNat 110,Char.ofNat 70,Char.ofNat 105,Char.ofNat 110,Char.ofNat 101,Char.ofNat 84,Char.ofNat 97,Char.ofNat 103],[Char.ofNat 108,Char.ofNat 111,Char.ofNat 111,Char.ofNat 112,Char.ofNat 46,Char.ofNat 101,Char.ofNat 120,Char.ofNat 97,Char.ofNat 109,Char.ofNat 112,Char.ofNat 108,Char.ofNat 101,Char.ofNat 47,Char.ofNat 114,Char.ofNat 101,Char.ofNat 112,Char.ofNat 108,Char.ofNat 97,Char.ofNat 121,Char.ofNat 118,Char.ofNat 101,Char.ofNat 114,Char.ofNat 105,Char.ofNat 102,Char.ofNat 105,Char.ofNat 101,Char.ofNat 114,Char.ofNat 47,Char.ofNat 108,Char.ofNat 97,Char.ofNat 119,Char.ofNat 115,Char.ofNat 46,Char.ofNat 70,Char.ofNat 110,Char.ofNat 79,Char.ofNat 114,Char.ofNat 100,Char.ofNat 101,Char.ofNat 114],[Char.ofNat 108,Char.ofNat 111,Char.ofNat 111,Char.ofNat 112,Char.ofNat 46,Char.ofNat 101,Char.ofNat 120,Char.ofNat 97,Char.ofNat 109,Char.ofNat 112,Char.ofNat 108,Char.ofNat 101,Char.ofNat 47,Char.ofNat 114,Char.ofNat 101,Char.ofNat 112,Char.ofNat 108,Char.ofNat 97,Char.ofNat 121,Char.ofNat 118,Char.ofNat 101,Char.ofNat 114,Char.ofNat 105,Char.ofNat 102,Char.ofNat 105,Char.ofNat 101,Char.ofNat 114,Char.ofNat 47,Char.ofNat 108,Char.ofNat 97,Char.ofNat 119,Char.ofNat 115,Char.ofNat 46,Char.ofNat 70,Char.ofNat 110,Char.ofNat 79,Char.ofNat 114,Char.ofNat 100,Char.ofNat 101,Char.ofNat 114,Char.ofNat 82,Char.ofNat 117,Char.ofNat 110],[Char.ofNat 108,Char.ofNat 111,Char.ofNat 111,Char.ofNat 112,Char.ofNat 46,Char.ofNat 101,Char.ofNat 120,Char.ofNat 97,Char.ofNat 109,Char.ofNat 112,Char.ofNat 108,Char.ofNat 101,Char.ofNat 47,Char.ofNat 114,Char.ofNat 101,Char.ofNat 112,Char.ofNat 108,Char.ofNat 97,Char.ofNat 121,Char.ofNat 118,Char.ofNat 101,Char.ofNat 114,Char.ofNat 105,Char.ofNat 102,Char.ofNat 105,Char.ofNat 101,Char.ofNat 114,Char.ofNat 47,Char.ofNat 108,Char.ofNat 97,Char.ofNat 119,Char.ofNat 115,Char.ofNat 46,Char.ofNat 70,Char.ofNat 110,Char.ofNat 70,Char.ofNat 105,Char.ofNat 110,Char.ofNat 101],[Char.ofNat 108,Char.ofNat 111,Char.ofNat 111,Char.ofNat 112,Char.ofNat 46,Char.ofNat 101,Char.ofNat 120,Char.ofNat 97,Char.ofNat 109,Char.ofNat 112,Char.ofNat 108,Char.ofNat 101,Char.ofNat 47,Char.ofNat 114,Char.ofNat 101,Char.ofNat 112,Char.ofNat 108,Char.ofNat 97,Char.ofNat 121,Char.ofNat 118,Char.ofNat 101,Char.ofNat 114,Char.ofNat 105,Char.ofNat 102,Char.ofNat 105,Char.ofNat 101,Char.ofNat 114,Char.ofNat 47,Char.ofNat 108,Char.ofNat 97,Char.ofNat 119,Char.ofNat 115,Char.ofNat 46,Char.ofNat 70,Char.ofNat 110,Char.ofNat 70,Char.ofNat 105,Char.ofNat 110,Char.ofNat 101,Char.ofNat 72,Char.ofNat 97,Char.ofNat 115,Char.ofNat 104],[Char.ofNat 108,Char.ofNat 111,Char.ofNat 111,Char.ofNat 112,Char.ofNat 46,Char.ofNat 101,Char.ofNat 120,Char.ofNat 97,Char.ofNat 109,Char.ofNat 112,Char.ofNat 108,Char.ofNat 101,Char.ofNat 47,Char.ofNat 114,Char.ofNat 101,Char.ofNat 112,Char.ofNat 108,Char.ofNat 97,Char.ofNat 121,Char.ofNat 118,Char.ofNat 101,Char.ofNat 114,Char.ofNat 105,Char.ofNat 102,Char.ofNat 105,Char.ofNat 101,Char.ofNat 114,Char.ofNat 47,Char.ofNat 108,Char.ofNat 97,Char.ofNat 119,Char.ofNat 115,Char.ofNat 46,Char.ofNat 70,Char.ofNat 110,Char.ofNat 84,Char.ofNat 105,Char.ofNat 99,Char.ofNat 107,Char.ofNat 70,Char.ofNat 105,Char.ofNat 110,Char.ofNat 101]]):=by kernel_rfl
set_option maxRecDepth 100000 in
theorem mayEnter_:Tryz.prog.mayEnter=true:=mayEnter_cut io2 (by kernel_rfl) io3 (by kernel_rfl) (by kernel_rfl) (by kernel_rfl)
set_option maxRecDepth 100000 in
theorem liftsFinal_:Tryz.prog.liftsFinal=false:=lifts_cut io2 (by kernel_rfl) io3
set_option maxRecDepth 100000 in
theorem make_:Tryz.prog.make=some .cut:=make_cut io2 (by kernel_rfl)
theorem mapsRowed_:mapsRowed Tryz.prog=true:=by kernel_rfl
theorem stops_:Tryz.prog.stops=[]:=by kernel_rfl
theorem stopKnobs_:Tryz.prog.stopKnobs=[]:=by kernel_rfl
theorem stopsHeard_:Tryz.prog.stopsHeard=true:=by kernel_rfl
def numOf_:Value→Int|.int _ k=>k|_=>0
end Go.Proofs.YtpcjdalgebgofaaGreatDoor
namespace Go.Proofs.YtpcjdalgebgofaaGreatDoor
open Go.RowKit Go.Sort
def Only (g:Nat) (w w':World):Prop:=w.grownBy w' (some g)
section
variable {g:Nat} {a b c w w':World}
end
def Src (w:World) (size:Nat) (A:Option Addr) (m:Nat) (news:List Value):Prop :=
 news.length=m * size∧(0<m→∃ ad,A=some ad∧∀ j u,news[j]?=some u→w.cell? (ad.add j)=some u)
section
variable {P:Program} (w:World)
end
def Ow (B:Nat) (w:World) (T size:Nat) (A:Option Addr) (n c:Nat) (xs:List Value):Prop :=
 (n=0∧c=0∧xs=[])∨(0<c∧w.ownsRow B T size (.slice A n c) n xs)
def ownB (A:Option Addr) (c:Nat):Option Nat:=if c=0 then none else A.map (·.block)
section
variable {P:Program} (w:World)
end
section
variable {B:Nat} {w w':World} {T size n c:Nat} {A:Option Addr} {xs:List Value}
end
end Go.Proofs.YtpcjdalgebgofaaGreatDoor
namespace Go.Proofs.YtpcjdalgebgofaaGreatDoor
open Go.RowKit Go.Sort
def RdI (k:IntKind) (w:World) (A:Option Addr) (n:Nat) (zs:List Int):Prop :=
 zs.length=n∧(0<n→∃ b off,A=some ⟨b,off,none⟩∧b<w.heap.size∧∀ j z,zs[j]?=some z→w.cell? ⟨b,off+j,none⟩=some (.int k z))
section
variable {k:IntKind} {w w':World} {A:Option Addr} {n:Nat} {zs:List Int}
end
def Rdr (w:World) (g p:Nat):Prop :=
 ∃ (A:Option Addr) (n c:Nat) (zs:List Int),Blk w g 92 #[.slice A n c,.int .i64 p]∧RdI .u8 w A n zs∧(∀ z ∈ zs,0≤z∧z≤255)∧n≤2000∧(0<n→∀ b,A.map (·.block)=some b→b<g)
def PickPost (g p:Nat) (n:Int) (w:World) (e:Ending) (w':World):Prop :=
 ∃ v:Int,e=.returned (.int .i64 v)∧0≤v∧(1≤n→v<n)∧Rdr w' g (p+1)∧Only g w w'
end Go.Proofs.YtpcjdalgebgofaaGreatDoor
namespace Go.Proofs.YtpcjdalgebgofaaGreatDoor
open Go.RowKit Go.ChangeShapes Go.WideShapes Go.ChangeAt Go.Joins Go.Deep
def IntsOf (k:IntKind) (w:World) (A:Option Addr) (n c:Nat) (zs:List Int):Prop:=RdI k w A n zs∧n≤c∧c≤maxLen∧∀ z ∈ zs,(Lit.int k z).wf=true
abbrev BytesIn:=IntsOf .u8
theorem BytesIn.bd {w:World} {A:Option Addr} {n c:Nat} {zs:List Int} (h:BytesIn w A n c zs):∀ z ∈ zs,0≤z∧z≤255:=by
 intro z hz
 have:=h.2.2.2 z hz
 simp only [Lit.wf,Bool.and_eq_true,decide_eq_true_eq] at this
 have h0:IntKind.u8.min=0:=by decide
 have h1:IntKind.u8.max=255:=by decide
 omega
theorem open_IntsOf {k:IntKind} {H:Type} {enc:TypeId × Value→H} {P:Program} {w:World} {t e:TypeId} {fuel:Nat} {A:Option Addr} {n c:Nat} {x:DataW H × List MemPlace}
  (ht:P.underlying t=some (.slice e)) (he:P.underlying e=some (.int k)) (ce:P.cellsOf e=1)
  (h:DataW.trod enc P w 0 (fun _=>true) true fuel t [.slice A n c]=some x) :
  ∃ zs:List Int,IntsOf k w A n c zs:=by
 rcases open_slice1 ht ce h with ⟨hcs,_⟩|⟨a,len,cap,m,n',V,D,Pl,hcs,_,hl,hm,hmm,_,hx⟩
 ·simp at hcs
  obtain ⟨rfl,rfl,rfl⟩:=hcs
  exact ⟨[],⟨rfl,fun h=>absurd h (by omega)⟩,Nat.le_refl _,by simp [maxLen],fun e he=>by cases he⟩
 ·simp at hcs
  obtain ⟨rfl,rfl,rfl⟩:=hcs
  have hmn:n≤m:=by rw [hmm];simp;exact hl
  have hv:∀ i,i<n→V i=.int k (numOf_ (V i))∧(Lit.int k (numOf_ (V i))).wf=true:=by
   intro i hi
   obtain ⟨_,t0⟩:=hx i (by omega)
   obtain ⟨q0,e0,_,w0⟩:=DataW.trod_int he t0
   have e0':V i=.int k q0:=by simpa using e0
   rw [e0']
   exact ⟨rfl,w0⟩
  refine ⟨(List.range n).map fun i=>numOf_ (V i),⟨by simp,fun hn=>?_⟩,hl,hm,fun e he=>?_⟩
  ·obtain ⟨b,off,spot⟩:=a
   have hs:spot=none:=by
    have:=World.cell?_spot (hx 0 (by omega)).1
    simpa [Addr.add] using this
   subst hs
   refine ⟨b,off,rfl,?_,fun k' e he=>?_⟩
   ·have:=World.block_lt_of_cell? _ _ (hx 0 (by omega)).1
    simpa [Addr.add] using this
   ·have hk:k'<n:=by
     have:=(List.getElem?_eq_some_iff.1 he).1
     simpa using this
    obtain ⟨g0,_⟩:=hx k' (by omega)
    obtain ⟨v0,_⟩:=hv k' hk
    have hee:e=numOf_ (V k'):=by
     have:=he
     simp [hk] at this
     exact this.symm
    rw [Addr.add_lit] at g0
    subst hee
    rw [g0,v0];rfl
  ·obtain ⟨i,hi,rfl⟩:=List.mem_map.1 he
   exact (hv i (List.mem_range.1 hi)).2
theorem open_BytesIn {H:Type} {enc:TypeId × Value→H} {P:Program} {w:World} {t e:TypeId} {fuel:Nat} {A:Option Addr} {n c:Nat} {x:DataW H × List MemPlace}
  (ht:P.underlying t=some (.slice e)) (he:P.underlying e=some (.int .u8)) (ce:P.cellsOf e=1)
  (h:DataW.trod enc P w 0 (fun _=>true) true fuel t [.slice A n c]=some x) :
  ∃ zs:List Int,BytesIn w A n c zs:=open_IntsOf ht he ce h
end Go.Proofs.YtpcjdalgebgofaaGreatDoor
namespace Go.Proofs.YtpcjdalgebgofaaGreatDoor
open Go Go.RowKit
section
variable {H:Type} {enc:TypeId × Value→H}
end
theorem holds_tied_goes_at (Lk:Looks) {p:Pinned} {s:OpenSpec} {c:OpenClaim} (kinds:List LaidKind) (tests:Bool) (har:Bool × String) (lk:Bool)
  (hc:c.holds p s) (hw:c.wfByText s=true)
  (htie:c.laidByTextAt Lk p kinds tests)
  (hst:c.start=.entering) (hnb:c.noBlocks=false∧c.again=false) (hm:p.checked.prog.mainIs=some (har.1,har.2.toList)) (hn:(!har.1 && har.2.isEmpty && !lk)=false)
  (hl:∀ f fn,p.checked.prog.funcNamed c.func=some f→p.checked.prog.funcs[f]?=some fn→lk=p.checked.prog.looks []∧∀ (j:Nat) t,fn.params[j]?=some t→p.checked.prog.wantsStandIn t=false)
  (hg:true=c.goesBy p.checked.prog) :
  Claim7.holds p (.plain s) { stood:={ row:=c,standIns:=[],harness:=har,looks:=lk },kinds:=[],alts:=[],goes:=true,laidByText:=true,laidKinds:=kinds,laidTests:=tests,laidLooks:=Lk }:=by
 have h6:∀ r:OpenClaim,Claim7.isSixth { stood:={ row:=r,standIns:=[],harness:=har,looks:=lk },kinds:=[] }=false:=fun r=>by simpa [Claim7.isSixth] using hn
 refine ⟨Claim7.tied_new_at Lk kinds tests (Claim7.new_of_sixth hc har lk hst hnb hm (h6 c) hl) hw,(fun D hD=>by cases hD),htie,(fun h=>by cases h),hg⟩
end Go.Proofs.YtpcjdalgebgofaaGreatDoor

/-
  Lemmas and contracts: Qn Qo Qp Qq Qr Qs Qu Qv Qw Qx. No condition.
-/
import Derived.Conc.Beside
import Derived.Conc.CrowdComm
import Derived.Test.YtpcjdalgebgofaaGreatDoorKa3
set_option linter.unusedSimpArgs false
set_option linter.unusedVariables false
set_option linter.unusedSectionVars false
namespace Go.Proofs.YtpcjdalgebgofaaGreatDoor
open Go Go.Conc
section
variable {P:Program} {F:Array Func} {Spec:FuncId→Prop} {S:Nat→Option Obj} {e:Lim} {dl dr:List Frame} {v w:World} {fr fr':Frame} {cs cs':List Frame}
theorem stepG_sim (hk:Kin P F Spec) (hg:okG P F fr cs) (hnb:cs=[]→fr.mode≠.run→fr.defers≠[]) (hS:∀ i o,S i=some o→P.globals.size+5≤i) (ha:Alike (okObj P F) S e v w) :
  SimR P F Spec S e dl dr v (stepG (withF P F) true (G fr (cs ++ dl)) v) (stepG P true (G fr (cs ++ dr)) w):=by
 have key:∀ (Q:Program) (l:List Frame) (u:World),stepG Q true (G fr l) u=if fr.mode matches .run then stepG.exec Q true true fr l none u else unwind Q true fr l none u:=fun Q l u=>by
  unfold stepG G
  obtain ⟨fn,tmps,todo,defers,mode,kind,ro⟩:=fr
  cases mode <;> rfl
 rw [key,key]
 by_cases hm:fr.mode=.run
 ·rw [hm]
  exact exec_sim hk hg hS ha
 ·have hb:¬ ((fr.mode matches .run)=true):=by
   cases h:fr.mode <;> first|exact absurd h hm|simp
  rw [if_neg hb,if_neg hb]
  exact unwind_sim hk hg (fun h=>hnb h hm) hS hm ha
/-! ### a communication of one case -/
inductive ComR where
 | stuck
 | block
 | to (fr:Frame) (w:World) (acts:List MemAct)
def commOne (P:Program) (fr:Frame) (c:CommCase) (sh:CommShape) (w:World):ComR :=
 match c.chan with
 | .chan none=>.block
 | .chan (some r) =>
  match w.heap[r]? with
  | some (.chan cap buf closed sent rcvd tm) =>
   match c.send with
   | some x =>
    if closed then
     match (runtimePanic (.plain "send on closed channel"):Sem Unit).run P w with
     | .halt (.panic v) w=>.to (fr.raise [{ v,recovered:=false }]) w []
     | _=>.stuck
    else if buf.size<cap then .to (fr.finish (commResult #[c] sh 0 undef false)) { w with heap:=w.heap.setIfInBounds r (.chan cap (buf.push x) closed (sent+1) rcvd tm) } [.send r sent,.sendDone r sent]
    else .block
   | none =>
    if buf.size > 0 then .to (fr.finish (commResult #[c] sh 0 (buf.getD 0 undef) true)) { w with heap:=w.heap.setIfInBounds r (.chan cap (buf.extract 1 buf.size) closed sent (rcvd+1) tm) } [.recv r rcvd cap,.recvDone r rcvd]
    else if closed then .to (fr.finish (commResult #[c] sh 0 c.zero false)) w [.recvClosed r]
    else .block
  | _=>.stuck
 | _=>.stuck
def opsOf (fr:Frame) (acts:List MemAct):Array MemOp:=(acts.map fun a=>{ g:=0,fn:=fr.fn,pos:=fr.place,act:=a }).toArray
set_option maxHeartbeats 1000000 in
theorem communicate_one {rest:Rest} {gs:Array Goroutine} (hp:∀ r b,partners gs r b=[]) (hr:rest.timers=#[]) (c:CommCase) (sh:CommShape) :
  match commOne P fr c sh w with
  | .stuck=>∃ o w',(communicate P rest gs 0 (G fr cs) #[c] true sh w).1=.ended o w'
  | .block=>communicate P rest gs 0 (G fr cs) #[c] true sh w=(.next { world:=w,gs:=gs.setIfInBounds 0 { G fr cs with status:=.blocked,offers:=some (#[c],sh) },rest },#[])
  | .to fr' w' acts=>communicate P rest gs 0 (G fr cs) #[c] true sh w=(.next { world:=w',gs:=gs.setIfInBounds 0 (G fr' cs),rest },opsOf fr acts):=by
 have hw:∀ c:CommCase,waitingAt rest #[c] w=some w:=by
  intro c
  obtain ⟨ch,sd,z⟩:=c
  unfold waitingAt timerAhead
  rw [hr]
  cases ch with
  | chan r=>cases r <;> simp
  | _=>simp
 obtain ⟨ch,sd,z⟩:=c
 unfold commOne
 cases ch with
 | chan r =>
  cases r with
  | none=>simp [communicate,ways,hw]
  | some r =>
   simp only
   cases hh:w.heap[r]? with
   | none=>exact ⟨_,_,by simp [communicate,hh];exact ⟨rfl,rfl⟩⟩
   | some o =>
    cases o with
    | chan cap buf closed s rc tm =>
     cases sd with
     | some x =>
      cases closed with
      | true =>
       simp only [if_true]
       cases hrp:(runtimePanic (.plain "send on closed channel"):Sem Unit).run P w with
       | ok a w'=>exact absurd hrp (never_runtimePanic _ _ _ _)
       | halt y w' =>
        cases y with
        | panic y=>simp [communicate,ways,hh,choose,Sem.run,Question.forced,bind,Sem.bind,pure,hrp,opsOf,G]
        | _=>exact ⟨_,_,by simp [communicate,ways,hh,choose,Sem.run,Question.forced,bind,Sem.bind,pure,hrp,opsOf,G];exact ⟨rfl,rfl⟩⟩
      | false =>
       simp only [Bool.false_eq_true,if_false]
       by_cases hb:buf.size<cap
       ·simp only [hb,if_true]
        simp [communicate,ways,hh,hp,hb,choose,Sem.run,Question.forced,bind,Sem.bind,pure,Goroutine.finishComm,commResult,opsOf,G]
       ·simp only [hb,if_false]
        simp [communicate,ways,hh,hp,hb,hw,G]
     | none =>
      simp only
      by_cases hb:buf.size > 0
      ·simp only [hb,if_true]
       simp [communicate,ways,hh,hp,hb,choose,Sem.run,Question.forced,bind,Sem.bind,pure,Goroutine.finishComm,commResult,opsOf,G]
      ·simp only [hb,if_false]
       cases closed with
       | true=>simp [communicate,ways,hh,hp,hb,choose,Sem.run,Question.forced,bind,Sem.bind,pure,Goroutine.finishComm,commResult,opsOf,G]
       | false=>simp [communicate,ways,hh,hp,hb,hw,G]
    | _=>exact ⟨_,_,by simp [communicate,hh];exact ⟨rfl,rfl⟩⟩
 | _=>exact ⟨_,_,by simp [communicate];exact ⟨rfl,rfl⟩⟩
end
end Go.Proofs.YtpcjdalgebgofaaGreatDoor
namespace Go.Proofs.YtpcjdalgebgofaaGreatDoor
open Go Go.Conc
section
variable {P:Program} {F:Array Func} {Spec:FuncId→Prop} {S:Nat→Option Obj} {e:Lim} {dl dr:List Frame} {v w:World} {fr fr':Frame} {cs cs':List Frame}
def okAct (n:Nat):MemAct→Prop
 | .send c _|.sendDone c _|.recv c _ _|.recvDone c _|.recvClosed c=>c<n
 | _=>False
theorem com_sim (hg:okG P F fr cs) (hS:∀ i o,S i=some o→P.globals.size+5≤i) (ha:Alike (okObj P F) S e v w) {c:CommCase} {sh:CommShape} {v':World} {acts:List MemAct} (h:commOne (withF P F) fr c sh v=.to fr' v' acts) :
  okG P F fr' cs∧okHeap P F v'∧v'.drawn=v.drawn∧v'.heap.size=v.heap.size∧∃ w',commOne P fr c sh w=.to fr' w' acts∧Alike (okObj P F) S e v' w'∧∀ a ∈ acts,okAct w'.heap.size a:=by
 obtain ⟨ch,sd,z⟩:=c
 unfold commOne at h ⊢
 cases ch with
 | chan r =>
  cases r with
  | none=>cases h
  | some r =>
   simp only at h ⊢
   cases hs:S r with
   | some o=>rw [(ha.shun _ _ hs).1] at h;cases h
   | none =>
   have hb:=ha.block _ hs
   cases hh:v.heap[r]? with
   | none=>rw [hh] at h;cases h
   | some o =>
    have hlt:r<w.heap.size:=by rw [← ha.size];exact (Array.getElem?_eq_some_iff.1 hh).1
    rw [hh] at h
    rw [← hb,hh]
    cases o with
    | chan cap buf closed s rc tm =>
     simp only at h ⊢
     cases sd with
     | some x =>
      simp only at h ⊢
      cases closed with
      | true =>
       simp only [if_true] at h ⊢
       have e1:∀ (Q:Program) (u:World),(runtimePanic (.plain "send on closed channel"):Sem Unit).run Q u=.halt (.panic (.iface Q.rt.plainError (strVal "send on closed channel"))) u:=fun _ _=>rfl
       rw [e1] at h ⊢
       cases h
       exact ⟨hg.raise _,ha.ok,rfl,rfl,_,rfl,ha,by simp⟩
      | false =>
       simp only [Bool.false_eq_true,if_false] at h ⊢
       by_cases hc:buf.size<cap
       ·simp only [hc,if_true] at h ⊢
        cases h
        have hal:=ha.setObj hs (o:=.chan cap (buf.push x) false (s+1) rc tm) trivial
        exact ⟨hg.finish _,hal.ok,rfl,by simp,_,rfl,hal,by simp [okAct,hlt]⟩
       ·simp only [hc,if_false] at h;cases h
     | none =>
      simp only at h ⊢
      by_cases hc:buf.size > 0
      ·simp only [hc,if_true] at h ⊢
       cases h
       have hal:=ha.setObj hs (o:=.chan cap (buf.extract 1 buf.size) closed s (rc+1) tm) trivial
       exact ⟨hg.finish _,hal.ok,rfl,by simp,_,rfl,hal,by simp [okAct,hlt]⟩
      ·simp only [hc,if_false] at h ⊢
       cases closed with
       | true =>
        simp only [if_true] at h ⊢
        cases h
        exact ⟨hg.finish _,ha.ok,rfl,rfl,_,rfl,ha,by simp [okAct,hlt]⟩
       | false=>cases h
    | _=>cases h
 | _=>cases h
end
end Go.Proofs.YtpcjdalgebgofaaGreatDoor
namespace Go.Proofs.YtpcjdalgebgofaaGreatDoor
open Go Go.Conc Go.ConcX
open Go.ConcN (sumTo upd sumTo_upd upd_ne upd_same)
section
variable {P:Program} {S:Nat→Option Obj} {Shun:Loc→Prop} {B B':Nat} {t:Trace} {fr fr':Frame} {cs cs':List Frame} {w w':World} {gs:Array Goroutine} {q:Nat→Nat} {sl:Option (Nat × Nat)}
def ShunOK (Shun:Loc→Prop) (S:Nat→Option Obj):Prop:=∀ l,Shun l→∃ a:Addr,l=.cell a∧S a.block≠none
theorem evL_of {x:Event} {n:Nat} (h:EvN S n x) (hs:ShunOK Shun S) (hn:n≤B):EvL Shun B x:=by
  obtain ⟨loc,wr,sy⟩:=x
  obtain ⟨h1,h2,h3⟩:=h
  refine ⟨fun y hy hsy=>?_,fun hl=>?_,fun hl=>?_,?_⟩
  · obtain ⟨a,ha,hne⟩:=hs _ hsy
    cases loc with
    | cell b =>
      simp only [MemAct.ofEvent,MemAct.touch?,Option.some.injEq] at hy
      subst hy
      cases ha
      exact absurd (h1 _ rfl).1 hne
    | mark m =>
      have hm:=h3 m rfl
      cases m <;> first|(cases hm;done)|(simp [MemAct.ofEvent,MemAct.touch?] at hy)
    | obj r =>
      cases wr <;> cases sy <;> simp [MemAct.ofEvent,MemAct.touch?] at hy <;> subst hy <;> cases ha
    | output=>simp [MemAct.ofEvent,MemAct.touch?] at hy;subst hy;cases ha
    | goroutines=>simp [MemAct.ofEvent,MemAct.touch?] at hy;subst hy;cases ha
  · have hm:=h3 _ hl;cases hm
  · have hm:=h3 _ hl;cases hm
  · cases loc with
    | cell b=>exact Nat.lt_of_lt_of_le (h1 _ rfl).2 hn
    | obj r=>cases wr <;> cases sy <;> exact Nat.lt_of_lt_of_le (h2 _ rfl) hn
    | mark m =>
      have hm:=h3 m rfl
      cases m <;> first|(cases hm;done)|trivial
    | output=>trivial
    | goroutines=>trivial
theorem okAct_keep {n:Nat} {acts:List MemAct} (h:∀ a ∈ acts,okAct n a):∀ op ∈ opsOf fr acts,op.g=0∧op.act.touch?=none∧op.act.low n∧op.act≠.mark .disable∧op.act≠.mark .enable:=by
  intro op hop
  simp only [opsOf,List.mem_toArray,List.mem_map] at hop
  obtain ⟨a,ha,rfl⟩:=hop
  have:=h a ha
  cases a <;> first|exact this.elim|exact ⟨rfl,rfl,this,by simp,by simp⟩
theorem Past.step0 (hP:Past Shun B t) (hB:B≤B') (hs:ShunOK Shun S) {es:Array Event} (he:∀ x ∈ es,EvN S B' x) {acts:List MemAct} (ha:∀ a ∈ acts,okAct B' a) (fn:FuncId) (pos:String) :
    Past Shun B' (t ++ (MemOp.ofEvents 0 fn pos es ++ opsOf fr acts)):=by
  rw [← Array.append_assoc]
  have h1:=(hP.mono hB).own (fn:=fn) (pos:=pos) fun x hx=>evL_of (he x hx) hs (Nat.le_refl _)
  refine h1.app0 (fun op hop=>(okAct_keep ha op hop).1) (fun op hop b hb=>by rw [(okAct_keep ha op hop).2.1] at hb;cases hb) ?_ (fun op hop=>(okAct_keep ha op hop).2.2.1)
  exact Deaf_keep _ _ _ fun op hop=>(okAct_keep ha op hop).2.2.2
theorem Leavers.com (hL:Leavers P t gs q) (hpos:0<gs.size) (a':Goroutine) {u:Trace} (hu:∀ op ∈ u,op.g=0):Leavers P (t ++ u) (gs.setIfInBounds 0 a') q :=
  ⟨fun j x hj hx=>by
    rw [Array.getElem?_setIfInBounds_ne (by omega)] at hx
    have hq:=hL.old j x hj hx
    rw [Deaf_other t (g':=0) (by omega) _ hu]
    exact hq,
   fun j hj=>by
    have hj':gs.size≤j:=by simpa using hj
    rw [Deaf_other t (g':=0) (by omega) _ hu]
    exact hL.above j hj'⟩
def FinA (P:Program) (Post:Value→World→Prop) (gs:Array Goroutine) (w:World) (sl:Option (Nat × Nat)) (t:Trace):Prop :=
  ∃ N last o w' t',runNT P (N+1) (crowd gs w sl) t=(.ended o w',t')∧runN P N (crowd gs w sl)=.next last∧step P last=.ended o w'∧Good P Post last o w' t'
theorem FinA.pre {Post:Value→World→Prop} {K:Nat} {gs':Array Goroutine} {sl':Option (Nat × Nat)} {t':Trace} (h:runNT P K (crowd gs w sl) t=(.next (crowd gs' w' sl'),t')) (hf:FinA P Post gs' w' sl' t'):FinA P Post gs w sl t:=by
  obtain ⟨N,last,o,w2,t2,h1,h2,h3,h4⟩:=hf
  refine ⟨K+N,last,o,w2,t2,?_,?_,h3,h4⟩
  · rw [Nat.add_assoc,runNT_add,h];exact h1
  · rw [runN_add,← runNT_fst P _ _ t,h];exact h2
structure Beside (P:Program) (S:Nat→Option Obj) (fr:Frame) (cs:List Frame) (gs:Array Goroutine) (w:World) (t:Trace) (q:Nat→Nat):Prop where
  h0:gs[0]?=some (G fr cs)
  leav:Leavers P t gs q
  past:∃ Shun,ShunOK Shun S∧Past Shun w.heap.size t
theorem Beside.pos (h:Beside P S fr cs gs w t q):0<gs.size:=(Array.getElem?_eq_some_iff.1 h.h0).1
theorem Beside.noPartner (h:Beside P S fr cs gs w t q) (r:Nat) (b:Bool):partners (gs.setIfInBounds 0 { (default:Goroutine) with status:=.finished }) r b=[]:=by
  refine partners_nil fun j g hj=>?_
  by_cases h0:j=0
  · subst h0
    rw [Array.getElem?_setIfInBounds_self_of_lt h.pos] at hj
    cases hj
    simp [offersAt]
  · rw [Array.getElem?_setIfInBounds_ne (by omega)] at hj
    rcases (h.leav.old j g (by omega) hj).status with hs|hs <;> simp [offersAt,hs]
theorem runT_comm {fr1:Frame} {c:CommCase} {sh:CommShape} {w1:World} {es:Array Event} {acts:List MemAct} (h:Beside P S fr cs gs w t q) (d:Nat) (hst:stepG P true (G fr cs) (w.at d)=.comm (G fr1 cs') #[c] true sh w1 es) (hc:commOne P fr1 c sh w1=.to fr' w' acts) :
    runT P (crowd gs (w.at d) sl) 0=(.next (crowd (gs.setIfInBounds 0 (G fr' cs')) w' sl),MemOp.ofEvents 0 fr.fn fr.place es ++ opsOf fr1 acts):=by
  obtain ⟨hlt,hg0⟩:=Array.getElem?_eq_some_iff.1 h.h0
  have hsw:=swapAt_of_lt hlt { (default:Goroutine) with status:=.finished }
  have hset:gs.set 0 { (default:Goroutine) with status:=.finished }=gs.setIfInBounds 0 { (default:Goroutine) with status:=.finished }:=by
    apply Array.ext_getElem?
    intro j
    by_cases hj:0=j
    · subst hj;simp [hlt]
    · simp [Array.getElem?_setIfInBounds_ne hj,hj]
  show runT P { world:=w.at d,gs:=gs,rest:={ timers:=#[],alone:=none,slice:=sl } } 0=_
  have key:=communicate_one (P:=P) (fr:=fr1) (cs:=cs') (w:=w1) (rest:={ timers:=#[],alone:=none,slice:=sl }) (gs:=gs.setIfInBounds 0 { (default:Goroutine) with status:=.finished }) (fun r b=>h.noPartner r b) rfl c sh
  rw [hc] at key
  simp only at key
  unfold runT
  simp only [hsw,hg0,beq_self_eq_true,hst,GStep.es,hset,key]
  refine Prod.ext ?_ rfl
  show Stepped.next _=Stepped.next _
  congr 1
  show Machine.mk _ _ _=Machine.mk _ _ _
  congr 1
  apply Array.ext_getElem?
  intro j
  by_cases hj:0=j
  · subst hj;simp [hlt]
  · simp [Array.getElem?_setIfInBounds_ne hj]
end
end Go.Proofs.YtpcjdalgebgofaaGreatDoor
namespace Go.Proofs.YtpcjdalgebgofaaGreatDoor
open Go Go.Conc Go.ConcX
open Go.ConcN (sumTo upd sumTo_upd upd_ne upd_same)
section
variable {P:Program} {S:Nat→Option Obj} {fr:Frame} {cs:List Frame} {Post:Value→World→Prop}
theorem fin_go {w0:World} (hstep:∀ (gs:Array Goroutine) (w:World) (sl sl':Option (Nat × Nat)) (t:Trace) (q:Nat→Nat) (d:Nat),AtRel w0 w→Beside P S fr cs gs w t q→stepT P (crowd gs w sl)=runT P (crowd gs (w.at d) sl') 0→FinA P Post gs w sl t)
  (M:Nat) (ih:∀ (gs:Array Goroutine) (w:World) (sl:Option (Nat × Nat)) (t:Trace) (q:Nat→Nat) (k:Nat),sumTo gs.size q<M→AtRel w0 w→Beside P S fr cs gs w t q→FinA P Post gs w sl t)
  (gs:Array Goroutine) (w:World) (sl:Option (Nat × Nat)) (t:Trace) (q:Nat→Nat) (hM:sumTo gs.size q≤M) (hw:AtRel w0 w) (hB:Beside P S fr cs gs w t q):FinA P Post gs w sl t:=by
 have hL:=hB.leav
 have haw:∀ g ∈ gs,awake g:=by
  intro g hg
  obtain ⟨i,hi,rfl⟩:=Array.mem_iff_getElem.1 hg
  rcases Nat.eq_zero_or_pos i with rfl|hpos
  ·have:gs[0]=G fr cs:=by simpa [Array.getElem?_eq_getElem hi] using hB.h0
   rw [this];exact awake_of (.inl rfl)
  ·exact awake_of ((hL.old i _ hpos (Array.getElem?_eq_getElem hi)).status.elim .inl fun x=>.inr (.inr x))
 obtain ⟨i,g,d,sl',hi,hg,hst⟩:=crowd_pick (P:=P) (w:=w) (sl:=sl) haw ⟨0,_,hB.h0,rfl⟩
 rcases Nat.eq_zero_or_pos i with rfl|hpos
 ·exact hstep gs w sl sl' t q d hw hB hst
 ·have hq:=hL.old i g hpos hi
  have hi0:(i == 0)=false:=by simp;omega
  have hlt:i<gs.size:=(Array.getElem?_eq_some_iff.1 hi).1
  cases hqi:q i with
  | zero=>rw [hqi] at hq;rw [hq.1] at hg;cases hg
  | succ k =>
   rw [hqi] at hq
   rcases hq with ⟨hf,_⟩|⟨_,g',es,hm,hstp,hq'⟩
   ·rw [hf] at hg;cases hg
   have hrunT:=runT_crowd_go (P:=P) (sl:=sl') (i:=i) hi (by rw [hi0];exact hstp (w.at d))
   have hsz:((gs.map (Go.Conc.woken P g g' (w.at d))).setIfInBounds i g').size=gs.size:=by simp
   have hsum:sumTo gs.size (upd q i k)+(k+1)=sumTo gs.size q+k:=by
    have:=sumTo_upd q k id hlt
    simpa [hqi] using this
   refine FinA.pre (K:=1) (by simp only [runNT,hst,hrunT]) (ih ((gs.map (Go.Conc.woken P g g' (w.at d))).setIfInBounds i g') (w.at d) sl' (t ++ MemOp.ofEvents i g.frame.fn g.frame.place es) (upd q i k) 0 (by rw [hsz];omega) (AtRel.trans hw ⟨d,rfl⟩) ⟨?_,⟨fun j x hj hx=>?_,fun j hj=>?_⟩,?_⟩)
   ·have hne:i≠0:=by omega
    rw [Array.getElem?_setIfInBounds_ne hne,Array.getElem?_map,hB.h0]
    simp [woken_run,G]
   ·by_cases hji:i=j
    ·subst hji
     rw [Array.getElem?_setIfInBounds_self_of_lt (by simpa using hlt)] at hx
     obtain rfl:=Option.some.inj hx
     rw [upd_same,Deaf_own]
     exact hq'
    ·rw [Array.getElem?_setIfInBounds_ne hji,Array.getElem?_map] at hx
     obtain ⟨y,hy,rfl⟩:=Option.map_eq_some_iff.1 hx
     have hqj:=hL.old j y hj hy
     rw [woken_quitsD hqj,upd_ne q k (Ne.symm hji),Deaf_other t hji _ g_of_ofEvents]
     exact hqj
   ·have hj':gs.size≤j:=by simpa using hj
    rw [Deaf_other t (g':=i) (by omega) _ g_of_ofEvents]
    exact hL.above j hj'
   ·obtain ⟨Shun,hs,hP⟩:=hB.past
    exact ⟨Shun,hs,hP.mute (by omega) hm⟩
theorem fin_of_pick {w0:World} (hstep:∀ (gs:Array Goroutine) (w:World) (sl sl':Option (Nat × Nat)) (t:Trace) (q:Nat→Nat) (d:Nat),AtRel w0 w→Beside P S fr cs gs w t q→stepT P (crowd gs w sl)=runT P (crowd gs (w.at d) sl') 0→FinA P Post gs w sl t) :
  ∀ (M:Nat) (gs:Array Goroutine) (w:World) (sl:Option (Nat × Nat)) (t:Trace) (q:Nat→Nat),sumTo gs.size q≤M→AtRel w0 w→Beside P S fr cs gs w t q→FinA P Post gs w sl t:=by
 intro M
 induction M with
 | zero=>exact fun gs w sl t q hM hw hB=>fin_go hstep 0 (fun k _ _ _ _ _ hk=>absurd hk (Nat.not_lt_zero _)) gs w sl t q hM hw hB
 | succ M ih=>exact fun gs w sl t q hM hw hB=>fin_go hstep (M+1) (fun gs' w' sl' t' q' _ hk hw' hB'=>ih gs' w' sl' t' q' (by omega) hw' hB') gs w sl t q hM hw hB
end
end Go.Proofs.YtpcjdalgebgofaaGreatDoor
namespace Go.Proofs.YtpcjdalgebgofaaGreatDoor
open Go Go.Conc Go.ConcX
def dum:Frame:={ fn:=0,tmps:=#[],todo:=[.code (.refuse "")],defers:=[{ target:=.builtin .make #[] 0 #[],args:=#[] }],mode:=.run,kind:=.normal }
abbrev Worldon (v:World) (τ:Tape):World:={ v with tape:=τ }
def deadO:Outcome→Prop
 | .stuck ..=>True
 | .unsupported (Unsupported.elab _) _=>False
 | .unsupported _ _=>True
 | _=>False
def Tgt (Q:Program) (f0:FuncId) (R:Value→World→Prop) (m:Machine):Prop:=∃ fr v x,m=solo (G fr [dum]) v∧fr.fn=f0∧fr.leaving Q v (.returned x)∧R x v
section
variable {Q:Program} {f0:FuncId} {R:Value→World→Prop}
theorem step_dum (v:World):∃ o w,step Q (solo (G dum []) v)=.ended o w:=by
 refine ⟨.unsupported (Unsupported.elab "") (dum.pos Q),v,?_⟩
 rw [step,stepT_solo rfl]
 simp [runT,solo,G,Array.swapAt!,Array.swapAt,stepG,stepG.exec,dum,GStep.es]
theorem step_dum_raise (chain:List PanicEntry) (v:World):∃ o w,step Q (solo (G (dum.raise chain) []) v)=.ended o w:=by
 refine ⟨.stuck "make, new: Elab turns them into operations of their own" (({ dum.raise chain with defers:=[] }:Frame).pos Q),v,?_⟩
 rw [step,stepT_solo rfl]
 simp [runT,solo,G,Array.swapAt!,Array.swapAt,stepG,dum,Frame.raise,unwind,callDeferred,invoke,builtin,stuck,Sem.runT,Sem.run,GStep.es,GStep.after]
theorem tgt_next {m:Machine} (h:Tgt Q f0 R m):∃ v,step Q m=.next (solo (G dum []) v):=by
 obtain ⟨fr,v,x,rfl,_,hl,_⟩:=h
 exact ⟨v,step_leave_returned (c:=dum) (cs:=[]) hl⟩
theorem runN_succ (n:Nat) (m:Machine):runN Q (n+1) m=match step Q m with|.next m=>runN Q n m|e=>e:=rfl
theorem runN_ended {n k:Nat} {m:Machine} {o:Outcome} {w:World} (h:runN Q n m=.ended o w):runN Q (n+k) m=.ended o w:=by
 rw [runN_add,h]
theorem tgt_ends {m:Machine} (h:Tgt Q f0 R m):∃ o w,runN Q 2 m=.ended o w:=by
 obtain ⟨v,hv⟩:=tgt_next h
 obtain ⟨o,w,ho⟩:=step_dum (Q:=Q) v
 refine ⟨o,w,?_⟩
 rw [runN_succ,hv]
 simp only
 rw [runN_succ,ho]
theorem tgt_ends_so {m:Machine} (h:Tgt Q f0 R m):∃ w,runN Q 2 m=.ended (.unsupported (Unsupported.elab "") (dum.pos Q)) w:=by
 obtain ⟨v,hv⟩:=tgt_next h
 refine ⟨v,?_⟩
 rw [runN_succ,hv]
 simp only
 rw [runN_succ,step,stepT_solo rfl]
 simp [runT,solo,G,Array.swapAt!,Array.swapAt,stepG,stepG.exec,dum,GStep.es]
theorem tgt_stuck {m0 m:Machine} {n k:Nat} {o:Outcome} {u:World} (ho:deadO o) (hs:runN Q n m0=.ended o u) (h:runN Q k m0=.next m) (ht:Tgt Q f0 R m):False:=by
 obtain ⟨w,hw⟩:=tgt_ends_so ht
 have h1:runN Q (k+2) m0=.ended (.unsupported (Unsupported.elab "") (dum.pos Q)) w:=by rw [runN_add,h];exact hw
 have a:=runN_ended (k:=k+2) hs
 have b:=runN_ended (k:=n) h1
 rw [Nat.add_comm,b] at a
 cases a
 exact ho
theorem tgt_ahead {m0:Machine} {n K:Nat} {m:Machine} {fr:Frame} {cs:List Frame} {v:World} (h:runN Q n m0=.next m) (ht:Tgt Q f0 R m) (hK:runN Q K m0=.next (solo (G fr (cs ++ [dum])) v)):K≤n∧runN Q (n - K) (solo (G fr (cs ++ [dum])) v)=.next m:=by
 rcases Nat.lt_or_ge n K with hlt|hge
 ·exfalso
  obtain ⟨u,hu⟩:=tgt_next ht
  obtain ⟨o,w,ho⟩:=tgt_ends ht
  rcases Nat.lt_or_ge (n+1) K with h2|h2
  ·have:=runN_ended (k:=K - (n+2)) (show runN Q (n+2) m0=.ended o w by rw [runN_add,h];exact ho)
   rw [show n+2+(K - (n+2))=K by omega,hK] at this
   cases this
  ·have hKn:K=n+1:=by omega
   have:runN Q (n+1) m0=.next (solo (G dum []) u):=by
    rw [runN_add,h]
    show runN Q 1 m=_
    rw [runN_succ,hu]
    rfl
   rw [← hKn,hK] at this
   simp only [Stepped.next.injEq,solo,Machine.mk.injEq,Array.mk.injEq,List.cons.injEq,G,Goroutine.mk.injEq] at this
   simp at this
 ·refine ⟨hge,?_⟩
  have:=h
  rw [show n=K+(n - K) by omega,runN_add,hK] at this
  exact this
end
section
variable {P:Program} {F:Array Func} {Spec:FuncId→Prop} {fr fr':Frame} {cs cs' dl:List Frame} {v v':World}
theorem on_alike (h:okHeap P F v) {τ τ':Tape} {n:Nat} (hag:∀ (i:Nat) (q:Question),v.drawn≤i→i<n→τ i q=τ' i q):Alike (okObj P F) (fun _=>none) ⟨n,0,0,τ,τ'⟩ (Worldon v τ) (Worldon v τ') :=
 ⟨rfl,rfl,rfl,fun _ _=>rfl,fun _ _ h=>(by cases h),h,rfl,rfl,rfl,fun i q h1 h2=>hag i q h1 h2⟩
theorem alike_on {τ τ':Tape} {n:Nat} {w':World} (h:Alike (okObj P F) (fun _=>none) ⟨n,0,0,τ,τ'⟩ v' w'):w'=Worldon v' τ':=by
 have hh:v'.heap=w'.heap:=Array.ext_getElem? fun i=>h.block i rfl
 obtain ⟨a1,a2,a3,a4,a5⟩:=v'
 obtain ⟨b1,b2,b3,b4,b5⟩:=w'
 have e1:=h.os
 have e2:=h.output
 have e3:=h.lag
 have e4:=h.wt
 simp only at e1 e2 e3 e4 hh
 subst e1 e2 e4 hh
 simp only [Worldon,World.mk.injEq,true_and,and_true]
 omega
theorem step_local (hk:Kin (withF P F) F Spec) (hg:okG (withF P F) F fr cs) (hh:okHeap (withF P F) F v) (hnb:cs=[]→fr.mode≠.run→fr.defers≠[]) {τ τ':Tape} {g':Goroutine} {q:Array Event} (h:stepG (withF P F) true (G fr (cs ++ dl)) (Worldon v τ)=.go g' v' q)
  (hag:∀ (i:Nat) (q:Question),v.drawn≤i→i<v'.drawn→τ i q=τ' i q):∃ q2,stepG (withF P F) true (G fr (cs ++ dl)) (Worldon v τ')=.go g' (Worldon v' τ') q2:=by
 have key:=stepG_sim (P:=withF P F) (F:=F) (dl:=dl) (dr:=dl) hk hg hnb (fun i o hi=>by cases hi) (on_alike (P:=withF P F) (F:=F) hh hag)
 cases key with
 | ended o u q' h'=>rw [show stepG (withF P F) true (G fr (cs ++ dl)) (Worldon v τ)=_ from h'] at h;cases h
 | comm a b c sh u q' h'=>rw [show stepG (withF P F) true (G fr (cs ++ dl)) (Worldon v τ)=_ from h'] at h;cases h
 | go a b u q' h' _ _ _ k =>
  rw [show stepG (withF P F) true (G fr (cs ++ dl)) (Worldon v τ)=_ from h'] at h
  cases h
  obtain ⟨w',es,h1,h2,_⟩:=k (Nat.le_refl _)
  rw [alike_on h2] at h1
  exact ⟨es,h1⟩
 | spec f as kd a b u q' _ _ h' _ _ _ k =>
  rw [show stepG (withF P F) true (G fr (cs ++ dl)) (Worldon v τ)=_ from h'] at h
  cases h
  obtain ⟨w',es,h1,h2,_⟩:=k (Nat.le_refl _)
  rw [alike_on h2] at h1
  exact ⟨es,h1⟩
theorem comm_local (hk:Kin (withF P F) F Spec) (hg:okG (withF P F) F fr cs) (hh:okHeap (withF P F) F v) (hnb:cs=[]→fr.mode≠.run→fr.defers≠[]) {τ τ':Tape} {g':Goroutine} {c:CommCase} {sh:CommShape} {q:Array Event} (h:stepG (withF P F) true (G fr (cs ++ dl)) (Worldon v τ)=.comm g' #[c] true sh v' q)
  (hag:∀ (i:Nat) (q:Question),v.drawn≤i→i<v'.drawn→τ i q=τ' i q):∃ q2,stepG (withF P F) true (G fr (cs ++ dl)) (Worldon v τ')=.comm g' #[c] true sh (Worldon v' τ') q2:=by
 have key:=stepG_sim (P:=withF P F) (F:=F) (dl:=dl) (dr:=dl) hk hg hnb (fun i o hi=>by cases hi) (on_alike (P:=withF P F) (F:=F) hh hag)
 cases key with
 | ended o u q' h'=>rw [show stepG (withF P F) true (G fr (cs ++ dl)) (Worldon v τ)=_ from h'] at h;cases h
 | go a b u q' h'=>rw [show stepG (withF P F) true (G fr (cs ++ dl)) (Worldon v τ)=_ from h'] at h;cases h
 | spec f as kd a b u q' _ _ h'=>rw [show stepG (withF P F) true (G fr (cs ++ dl)) (Worldon v τ)=_ from h'] at h;cases h
 | comm a b c' sh' u q' h' _ _ _ k =>
  rw [show stepG (withF P F) true (G fr (cs ++ dl)) (Worldon v τ)=_ from h'] at h
  cases h
  obtain ⟨w',es,h1,h2,_⟩:=k (Nat.le_refl _)
  rw [alike_on h2] at h1
  exact ⟨es,h1⟩
end
end Go.Proofs.YtpcjdalgebgofaaGreatDoor
namespace Go.Proofs.YtpcjdalgebgofaaGreatDoor
open Go Go.Conc Go.ConcX
section
variable {P:Program} {F:Array Func}
theorem okOp_f (r:Bool) (o:Op):okOp (withF P F) r o=okOp P r o:=by cases o <;> rfl
theorem okCode_f (r:Bool) (c:Code):okCode (withF P F) r c=okCode P r c:=by
 induction c generalizing r with
 | seq a b iha ihb=>simp only [okCode,iha,ihb]
 | cond c a b iha ihb=>simp only [okCode,iha,ihb]
 | rangeFunc f p a b iha ihb=>simp only [okCode,iha,ihb]
 | block i b ih=>simp only [okCode,ih]
 | loop b ih=>simp only [okCode,ih]
 | scope b ih=>simp only [okCode,ih]
 | region i ops d=>simp only [okCode,okOp_f]
 | _=>rfl
theorem okObj_f {o:Obj} (h:okObj P F o):okObj (withF P F) F o:=by
 cases o with
 | loop l=>exact ⟨by rw [okCode_f];exact h.1,by rw [okCode_f];exact h.2.1,rfl,h.2.2.2⟩
 | deferred ds=>cases ds <;> exact h
 | _=>exact h
theorem okHeap_f {v:World} (h:okHeap P F v):okHeap (withF P F) F v:=fun i o ho=>okObj_f (h i o ho)
theorem okItem_f {r:Bool} {it:Item} (h:okItem P r it):okItem (withF P F) r it:=by
 cases it with
 | code c=>show okCode _ _ _=true;rw [okCode_f];exact h
 | inLoop c=>show okCode _ _ _=true;rw [okCode_f];exact h
 | inScope c=>show okCode _ _ _=true;rw [okCode_f];exact h
 | inRegion ops t=>exact fun o ho=>by rw [okOp_f];exact h o ho
 | _=>exact h
theorem okFr_f {fr:Frame} (h:okFr P F fr):okFr (withF P F) F fr:=⟨fun it hit=>okItem_f (h.items it hit),h.defers,h.kind,rfl⟩
theorem okG_f {fr:Frame} {cs:List Frame} (h:okG P F fr cs):okG (withF P F) F fr cs:=⟨okFr_f h.top,fun c hc=>okFr_f (h.rest c hc),h.bot⟩
end
structure Twin (Ok:Obj→Prop) (S:Nat→Option Obj) (v w:World):Prop where
 os:v.os=w.os
 output:v.output=w.output
 size:v.heap.size=w.heap.size
 block:∀ i:Nat,S i=none→v.heap[i]?=w.heap[i]?
 shun:∀ (i:Nat) (o:Obj),S i=some o→v.heap[i]?=some poison∧w.heap[i]?=some o∧okS o
 ok:∀ (i:Nat) (o:Obj),v.heap[i]?=some o→Ok o
theorem Alike.twin {Ok:Obj→Prop} {S:Nat→Option Obj} {e:Lim} {v w:World} (h:Alike Ok S e v w):Twin Ok S v w:=⟨h.os,h.output,h.size,h.block,h.shun,h.ok⟩
def onTape (τ:Tape) (n:Nat) (w:World):Tape:=fun i q=>if i<n then τ i q else w.tape (i+w.drawn - n) q
theorem Twin.alike {Ok:Obj→Prop} {S:Nat→Option Obj} {v w:World} (h:Twin Ok S v w) (τ:Tape) (n:Nat):Alike Ok S ⟨n,v.drawn,w.drawn,onTape τ v.drawn w,w.tape⟩ (Worldon v (onTape τ v.drawn w)) w :=
 ⟨h.os,h.output,h.size,h.block,h.shun,h.ok,rfl,rfl,Nat.add_comm _ _,fun i q h1 _=>by
  have h1':v.drawn≤i:=h1
  simp [onTape,Nat.not_lt.2 h1']⟩
theorem onTape_old (τ:Tape) {n i:Nat} (w:World) (q:Question) (h:i<n):onTape τ n w i q=τ i q:=by simp [onTape,h]
structure SOK (P:Program) (S0:Nat→Option Obj) (base:Nat) (S:Nat→Option Obj):Prop where
 glob:∀ (i:Nat) (o:Obj),S i=some o→P.globals.size+5≤i
 old:∀ i,i<base→S i=S0 i
structure Setup where
 P:Program
 F:Array Func
 Spec:FuncId→Prop
 f0:FuncId
 fr0:Frame
 v0:World
 S0:Nat→Option Obj
 R:Value→World→Prop
 Post:Value→World→Prop
structure St where
 fr:Frame
 cs:List Frame
 v:World
 τ:Tape
section
variable (X:Setup)
def Setup.Q:Program:=withF X.P X.F
def Setup.start (τ:Tape):Machine:=solo (G X.fr0 [dum]) (Worldon X.v0 τ)
def St.at (σ:St) (τ:Tape):Machine:=solo (G σ.fr (σ.cs ++ [dum])) (Worldon σ.v τ)
structure Inv (n:Nat) (σ:St):Prop where
 g:okG X.P X.F σ.fr σ.cs
 h:okHeap X.P X.F σ.v
 base:X.v0.heap.size≤σ.v.heap.size
 hist:∀ τ:Tape,(∀ (i:Nat) (q:Question),i<σ.v.drawn→τ i q=σ.τ i q)→∃ K,n≤K∧runN X.Q K (X.start τ)=.next (σ.at τ)
def Setup.Comes:Prop:=∀ τ:Tape,∃ n m,runN X.Q n (X.start τ)=.next m∧Tgt X.Q X.f0 X.R m
def WellEnds (σ:St):Prop:=∀ (S:Nat→Option Obj),SOK X.P X.S0 X.v0.heap.size S→∀ (gs:Array Goroutine) (w:World) (sl:Option (Nat × Nat)) (t:Trace) (q:Nat→Nat),Beside X.P S σ.fr σ.cs gs w t q→Twin (okObj X.P X.F) S σ.v w→FinA X.P X.Post gs w sl t
structure Next (σ σ':St):Prop where
 drawn:σ.v.drawn≤σ'.v.drawn
 tape:∀ (i:Nat) (q:Question),i<σ.v.drawn→σ'.τ i q=σ.τ i q
def SpecOK (P:Program) (F:Array Func) (f:FuncId):Prop:=∀ (args:Array Value) (kd:CallKind) (c:Frame) (cs:List Frame) (v:World),(kd=.normal∨kd=.deferred)→okG P F c cs→okHeap P F v→P.globals.size+5≤v.heap.size →
 (∀ (dl:List Frame) (τ:Tape),∃ n o u,deadO o∧runN (withF P F) n (solo (G (Frame.enter (withF P F) f args kd) (c :: cs ++ dl)) (Worldon v τ))=.ended o u) ∨
 ∃ (c':Frame) (v':World),okG P F c' cs∧okHeap P F v'∧v'.drawn=v.drawn∧v.heap.size≤v'.heap.size ∧
  (∀ (dl:List Frame) (τ:Tape),∃ k,0<k∧runN (withF P F) k (solo (G (Frame.enter (withF P F) f args kd) (c :: cs ++ dl)) (Worldon v τ))=.next (solo (G c' (cs ++ dl)) (Worldon v' τ))) ∧
  ∀ (S:Nat→Option Obj) (gs:Array Goroutine) (w:World) (sl:Option (Nat × Nat)) (t:Trace) (q:Nat→Nat),(∀ (i:Nat) (o:Obj),S i=some o→P.globals.size+5≤i)→Beside P S (Frame.enter P f args kd) (c :: cs) gs w t q→Twin (okObj P F) S v w →
   ∃ (N:Nat) (gs':Array Goroutine) (w':World) (sl':Option (Nat × Nat)) (t':Trace) (q':Nat→Nat) (S':Nat→Option Obj),runNT P N (crowd gs w sl) t=(.next (crowd gs' w' sl'),t')∧Beside P S' c' cs gs' w' t' q'∧Twin (okObj P F) S' v' w' ∧
    (∀ i,i<v.heap.size→S' i=S i)∧∀ (i:Nat) (o:Obj),S' i=some o→P.globals.size+5≤i
end
section
variable {X:Setup} {n:Nat} {σ:St}
theorem Inv.goes (hc:X.Comes) (hi:Inv X n σ) {τ:Tape} (hτ:∀ (i:Nat) (q:Question),i<σ.v.drawn→τ i q=σ.τ i q):∃ k m,runN X.Q k (σ.at τ)=.next m∧Tgt X.Q X.f0 X.R m:=by
 obtain ⟨N,m,h1,h2⟩:=hc τ
 obtain ⟨K,_,h3⟩:=hi.hist τ hτ
 obtain ⟨_,h4⟩:=tgt_ahead h1 h2 h3
 exact ⟨_,m,h4,h2⟩
theorem Tgt.bottom {Q:Program} {f0:FuncId} {R:Value→World→Prop} {fr:Frame} {cs:List Frame} {v:World} (h:Tgt Q f0 R (solo (G fr (cs ++ [dum])) v)):cs=[]∧fr.mode≠.run∧fr.defers=[]∧fr.fn=f0∧∃ x,fr.leaving Q v (.returned x)∧R x v:=by
 obtain ⟨fr',v',x,he,hf,hl,hr⟩:=h
 simp only [solo,G,Machine.mk.injEq,Array.mk.injEq,List.cons.injEq,Goroutine.mk.injEq,and_true] at he
 obtain ⟨rfl,⟨rfl,hcs⟩⟩:=he
 have:cs=[]:=by
  cases cs with
  | nil=>rfl
  | cons c cs=>simp at hcs
 refine ⟨this,?_,hl.2.1,hf,x,hl,hr⟩
 rw [hl.1]
 simp
end
end Go.Proofs.YtpcjdalgebgofaaGreatDoor
namespace Go.Proofs.YtpcjdalgebgofaaGreatDoor
open Go Go.Conc Go.ConcX
section
variable {Q:Program} {f0:FuncId} {R:Value→World→Prop} {g g':Goroutine} {v v':World}
theorem step_solo_to (hs:g.status=.running) {q:Array Event} (h:stepG Q true g v=.go g' v' q):step Q (solo g v)=.next (solo g' v'):=by
 rw [step,stepT_solo hs,runT_solo_go h]
theorem step_solo_ended (hs:g.status=.running) {o:Outcome} {q:Array Event} (h:stepG Q true g v=.ended o v' q):step Q (solo g v)=.ended o v':=by
 rw [step,stepT_solo hs]
 simp [runT,solo,Array.swapAt!,Array.swapAt,h,GStep.es]
theorem not_ahead_ended {m0 m:Machine} {o:Outcome} {w:World} (h:step Q m0=.ended o w) {k:Nat} (hk:runN Q k m0=.next m):k=0∧m=m0:=by
 cases k with
 | zero=>cases hk;exact ⟨rfl,rfl⟩
 | succ k=>rw [runN_succ,h] at hk;cases hk
theorem blocked_ends (hs:g.status=.blocked):∃ o w,step Q (solo g v)=.ended o w:=by
 have hm:∃ o w ops,move Q (solo g v)=.machine (.ended o w) ops:=by
  simp only [move,ask,askOn,solo,runnable_eq,due,ahead,Goroutine.canRun,List.range_succ,choose,pure,Sem.run,hs]
  simp [hs]
  split
  ·exact ⟨_,_,_,rfl⟩
  ·exact ⟨_,_,_,rfl⟩
 obtain ⟨o,w,ops,hm⟩:=hm
 exact ⟨o,w,by simp [step,stepT,hm]⟩
theorem stepG_unwind {fr:Frame} {l:List Frame} (hm:fr.mode≠.run):stepG Q true (G fr l) v=unwind Q true fr l none v:=by
 unfold stepG G
 obtain ⟨fn,tmps,todo,defers,mode,kind,ro⟩:=fr
 cases mode <;> first|exact absurd rfl hm|rfl
theorem bottom_step {fr:Frame} (hk:fr.kind=.normal) (hm:fr.mode≠.run) (hd:fr.defers=[]) (hc:fr.catches Q=false) {m:Machine} (h:step Q (solo (G fr [dum]) v)=.next m):∃ o w,step Q m=.ended o w∧∀ fr' cs' u,m≠solo (G fr' (cs' ++ [dum])) u:=by
 have fin:∀ (c:Frame) (u:World),(∃ o w,step Q (solo (G c []) u)=.ended o w)→m=solo (G c []) u→∃ o w,step Q m=.ended o w∧∀ fr' cs' u,m≠solo (G fr' (cs' ++ [dum])) u:=by
  rintro c u ⟨o,w,ho⟩ rfl
  refine ⟨o,w,ho,fun fr' cs' u' he=>?_⟩
  simp [solo,G] at he
 have go:∀ (c:Frame) (u:World) (q:Array Event),stepG Q true (G fr [dum]) v=.go (G c []) u q→(∃ o w,step Q (solo (G c []) u)=.ended o w)→∃ o w,step Q m=.ended o w∧∀ fr' cs' u,m≠solo (G fr' (cs' ++ [dum])) u:=fun c u q hg he=>by
  rw [step_solo_to rfl hg] at h
  cases h
  exact fin c u he rfl
 have no:∀ (o:Outcome) (u:World) (q:Array Event),stepG Q true (G fr [dum]) v=.ended o u q→∃ o w,step Q m=.ended o w∧∀ fr' cs' u,m≠solo (G fr' (cs' ++ [dum])) u:=fun o u q hg=>by
  rw [step_solo_ended rfl hg] at h
  cases h
 have e1:=stepG_unwind (Q:=Q) (v:=v) (l:=[dum]) hm
 rw [e1] at go no
 unfold unwind at go no
 rw [hd] at go no
 cases hmd:fr.mode with
 | run=>exact absurd hmd hm
 | panicking chain =>
  simp only [hmd,hc,Bool.false_eq_true,if_false] at go
  exact go _ _ _ rfl (step_dum_raise chain v)
 | returning =>
  simp only [hmd] at go no
  have dr:∀ (x:Value) (u:World),doReturn Q true fr [dum] none x u=.go (G dum []) u:=fun x u=>by
   rw [doReturn_mid (.inl hk),if_pos hk]
   rfl
  cases hf:Q.funcs[fr.fn]? with
  | none =>
   simp only [hf,dr] at go
   exact go _ _ _ rfl (step_dum _)
  | some fn =>
   simp only [hf,Sem.runT_eq] at go no
   cases hr:(results fn fr.tmps).run Q v with
   | ok x u =>
    simp only [hr,dr] at go
    exact go _ _ _ rfl (step_dum _)
   | halt y u =>
    simp only [hr] at no
    cases y <;> exact no _ _ _ rfl
end
section
variable {P:Program} {F:Array Func}
theorem alike_unique {Ok:Obj→Prop} {S:Nat→Option Obj} {e:Lim} {v w w':World} (h:Alike Ok S e v w) (h':Alike Ok S e v w'):w=w':=by
 have hh:w.heap=w'.heap:=by
  refine Array.ext_getElem? fun i=>?_
  cases hs:S i with
  | none=>rw [← h.block i hs,← h'.block i hs]
  | some o=>rw [(h.shun i o hs).2.1,(h'.shun i o hs).2.1]
 have e1:=h.os.symm.trans h'.os
 have e2:=h.output.symm.trans h'.output
 have e3:=h.lag
 have e4:=h'.lag
 have e5:=h.wt.trans h'.wt.symm
 obtain ⟨a1,a2,a3,a4,a5⟩:=w
 obtain ⟨b1,b2,b3,b4,b5⟩:=w'
 simp only at e1 e2 e3 e4 e5 hh
 subst e1 e2 e5 hh
 simp only [World.mk.injEq,true_and,and_true]
 omega
end
section
variable {X:Setup} {n:Nat} {σ:St}
theorem Inv.bottom (hc:X.Comes) (hi:Inv X n σ) {τ:Tape} (hτ:∀ (i:Nat) (q:Question),i<σ.v.drawn→τ i q=σ.τ i q) (h0:σ.cs=[]) (hm:σ.fr.mode≠.run) (hd:σ.fr.defers=[]):Tgt X.Q X.f0 X.R (σ.at τ):=by
 obtain ⟨k,m,hk,ht⟩:=hi.goes hc hτ
 cases k with
 | zero=>cases hk;exact ht
 | succ k =>
  exfalso
  rw [runN_succ] at hk
  cases hst:step X.Q (σ.at τ) with
  | ended o w=>rw [hst] at hk;cases hk
  | next m1 =>
   rw [hst] at hk
   have hb:=hi.g.bot.1
   rw [h0] at hb
   obtain ⟨o,w,ho,hne⟩:=bottom_step (Q:=X.Q) (fr:=σ.fr) (v:=Worldon σ.v τ) hb hm hd (catches_no hi.g.top _) (m:=m1) (by rw [← hst];unfold St.at;rw [h0];rfl)
   obtain ⟨_,rfl⟩:=not_ahead_ended ho hk
   obtain ⟨fr,v,x,he,_⟩:=ht
   exact hne fr [] v he
theorem Inv.must (hc:X.Comes) (hi:Inv X n σ) {τ:Tape} (hτ:∀ (i:Nat) (q:Question),i<σ.v.drawn→τ i q=σ.τ i q) (hnb:σ.cs=[]→σ.fr.mode≠.run→σ.fr.defers≠[]):∃ k m m1,step X.Q (σ.at τ)=.next m1∧runN X.Q k m1=.next m∧Tgt X.Q X.f0 X.R m:=by
 obtain ⟨k,m,hk,ht⟩:=hi.goes hc hτ
 cases k with
 | zero =>
  cases hk
  obtain ⟨h1,h2,h3,_⟩:=Tgt.bottom ht
  exact absurd h3 (hnb h1 h2)
 | succ k =>
  rw [runN_succ] at hk
  cases hst:step X.Q (σ.at τ) with
  | ended o w=>rw [hst] at hk;cases hk
  | next m1=>rw [hst] at hk;exact ⟨k,m,m1,rfl,hk,ht⟩
end
end Go.Proofs.YtpcjdalgebgofaaGreatDoor
namespace Go.Proofs.YtpcjdalgebgofaaGreatDoor
open Go Go.Conc Go.ConcX
section
variable {X:Setup} {n:Nat} {σ:St}
structure Setup.OK (X:Setup):Prop where
 kin:Kin X.P X.F X.Spec
 kinQ:Kin X.Q X.F X.Spec
 spec:∀ f,X.Spec f→SpecOK X.P X.F f
 comes:X.Comes
 big:X.P.globals.size+5≤X.v0.heap.size
 noInit:X.P.inits.idxOf? X.f0=none
 post:∀ (x:Value) (v w:World) (S:Nat→Option Obj),SOK X.P X.S0 X.v0.heap.size S→Twin (okObj X.P X.F) S v w→X.R x v→X.Post x w
theorem twin_at {Ok:Obj→Prop} {S:Nat→Option Obj} {v w w':World} (h:Twin Ok S v w) (r:AtRel w w'):Twin Ok S v w':=by
 obtain ⟨d,rfl⟩:=r
 exact ⟨h.os,h.output,h.size,h.block,h.shun,h.ok⟩
theorem atRel_heap {w w':World} (r:AtRel w w'):w'.heap=w.heap:=by
 obtain ⟨d,rfl⟩:=r
 rfl
theorem fin_bottom (hX:X.OK) (hi:Inv X n σ) (h0:σ.cs=[]) (hm:σ.fr.mode≠.run) (hd:σ.fr.defers=[]):WellEnds X σ:=by
 intro S hS gs w sl t q hB hT
 obtain ⟨Shun,hSh,hP⟩:=hB.past
 refine beside_ends (P:=X.P) (Shun:=Shun) (B:=w.heap.size) (D:=fun _ _ _=>False) (Post:=X.Post) (n:=0) (fun _ _ _ h=>h.elim) hB.h0 hB.leav hP ?_
 intro w1 r1
 have hT1:=twin_at hT r1
 have hal:=hT1.alike σ.τ σ.v.drawn
 have hτ:∀ (i:Nat) (q:Question),i<σ.v.drawn→onTape σ.τ σ.v.drawn w1 i q=σ.τ i q:=fun i q hi'=>onTape_old _ _ _ hi'
 obtain ⟨_,_,_,hf,x,hl,hr⟩:=Tgt.bottom (hi.bottom hX.comes hτ h0 hm hd)
 obtain ⟨hl1,hl2,hl3,fn,hfn,hres⟩:=hl
 have hfnP:X.P.funcs[σ.fr.fn]?=some fn:=hi.g.top.fn.symm.trans hfn
 rcases (fit_results (P:=X.P) (F:=X.F) (N:=fun _=>False) fn σ.fr.tmps).ran (fun i o hi'=>⟨hS.glob i o hi',id⟩) hal with hb|⟨r,hrun,hgd,hh,hdr,k⟩
 ·rw [show (results fn σ.fr.tmps).run (withF X.P X.F) _=_ from hres] at hb
  exact hb.elim
 ·rw [show (results fn σ.fr.tmps).run (withF X.P X.F) _=_ from hres] at hrun
  subst hrun
  obtain ⟨w',es,h1,h2,h3,h4,h5⟩:=k (Nat.le_refl _)
  obtain rfl:=alike_unique hal h3
  have hcs:(G σ.fr σ.cs)=G σ.fr []:=by rw [h0]
  refine ⟨rfl,x,seen X.P X.f0 es ++ #[],?_,fun e he=>?_,hX.post x _ _ S hS hal.twin hr⟩
  ·rw [hcs,stepG_unwind hm]
   unfold unwind
   simp only [hl2,hl1]
   rw [hfnP]
   simp only [Sem.runT_eq,h1,h2,Res.put,doReturn,hl3,hf,hX.noInit,GStep.after,Bool.not_true,Bool.false_eq_true,if_false]
  ·refine evL_of (h5 X.f0 e (by simpa using he)) hSh ?_
   rw [atRel_heap r1]
   exact Nat.le_refl _
theorem Inv.next (hi:Inv X n σ) {τ:Tape} (hτ:∀ (i:Nat) (q:Question),i<σ.v.drawn→τ i q=σ.τ i q) {fr':Frame} {cs':List Frame} {v':World} (hg:okG X.P X.F fr' cs') (hh:okHeap X.P X.F v') (hd:σ.v.drawn≤v'.drawn) (hs:σ.v.heap.size≤v'.heap.size)
  (h:∀ τ2:Tape,(∀ (i:Nat) (q:Question),σ.v.drawn≤i→i<v'.drawn→τ i q=τ2 i q)→∃ k,0<k∧runN X.Q k (σ.at τ2)=.next (solo (G fr' (cs' ++ [dum])) (Worldon v' τ2))):Inv X (n+1) ⟨fr',cs',v',τ⟩∧Next σ ⟨fr',cs',v',τ⟩:=by
 refine ⟨⟨hg,hh,Nat.le_trans hi.base hs,fun τ2 h2=>?_⟩,hd,hτ⟩
 obtain ⟨K,hK,hr⟩:=hi.hist τ2 fun i q hlt=>(h2 i q (Nat.lt_of_lt_of_le hlt hd)).trans (hτ i q hlt)
 obtain ⟨k,hk,hr2⟩:=h τ2 fun i q _ hlt=>(h2 i q hlt).symm
 refine ⟨K+k,by omega,?_⟩
 rw [runN_add,hr]
 exact hr2
theorem Beside.go {S:Nat→Option Obj} {fr fr':Frame} {cs cs':List Frame} {gs:Array Goroutine} {w w':World} {t:Trace} {q:Nat→Nat} (h:Beside X.P S fr cs gs w t q) (hs:w.heap.size≤w'.heap.size) {es:Array Event} (he:∀ x ∈ es,EvN S w'.heap.size x) :
  Beside X.P S fr' cs' ((gs.map (Go.Conc.woken X.P (G fr cs) (G fr' cs') w')).setIfInBounds 0 (G fr' cs')) w' (t ++ MemOp.ofEvents 0 (G fr cs).frame.fn (G fr cs).frame.place es) q:=by
 refine ⟨by simp [h.pos],h.leav.own h.pos _ _ _,?_⟩
 obtain ⟨Shun,hSh,hP⟩:=h.past
 have:=Past.step0 (fr:=fr) hP hs hSh he (acts:=[]) (by simp) fr.fn fr.place
 simp only [opsOf,List.map_nil,Array.append_empty] at this
 exact ⟨Shun,hSh,this⟩
theorem Beside.com {S:Nat→Option Obj} {fr fr1 fr':Frame} {cs cs':List Frame} {gs:Array Goroutine} {w w':World} {t:Trace} {q:Nat→Nat} (h:Beside X.P S fr cs gs w t q) (hs:w.heap.size≤w'.heap.size) {es:Array Event} (he:∀ x ∈ es,EvN S w'.heap.size x) {acts:List MemAct} (ha:∀ a ∈ acts,okAct w'.heap.size a) :
  Beside X.P S fr' cs' (gs.setIfInBounds 0 (G fr' cs')) w' (t ++ (MemOp.ofEvents 0 fr.fn fr.place es ++ opsOf fr1 acts)) q:=by
 refine ⟨by simp [h.pos],Leavers.com h.leav h.pos _ fun op hop=>?_,?_⟩
 ·rcases Array.mem_append.1 hop with hop|hop
  ·exact g_of_ofEvents op hop
  ·exact (okAct_keep ha op hop).1
 ·obtain ⟨Shun,hSh,hP⟩:=h.past
  exact ⟨Shun,hSh,Past.step0 (fr:=fr1) hP hs hSh he ha fr.fn fr.place⟩
theorem runT_solo_comm {Q:Program} {fr:Frame} {cs:List Frame} {v v':World} {c:CommCase} {sh:CommShape} {fr1:Frame} {cs1:List Frame} {q:Array Event} (hst:stepG Q true (G fr cs) v=.comm (G fr1 cs1) #[c] true sh v' q) :
  match commOne Q fr1 c sh v' with
  | .stuck=>∃ o w,step Q (solo (G fr cs) v)=.ended o w
  | .block=>step Q (solo (G fr cs) v)=.next (solo { G fr1 cs1 with status:=.blocked,offers:=some (#[c],sh) } v')
  | .to fr' w' acts=>step Q (solo (G fr cs) v)=.next (solo (G fr' cs1) w'):=by
 have key:=communicate_one (P:=Q) (fr:=fr1) (cs:=cs1) (w:=v') (rest:={ timers:=#[],alone:=none,slice:=none }) (gs:=#[{ (default:Goroutine) with status:=.finished }]) (fun r b=>by simp [partners]) rfl c sh
 have e:step Q (solo (G fr cs) v)=(communicate Q { timers:=#[],alone:=none,slice:=none } #[{ (default:Goroutine) with status:=.finished }] 0 (G fr1 cs1) #[c] true sh v').1:=by
  rw [step,stepT_solo rfl]
  simp [runT,solo,Array.swapAt!,Array.swapAt,hst,GStep.es]
 rw [e]
 cases hc:commOne Q fr1 c sh v' with
 | stuck=>rw [hc] at key;exact key
 | block=>rw [hc] at key;rw [key];simp [solo]
 | to a b d=>rw [hc] at key;rw [key];simp [solo]
end
end Go.Proofs.YtpcjdalgebgofaaGreatDoor
namespace Go.Proofs.YtpcjdalgebgofaaGreatDoor
open Go Go.Conc Go.ConcX
section
variable {X:Setup} {n:Nat} {σ:St}
theorem tgt_solo {Q:Program} {f0:FuncId} {R:Value→World→Prop} {g:Goroutine} {v:World} (h:Tgt Q f0 R (solo g v)):g.status=.running∧g.callers=[dum]:=by
 obtain ⟨fr,u,x,he,_⟩:=h
 simp only [solo,Machine.mk.injEq,Array.mk.injEq,List.cons.injEq,and_true] at he
 obtain ⟨_,rfl⟩:=he
 exact ⟨rfl,rfl⟩
theorem commOne_on {Q:Program} {fr fr':Frame} {c:CommCase} {sh:CommShape} {v v':World} {acts:List MemAct} (τ:Tape) (h:commOne Q fr c sh v=.to fr' v' acts):commOne Q fr c sh (Worldon v τ)=.to fr' (Worldon v' τ) acts:=by
 obtain ⟨ch,sd,z⟩:=c
 unfold commOne at h ⊢
 cases ch with
 | chan r =>
  cases r with
  | none=>cases h
  | some r =>
   simp only at h ⊢
   cases hh:v.heap[r]? with
   | none=>rw [hh] at h;cases h
   | some o =>
    rw [hh] at h
    cases o with
    | chan cap buf closed s rc tm =>
     simp only at h ⊢
     cases sd with
     | some x =>
      simp only at h ⊢
      cases closed with
      | true =>
       have e1:∀ (Q:Program) (u:World),(runtimePanic (.plain "send on closed channel"):Sem Unit).run Q u=.halt (.panic (.iface Q.rt.plainError (strVal "send on closed channel"))) u:=fun _ _=>rfl
       simp only [if_true,e1] at h ⊢
       cases h
       rfl
      | false =>
       simp only [Bool.false_eq_true,if_false] at h ⊢
       split at h
       ·rename_i hc
        rw [if_pos hc]
        cases h
        rfl
       ·cases h
     | none =>
      simp only at h ⊢
      by_cases hc:buf.size > 0
      ·simp only [hc,if_true] at h ⊢
       cases h
       rfl
      ·simp only [hc,if_false] at h ⊢
       cases closed with
       | true =>
        simp only [if_true] at h ⊢
        cases h
        rfl
       | false=>cases h
    | _=>cases h
 | _=>cases h
theorem fin_step (hX:X.OK) (hi:Inv X n σ) (hnb:σ.cs=[]→σ.fr.mode≠.run→σ.fr.defers≠[]) (hnext:∀ σ',Inv X (n+1) σ'→Next σ σ'→WellEnds X σ'):WellEnds X σ:=by
 intro S hS gs w sl t q hB hT
 refine fin_of_pick (w0:=w) ?_ _ gs w sl t q (Nat.le_refl _) ⟨w.drawn,rfl⟩ hB
 clear hB gs sl t q
 intro gs w1 sl sl' t q d r1 hB hst
 have hT2:Twin (okObj X.P X.F) S σ.v (w1.at d):=twin_at hT (AtRel.trans r1 ⟨d,rfl⟩)
 generalize hw2:w1.at d=w2 at *
 have hs2:w2.heap=w1.heap:=by subst hw2;rfl
 have hτ:∀ (i:Nat) (q:Question),i<σ.v.drawn→onTape σ.τ σ.v.drawn w2 i q=σ.τ i q:=fun i q h=>onTape_old _ _ _ h
 obtain ⟨k,m,m1,hm1,hkm,hTg⟩:=hi.must hX.comes hτ hnb
 have hSg:∀ (i:Nat) (o:Obj),S i=some o→X.P.globals.size+5≤i:=hS.glob
 have sim:=fun N=>stepG_sim (Spec:=X.Spec) (dl:=[dum]) (dr:=[]) hX.kin hi.g hnb hSg (hT2.alike σ.τ N)
 have loc:=fun {g'} {v'} {qq} (h:stepG X.Q true (G σ.fr (σ.cs ++ [dum])) (Worldon σ.v (onTape σ.τ σ.v.drawn w2))=.go g' v' qq) (τ2:Tape) (hag:∀ (i:Nat) (q:Question),σ.v.drawn≤i→i<v'.drawn→onTape σ.τ σ.v.drawn w2 i q=τ2 i q)=>step_local (P:=X.P) (F:=X.F) (dl:=[dum]) hX.kinQ (okG_f hi.g) (okHeap_f hi.h) hnb h hag
 have locc:=fun {g'} {c} {sh} {v'} {qq} (h:stepG X.Q true (G σ.fr (σ.cs ++ [dum])) (Worldon σ.v (onTape σ.τ σ.v.drawn w2))=.comm g' #[c] true sh v' qq) (τ2:Tape) (hag:∀ (i:Nat) (q:Question),σ.v.drawn≤i→i<v'.drawn→onTape σ.τ σ.v.drawn w2 i q=τ2 i q)=>comm_local (P:=X.P) (F:=X.F) (dl:=[dum]) hX.kinQ (okG_f hi.g) (okHeap_f hi.h) hnb h hag
 cases hr:stepG X.Q true (G σ.fr (σ.cs ++ [dum])) (Worldon σ.v (onTape σ.τ σ.v.drawn w2)) with
 | ended o v' qq =>
  have h1:step X.Q (σ.at (onTape σ.τ σ.v.drawn w2))=.ended o v':=step_solo_ended rfl hr
  rw [h1] at hm1
  cases hm1
 | go g' v' qq =>
  have h1:step X.Q (σ.at (onTape σ.τ σ.v.drawn w2))=.next (solo g' v'):=step_solo_to rfl hr
  rw [h1] at hm1
  cases hm1
  have key:=sim v'.drawn
  rw [show stepG (withF X.P X.F) true (G σ.fr (σ.cs ++ [dum])) (Worldon σ.v (onTape σ.τ σ.v.drawn w2))=_ from hr] at key
  have loc:=loc hr
  cases key with
  | go fr' cs' u qq' h hg hh hd kk =>
   cases h
   obtain ⟨w',es,e1,e2,e3⟩:=kk (Nat.le_refl _)
   obtain ⟨hi',hn'⟩:=hi.next hτ hg hh hd.1 hd.2 fun τ2 h2=>by
    obtain ⟨q2,e⟩:=loc τ2 h2
    refine ⟨1,Nat.one_pos,?_⟩
    rw [runN_succ,show step X.Q (σ.at τ2)=_ from step_solo_to rfl e]
    rfl
   rw [List.append_nil,List.append_nil] at e1
   have hsz:w1.heap.size≤w'.heap.size:=by
    rw [← e2.size,← hs2,← hT2.size]
    exact hd.2
   refine FinA.pre (K:=1) ?_ (hnext _ hi' hn' S hS _ w' sl' _ q (hB.go hsz e3) e2.twin)
   simp only [runNT,hst]
   rw [runT_crowd_go (P:=X.P) (sl:=sl') (i:=0) hB.h0 (show stepG X.P (0 == 0) (G σ.fr σ.cs) w2=_ from e1)]
  | spec f args kd fr' cs' u qq' hf hkd h hg hh hd kk =>
   cases h
   obtain ⟨w',es,e1,e2,e3⟩:=kk (Nat.le_refl _)
   rcases hX.spec f hf args kd fr' cs' v' hkd hg hh (Nat.le_trans (Nat.le_trans hX.big hi.base) hd.2) with hstuck|⟨c',v2,g1,g2,g3,g4,g5,g6⟩
   ·exfalso
    obtain ⟨n2,o2,u2,ho2,hs2⟩:=hstuck [dum] v'.tape
    exact tgt_stuck ho2 hs2 hkm hTg
   ·obtain ⟨hi',hn'⟩:=hi.next hτ g1 g2 (by rw [g3];exact hd.1) (Nat.le_trans hd.2 g4) fun τ2 h2=>by
     obtain ⟨q2,e⟩:=loc τ2 (by rw [← g3];exact h2)
     obtain ⟨k2,_,e'⟩:=g5 [dum] τ2
     refine ⟨1+k2,by omega,?_⟩
     rw [runN_add,runN_succ,show step X.Q (σ.at τ2)=_ from step_solo_to rfl e]
     exact e'
    rw [List.append_nil,List.append_nil] at e1
    have hsz:w1.heap.size≤w'.heap.size:=by
     rw [← e2.size,← hs2,← hT2.size]
     exact hd.2
    have hB1:=hB.go (fr':=Frame.enter X.P f args kd) (cs':=fr' :: cs') hsz e3
    obtain ⟨N,gs',w3,sl3,t3,q3,S',r1,r2,r3,r4,r5⟩:=g6 S _ w' sl' _ q hSg hB1 e2.twin
    refine FinA.pre (K:=1) (by
     simp only [runNT,hst]
     rw [runT_crowd_go (P:=X.P) (sl:=sl') (i:=0) hB.h0 (show stepG X.P (0 == 0) (G σ.fr σ.cs) w2=_ from e1)]) (FinA.pre r1 (hnext _ hi' hn' S' ⟨r5,fun i hlt=>?_⟩ _ w3 sl3 _ q3 r2 r3))
    rw [r4 i (Nat.lt_of_lt_of_le hlt (Nat.le_trans hi.base hd.2))]
    exact hS.old i hlt
  | ended o u qq' h=>cases h
  | comm a b c sh u qq' h=>cases h
 | comm g1 cs1 bl sh v' qq =>
  have key:=sim v'.drawn
  rw [show stepG (withF X.P X.F) true (G σ.fr (σ.cs ++ [dum])) (Worldon σ.v (onTape σ.τ σ.v.drawn w2))=_ from hr] at key
  cases key with
  | comm fr1 cs' c sh' u qq' h hg hh hd kk =>
   cases h
   obtain ⟨w',es,e1,e2,e3⟩:=kk (Nat.le_refl _)
   have hQ:=runT_solo_comm (Q:=X.Q) hr
   cases hc:commOne X.Q fr1 c sh v' with
   | stuck =>
    rw [hc] at hQ
    obtain ⟨o,u,hQ⟩:=hQ
    rw [show step X.Q (σ.at (onTape σ.τ σ.v.drawn w2))=_ from hQ] at hm1
    cases hm1
   | block =>
    exfalso
    rw [hc] at hQ
    rw [show step X.Q (σ.at (onTape σ.τ σ.v.drawn w2))=_ from hQ] at hm1
    cases hm1
    obtain ⟨o,u,ho⟩:=blocked_ends (Q:=X.Q) (g:={ G fr1 (cs' ++ [dum]) with status:=.blocked,offers:=some (#[c],sh) }) (v:=v') rfl
    obtain ⟨_,rfl⟩:=not_ahead_ended ho hkm
    have:=(tgt_solo hTg).1
    cases this
   | to fr2 v2 acts =>
    obtain ⟨c1,c2,c3,c4,w3,c5,c6,c7⟩:=com_sim hg hSg e2 hc
    obtain ⟨hi',hn'⟩:=hi.next hτ c1 c2 (by rw [c3];exact hd.1) (by rw [c4];exact hd.2) fun τ2 h2=>by
     obtain ⟨q2,e⟩:=locc hr τ2 (by rw [← c3];exact h2)
     have hQ2:=runT_solo_comm (Q:=X.Q) e
     rw [commOne_on τ2 hc] at hQ2
     refine ⟨1,Nat.one_pos,?_⟩
     rw [runN_succ,show step X.Q (σ.at τ2)=_ from hQ2]
     rfl
    rw [List.append_nil] at e1
    have hsz:w1.heap.size≤w3.heap.size:=by
     rw [← c6.size,c4,← hs2,← hT2.size]
     exact hd.2
    refine FinA.pre (K:=1) ?_ (hnext _ hi' hn' S hS _ w3 sl' _ q (hB.com (fr1:=fr1) hsz (es:=es) (fun x hx=>(e3 x hx).more (by rw [← c6.size,c4,e2.size];exact Nat.le_refl _)) c7) c6.twin)
    have hrt:=runT_comm (sl:=sl') hB d (by rw [hw2];simpa using e1) c5
    rw [hw2] at hrt
    simp only [runNT,hst,hrt]
  | ended o u qq' h=>cases h
  | go a b u qq' h=>cases h
  | spec f args kd fr' cs' u qq' hf hkd h=>cases h
 | _ =>
  have key:=sim 0
  rw [show stepG (withF X.P X.F) true (G σ.fr (σ.cs ++ [dum])) (Worldon σ.v (onTape σ.τ σ.v.drawn w2))=_ from hr] at key
  cases key with
  | ended o u qq' h=>cases h
  | go a b u qq' h=>cases h
  | comm a b c sh u qq' h=>cases h
  | spec f args kd fr' cs' u qq' hf hkd h=>cases h
theorem fin_one (hX:X.OK) (hi:Inv X n σ) (hnext:∀ σ',Inv X (n+1) σ'→Next σ σ'→WellEnds X σ'):WellEnds X σ:=by
 by_cases hb:σ.cs=[]∧σ.fr.mode≠.run∧σ.fr.defers=[]
 ·exact fin_bottom hX hi hb.1 hb.2.1 hb.2.2
 ·exact fin_step hX hi (fun h1 h2 h3=>hb ⟨h1,h2,h3⟩) hnext
theorem fin_all (hX:X.OK) (hi:Inv X 0 σ):WellEnds X σ:=by
 refine Classical.byContradiction fun hno=>?_
 have step:∀ (n:Nat) (σ:St),Inv X n σ→¬ WellEnds X σ→∃ σ',Inv X (n+1) σ'∧¬ WellEnds X σ'∧Next σ σ':=fun n σ h1 h2=>by
  refine Classical.byContradiction fun h3=>h2 (fin_one hX h1 fun σ' a b=>?_)
  exact Classical.byContradiction fun h4=>h3 ⟨σ',a,h4,b⟩
 let T:={ p:Nat × St // Inv X p.1 p.2∧¬ WellEnds X p.2 }
 let f:T→T:=fun p=>⟨(p.1.1+1,Classical.choose (step p.1.1 p.1.2 p.2.1 p.2.2)),(Classical.choose_spec (step p.1.1 p.1.2 p.2.1 p.2.2)).1,(Classical.choose_spec (step p.1.1 p.1.2 p.2.1 p.2.2)).2.1⟩
 have hf:∀ p:T,Next p.1.2 (f p).1.2:=fun p=>(Classical.choose_spec (step p.1.1 p.1.2 p.2.1 p.2.2)).2.2
 let s:Nat→T:=fun k=>Nat.rec ⟨(0,σ),hi,hno⟩ (fun _ p=>f p) k
 have hs0:(s 0).1.1=0:=rfl
 have hsn:∀ k,(s k).1.1=k:=fun k=>by
  induction k with
  | zero=>rfl
  | succ k ih=>show (s k).1.1+1=k+1;rw [ih]
 have hnx:∀ k,Next (s k).1.2 (s (k+1)).1.2:=fun k=>hf (s k)
 have mono:∀ k j,(s k).1.2.v.drawn≤(s (k+j)).1.2.v.drawn:=fun k j=>by
  induction j with
  | zero=>exact Nat.le_refl _
  | succ j ih=>exact Nat.le_trans ih (hnx (k+j)).drawn
 have agree:∀ k j (i:Nat) (q:Question),i<(s k).1.2.v.drawn→(s (k+j)).1.2.τ i q=(s k).1.2.τ i q:=fun k j i q hlt=>by
  induction j with
  | zero=>rfl
  | succ j ih=>exact ((hnx (k+j)).tape i q (Nat.lt_of_lt_of_le hlt (mono k j))).trans ih
 -- the tape that all of them share
 let τ:Tape:=fun i q=>@dite _ (∃ k,i<(s k).1.2.v.drawn) (Classical.propDecidable _) (fun h=>(s (Classical.choose h)).1.2.τ i q) fun _=>0
 have hτ:∀ k (i:Nat) (q:Question),i<(s k).1.2.v.drawn→τ i q=(s k).1.2.τ i q:=fun k i q hlt=>by
  have hex:∃ k,i<(s k).1.2.v.drawn:=⟨k,hlt⟩
  have hch:=Classical.choose_spec hex
  show @dite _ (∃ k,i<(s k).1.2.v.drawn) (Classical.propDecidable _) (fun h=>(s (Classical.choose h)).1.2.τ i q) (fun _=>0)=_
  rw [dif_pos hex]
  generalize Classical.choose hex=j at *
  rcases Nat.le_total j k with hjk|hkj
  ·rw [show k=j+(k - j) by omega]
   exact (agree j (k - j) i q hch).symm
  ·rw [show j=k+(j - k) by omega]
   exact agree k (j - k) i q hlt
 obtain ⟨N,m,h1,h2⟩:=hX.comes τ
 obtain ⟨o,w,ho⟩:=tgt_ends h2
 obtain ⟨K,hK,hr⟩:=(s (N+2)).2.1.hist τ (hτ (N+2))
 have hK':N+2≤K:=Nat.le_trans (Nat.le_of_eq (hsn (N+2)).symm) hK
 have hend:runN X.Q (N+2) (X.start τ)=.ended o w:=by rw [runN_add,h1];exact ho
 have:=runN_ended (k:=K - (N+2)) hend
 rw [show N+2+(K - (N+2))=K by omega,hr] at this
 cases this
end
end Go.Proofs.YtpcjdalgebgofaaGreatDoor
namespace Go.Proofs.YtpcjdalgebgofaaGreatDoor
open Go Go.Conc Go.ConcX
def odd:Obj→Bool
 | .loop _|.deferred _|.pending _ _=>true
 | _=>false
def scrubO (o:Obj):Obj:=if odd o then poison else o
def scrub (w:World):World:={ w with heap:=w.heap.map scrubO }
def oddAt (w:World) (i:Nat):Option Obj:=(w.heap[i]?).bind fun o=>if odd o then some o else none
theorem scrub_twin (P:Program) (F:Array Func) (w:World):Twin (okObj P F) (oddAt w) (scrub w) w:=by
 have key:∀ i:Nat,(scrub w).heap[i]?=(w.heap[i]?).map scrubO:=fun i=>by simp [scrub]
 refine ⟨rfl,rfl,by simp [scrub],fun i hi=>?_,fun i o hi=>?_,fun i o ho=>?_⟩
 ·rw [key]
  unfold oddAt at hi
  cases h:w.heap[i]? with
  | none=>rfl
  | some o =>
   rw [h] at hi
   simp only [Option.bind_some] at hi
   split at hi
   ·cases hi
   ·rename_i hn
    simp [scrubO,hn]
 ·rw [key]
  unfold oddAt at hi
  cases h:w.heap[i]? with
  | none=>rw [h] at hi;cases hi
  | some x =>
   rw [h] at hi
   simp only [Option.bind_some] at hi
   split at hi
   ·rename_i hn
    cases hi
    refine ⟨by simp [scrubO,hn],rfl,?_⟩
    cases o <;> first|(cases hn;done)|trivial
   ·cases hi
 ·rw [key] at ho
  cases h:w.heap[i]? with
  | none=>rw [h] at ho;cases ho
  | some x =>
   rw [h] at ho
   simp only [Option.map_some,Option.some.injEq] at ho
   subst ho
   unfold scrubO
   split
   ·trivial
   ·rename_i hn
    cases x <;> first|exact absurd rfl hn|trivial
theorem scrub_cells {w:World} {i:Nat} {c:Array Value} {t:TypeId} {f:Nat × Nat} (h:w.heap[i]?=some (.cells c t f)):(scrub w).heap[i]?=some (.cells c t f):=by
 simp [scrub,h,scrubO,odd]
section
variable {P:Program} {F:Array Func} {Spec:FuncId→Prop} {f0:FuncId} {args:Array Value} {W:World} {R:Value→World→Prop} {Post:Value→World→Prop}
theorem bridge (kin:Kin P F Spec) (kinQ:Kin (withF P F) F Spec) (spec:∀ f,Spec f→SpecOK P F f) (noInit:P.inits.idxOf? f0=none) (hns:¬ Spec f0) (hf:F[f0]?=P.funcs[f0]?)
  (hbig:P.globals.size+5≤W.heap.size) (hodd:∀ (i:Nat) (o:Obj),W.heap[i]?=some o→odd o=true→P.globals.size+5≤i)
  (post:∀ (x:Value) (v w:World) (S:Nat→Option Obj),SOK P (oddAt W) W.heap.size S→Twin (okObj P F) S v w→R x v→Post x w)
  (calls:∀ τ:Tape,Calls (withF P F) f0 args (Worldon (scrub W) τ) fun e w'=>∃ x,e=.returned x∧R x w') :
  ∃ N last o w' t',runNT P (N+1) (solo (G (Frame.enter P f0 args .normal) []) W) #[]=(.ended o w',t')∧runN P N (solo (G (Frame.enter P f0 args .normal) []) W)=.next last∧step P last=.ended o w'∧Good P Post last o w' t':=by
 have hfr:Frame.enter (withF P F) f0 args .normal=Frame.enter P f0 args .normal:=enter_eq hf args .normal
 let X:Setup:=⟨P,F,Spec,f0,Frame.enter P f0 args .normal,scrub W,oddAt W,R,Post⟩
 have hsz:(scrub W).heap.size=W.heap.size:=by simp [scrub]
 have hX:X.OK:=⟨kin,kinQ,spec,fun τ=>by
  obtain ⟨e,w',fr,⟨x,rfl,hR⟩,hs,hfn,hl⟩:=calls τ [dum]
  obtain ⟨n,hn⟩:=hs
  rw [hfr] at hn
  exact ⟨n,_,hn,fr,w',x,rfl,hfn,hl,hR⟩,(show P.globals.size+5≤(scrub W).heap.size by rw [hsz];exact hbig),noInit,fun x v w S hS=>post x v w S (by rw [← hsz];exact hS)⟩
 have hi:Inv X 0 ⟨Frame.enter P f0 args .normal,[],scrub W,W.tape⟩ :=
  ⟨⟨okFr.enter kin hns hf args (.inl rfl),(fun c hc=>by cases hc),⟨rfl,rfl⟩⟩,(scrub_twin P F W).ok,Nat.le_refl _,fun τ _=>⟨0,Nat.le_refl _,rfl⟩⟩
 refine fin_all hX hi (oddAt W) ⟨fun i o ho=>?_,fun _ _=>rfl⟩ #[G (Frame.enter P f0 args .normal) []] W none #[] (fun _=>0) ⟨rfl,leavers_one _ _,fun _=>False,fun _ h=>h.elim,past_nil.mono (Nat.zero_le _)⟩ (scrub_twin P F W)
 unfold oddAt at ho
 cases h:W.heap[i]? with
 | none=>rw [h] at ho;cases ho
 | some x =>
  rw [h] at ho
  simp only [Option.bind_some] at ho
  split at ho
  ·rename_i hn
   exact hodd i x h hn
  ·cases ho
end
end Go.Proofs.YtpcjdalgebgofaaGreatDoor

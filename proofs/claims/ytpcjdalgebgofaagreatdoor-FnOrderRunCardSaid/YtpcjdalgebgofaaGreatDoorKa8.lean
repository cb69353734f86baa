/-
  Lemmas and contracts: Uf Ua Ub Ug Uh. No condition.
-/
import Derived.Conc.FxEnd
import Derived.Conc.CompanyWords
import Derived.Conc.FxBegin
import Derived.Test.YtpcjdalgebgofaaGreatDoorKa4
import Derived.Test.YtpcjdalgebgofaaGreatDoorKa7
set_option linter.unusedSimpArgs false
set_option linter.unusedVariables false
set_option linter.unusedSectionVars false
namespace Go.Proofs.YtpcjdalgebgofaaGreatDoor
open Go Go.Conc Go.ConcX Go.RowKit Go.Conc.Lib Go.ConcX.Gen
section
variable (N:Nat) (A B:Option Addr) (la ca lb cb n:Nat) (zs ws:List Int) [Shy (N+4) (N+2)]
abbrev GCD (m:Nat) (g:Goroutine) (w:World):Prop:=Goes Tryz.prog false (RCa 138 (N+4) (N+6)) (DCs (MineD N) (N+4) (N+2)) (AtR0 Tryz.prog 138 (N+4) (N+2) (N+6) (difs la lb zs ws 0 n)) m g w
def AnchC (j:Nat) (g:Goroutine):Prop:=∃ T:Array Value,g=G (bC.at ⟨T,[dcall 96 #[ptr (N+4)]]⟩ [.code LC,.inLoop LC,.inBlock 0]) [botC]∧SlotsC N j T
end
theorem quitsC (T:Array Value):QuitsD Tryz.prog 2 0 (G { bC.at ⟨T,[]⟩ [] with mode:=.returning } [botC]):=by
 refine QuitsD.ctl (g':=G botC []) rfl (fun w=>?_) ?_
 ·simp [G,stepG,unwind,doReturn,results,Frame.at,bC,baseD,botC,Tryz.func95,Tryz.f95,seen,GStep.after,goexitEntry]
 refine QuitsD.ctl (g':={ G botC [] with status:=.finished }) rfl (fun w=>?_) ⟨rfl,rfl⟩
 simp [G,stepG,unwind,botC,goexitEntry,Frame.catches]
 rfl
section
variable {N:Nat} {A B:Option Addr} {la ca lb cb n:Nat} [Shy (N+4) (N+2)] [ShyD N (min la lb) A B] {zs ws:List Int}
theorem region_c (hb:∀ ad,0<min la lb→(A=some ad∨B=some ad)→ad.block<N) (hA:0<min la lb→∃ ad bd,A=some ad∧B=some bd) {j:Nat} {w:World} (hj:j<n) (hF:CKD N A B la ca lb cb n zs ws j w) (ds:List Deferred) {T:Array Value} (hT:SlotsC N j T) :
  regC.wpC Tryz.prog false (RCa 138 (N+4) (N+6)) (DCs (MineD N) (N+4) (N+2)) bC.fn 27 (PostC N A B la ca lb cb n zs ws j ds) ⟨T,ds⟩ w:=by
 obtain ⟨h40,t0,t1,t2,t3,t4,t5⟩:=hT
 obtain ⟨v0,v1,v2,v3,v4,v5,v6,v7,v8,v9,v10,v11,v12,v13,v14,v15,v16,v17,v18,v19,v20,v21,v22,v23,v24,v25,v26,v27,v28,v29,v30,v31,v32,v33,v34,v35,v36,v37,v38,v39,rfl⟩:=array40 T h40
 simp only [List.getElem?_toArray,List.getElem?_cons_succ,List.getElem?_cons_zero,Option.some.injEq] at t0 t1 t2 t3 t4 t5
 subst t0 t1 t2 t3 t4 t5
 by_cases h1:la≤j
 ·exact region_far hb hj h1 hF ds v6 v7 v8 v9 v10 v11 v12 v13 v14 v15 v16 v17 v18 v19 v20 v21 v22 v23 v24 v25 v26 v27 v28 v29 v30 v31 v32 v33 v34 v35 v36 v37 v38 v39
 by_cases h2:lb≤j
 ·exact region_mid hb hj (by omega) h2 hF ds v6 v7 v8 v9 v10 v11 v12 v13 v14 v15 v16 v17 v18 v19 v20 v21 v22 v23 v24 v25 v26 v27 v28 v29 v30 v31 v32 v33 v34 v35 v36 v37 v38 v39
 ·obtain ⟨ad,bd,e1,e2⟩:=hA (by omega)
  exact region_near hb hj (by omega) (by omega) e1 e2 hF ds v6 v7 v8 v9 v10 v11 v12 v13 v14 v15 v16 v17 v18 v19 v20 v21 v22 v23 v24 v25 v26 v27 v28 v29 v30 v31 v32 v33 v34 v35 v36 v37 v38 v39
set_option maxRecDepth 100000 in
set_option maxHeartbeats 4000000 in
theorem worksC (hn:n≤64) (hb:∀ ad,0<min la lb→(A=some ad∨B=some ad)→ad.block<N) (hA:0<min la lb→∃ ad bd,A=some ad∧B=some bd):∀ (m j:Nat),j+m=n→∃ f,∀ (g:Goroutine) (w:World),AnchC N j g→CKD N A B la ca lb cb n zs ws j w →
  GCD N la lb n zs ws f g w:=by
 intro m
 induction m with
 | zero =>
  intro j hj
  obtain rfl:j=n:=by omega
  refine ⟨38,?_⟩
  rintro g w ⟨T,rfl,h40,t0,t1,t2,t3,t4,t5⟩ hF
  obtain ⟨v0,v1,v2,v3,v4,v5,v6,v7,v8,v9,v10,v11,v12,v13,v14,v15,v16,v17,v18,v19,v20,v21,v22,v23,v24,v25,v26,v27,v28,v29,v30,v31,v32,v33,v34,v35,v36,v37,v38,v39,rfl⟩:=array40 T h40
  simp only [List.getElem?_toArray,List.getElem?_cons_succ,List.getElem?_cons_zero,Option.some.injEq] at t0 t1 t2 t3 t4 t5
  subst t0 t1 t2 t3 t4 t5
  simp only [LC,bodyC,ptr,Tryz.f95,Option.getD_some]
  have hnl:¬ ((j:Int)<(j:Int)):=by omega
  have hlt:True:=trivial
  have hmin:(if (j:Int)<64 then (j:Int) else 64)=(j:Int):=by split <;> omega
  u_c stepG_seq (CKD.rely hb) hF
  u_c stepG_seq (CKD.rely hb) hF
  u_reg (CKD.rely hb) hF
  u_op (CKD.rely hb) hF
  u_opw (CKD.rely hb) hF [CKD.fromv hF] (Aside.refl _ _) (evD_read1 _ _ (by simp) (by simp) (by simp) (‹ShyD _ _ _ _›.own _ _ (by simp) (by simp) (by simp)))
  u_op (CKD.rely hb) hF
  u_opw (CKD.rely hb) hF [CKD.outv hF] (Aside.refl _ _) (evD_read1 _ _ (by simp) (by simp) (by simp) (‹ShyD _ _ _ _›.own _ _ (by simp) (by simp) (by simp)))
  u_op (CKD.rely hb) hF
  u_op (CKD.rely hb) hF
  u_op (CKD.rely hb) hF
  u_c stepG_region_end (CKD.rely hb) hF
  simp only [w64,hmin,hnl,hlt,decide_true,decide_false]
  u_cond false (CKD.rely hb) hF
  u_exit (CKD.rely hb) hF
  u_c stepG_end (CKD.rely hb) hF
  u_unwB (CKD.rely hb) hF Tryz.func96 (nm_done wgL) Tryz.f96
  have hD:=@doneD _ wgL Tryz.prog wgLib (MineD N) (N+4) (N+2) (N+6) _ (difs la lb zs ws 0 j) (by omega) (by omega) (by omega)
  simp only [body_done,doneFn,Option.getD_some] at hD
  exact hD rfl (quitsC _) _ ⟨hF.k,hF.full⟩
 | succ m ih =>
  intro j hj
  obtain ⟨f₁,h₁⟩:=ih (j+1) (by omega)
  refine ⟨f₁+100,?_⟩
  rintro g w ⟨T,rfl,h40,t0,t1,t2,t3,t4,t5⟩ hF
  obtain ⟨v0,v1,v2,v3,v4,v5,v6,v7,v8,v9,v10,v11,v12,v13,v14,v15,v16,v17,v18,v19,v20,v21,v22,v23,v24,v25,v26,v27,v28,v29,v30,v31,v32,v33,v34,v35,v36,v37,v38,v39,rfl⟩:=array40 T h40
  simp only [List.getElem?_toArray,List.getElem?_cons_succ,List.getElem?_cons_zero,Option.some.injEq] at t0 t1 t2 t3 t4 t5
  subst t0 t1 t2 t3 t4 t5
  simp only [LC,bodyC,ptr,Tryz.f95,Option.getD_some]
  have hjn:j<n:=by omega
  have hnl:True:=trivial
  have hlt:(j:Int)<(n:Int):=by omega
  have hmin:(if (n:Int)<64 then (n:Int) else 64)=(n:Int):=by split <;> omega
  u_c stepG_seq (CKD.rely hb) hF
  u_c stepG_seq (CKD.rely hb) hF
  u_reg (CKD.rely hb) hF
  u_op (CKD.rely hb) hF
  u_opw (CKD.rely hb) hF [CKD.fromv hF] (Aside.refl _ _) (evD_read1 _ _ (by simp) (by simp) (by simp) (‹ShyD _ _ _ _›.own _ _ (by simp) (by simp) (by simp)))
  u_op (CKD.rely hb) hF
  u_opw (CKD.rely hb) hF [CKD.outv hF] (Aside.refl _ _) (evD_read1 _ _ (by simp) (by simp) (by simp) (‹ShyD _ _ _ _›.own _ _ (by simp) (by simp) (by simp)))
  u_op (CKD.rely hb) hF
  u_op (CKD.rely hb) hF
  u_op (CKD.rely hb) hF
  u_c stepG_region_end (CKD.rely hb) hF
  simp only [w64,hmin,hnl,hlt,decide_true,decide_false]
  u_cond true (CKD.rely hb) hF
  u_c stepG_skip (CKD.rely hb) hF
  u_c stepG_seq (CKD.rely hb) hF
  u_c stepG_block (CKD.rely hb) hF
  have hR:=region_c hb hA hjn hF [dcall 96 #[ptr (N+4)]] (T:=#[ptr (N+4),ptr (N+5),ptr (N+3),ptr N,ptr (N+1),.int .i64 j,v6,.int .i64 j,.int .i64 0,.int .i64 64,.slice (some ⟨N+2,0,none⟩) n n,.int .i64 n,.int .i64 n,.bool true,v14,v15,v16,v17,v18,v19,v20,v21,v22,v23,v24,v25,v26,v27,v28,v29,v30,v31,v32,v33,v34,v35,v36,v37,v38,v39]) ⟨rfl,rfl,rfl,rfl,rfl,rfl,rfl⟩
  simp only [regC,LC,bodyC,ptr,Tryz.f95,Option.getD_some] at hR
  refine Goes.mono (wpC_goes (m:=f₁+12) hR rfl (by k_ne) ?_) (by omega)
  clear hR hF
  rintro e a' w' ⟨rfl,⟨T',rfl,h40',s0,s1,s2,s3,s4,s5⟩,hF⟩
  obtain ⟨x0,x1,x2,x3,x4,x5,x6,x7,x8,x9,x10,x11,x12,x13,x14,x15,x16,x17,x18,x19,x20,x21,x22,x23,x24,x25,x26,x27,x28,x29,x30,x31,x32,x33,x34,x35,x36,x37,x38,x39,rfl⟩:=array40 T' h40'
  simp only [List.getElem?_toArray,List.getElem?_cons_succ,List.getElem?_cons_zero,Option.some.injEq] at s0 s1 s2 s3 s4 s5
  subst s0 s1 s2 s3 s4 s5
  simp only [ptr]
  show Goes _ _ _ _ _ _ _ _
  have hi64:IntKind.i64.wrap ((j:Int)+1)=((j+1:Nat):Int):=by rw [IntKind.wrap_i64];omega
  u_c stepG_inBlock (CKD.rely hb) hF
  u_reg (CKD.rely hb) hF
  u_op (CKD.rely hb) hF
  u_op (CKD.rely hb) hF
  u_op (CKD.rely hb) hF
  u_c stepG_region_end (CKD.rely hb) hF
  u_c stepG_inLoop (CKD.rely hb) hF
  try simp only [hi64]
  exact (h₁ _ _ ⟨_,rfl,rfl,rfl,rfl,rfl,rfl,rfl,rfl⟩ hF).mono (by omega)
theorem bornC (N:Nat) (w:World):stepG Tryz.prog false (born Tryz.prog (callC N)) w =
  .go (G (bC.at ⟨#[ptr (N+4),ptr (N+5),ptr (N+3),ptr N,ptr (N+1),undef,undef,undef,undef,undef,undef,undef,undef,undef,undef,undef,undef,undef,undef,undef,undef,undef,undef,undef,undef,undef,undef,undef,undef,undef,undef,undef,undef,undef,undef,undef,undef,undef,undef,undef],[]⟩ [.code bodyC]) [botC]) w #[]:=by
 simp [born,callC,stepG,unwind,callDeferred,invoke,callFunc,Tryz.func95,Tryz.f95,seen,GStep.after,G,Frame.enter,Frame.at,bC,baseD,botC,bodyC]
set_option maxRecDepth 100000 in
set_option maxHeartbeats 2000000 in
theorem worksCAll (hn:n≤64) (hb:∀ ad,0<min la lb→(A=some ad∨B=some ad)→ad.block<N) (hA:0<min la lb→∃ ad bd,A=some ad∧B=some bd) (w:World) (hF:CKD N A B la ca lb cb n zs ws 0 w) :
  ∃ m,GCD N la lb n zs ws m (born Tryz.prog (callC N)) w:=by
 obtain ⟨f,hf⟩:=worksC (A:=A) (B:=B) (zs:=zs) (ws:=ws) (ca:=ca) (cb:=cb) hn hb hA n 0 (by omega)
 refine ⟨f+20,Goes.step rfl fun w₁ r₁=>?_⟩
 rw [bornC]
 refine ⟨⟨Aside.refl _ _,by simp⟩,?_⟩
 replace hF:=CKD.rely hb hF r₁
 clear r₁
 simp only [bodyC,ptr,Tryz.f95,Option.getD_some]
 u_c stepG_seq (CKD.rely hb) hF
 u_reg (CKD.rely hb) hF
 u_defer (CKD.rely hb) hF
 u_c stepG_region_end (CKD.rely hb) hF
 u_c stepG_seq (CKD.rely hb) hF
 u_reg (CKD.rely hb) hF
 u_opw (CKD.rely hb) hF [CKD.fromv hF] (Aside.refl _ _) (evD_read1 _ _ (by simp) (by simp) (by simp) (‹ShyD _ _ _ _›.own _ _ (by simp) (by simp) (by simp)))
 u_op (CKD.rely hb) hF
 u_c stepG_region_end (CKD.rely hb) hF
 u_c stepG_block (CKD.rely hb) hF
 u_c stepG_loop (CKD.rely hb) hF
 exact (hf _ _ ⟨_,rfl,rfl,rfl,rfl,rfl,rfl,rfl,rfl⟩ hF).mono (by omega)
end
end Go.Proofs.YtpcjdalgebgofaaGreatDoor
namespace Go.Proofs.YtpcjdalgebgofaaGreatDoor
open Go Go.Conc Go.ConcX
open Go.ConcN (sumTo upd sumTo_upd upd_ne upd_same)
theorem mem_evs {g:Nat} {fn:FuncId} {pos:String} {es:Array Event} {op:MemOp} (h:op ∈ MemOp.ofEvents g fn pos es):∃ e ∈ es,op={ g,fn,pos,act:=.ofEvent e }:=by
  rw [ofEvents_eq] at h
  obtain ⟨e,he,rfl⟩:=Array.mem_map.1 h
  exact ⟨e,he,rfl⟩
structure PastD (Shun:Loc→Prop) (B d:Nat) (t:Trace):Prop where
  clean:∀ said,¬ Race said t
  known:∀ i a,touchAt t i=some a→a.loc.isMemory=true→Knows t 0 i∨(Shun a.loc∧a.kind=.atomic)
  over:t.HandedOver
  deaf:Deaf t 0=d
  seen:∀ op ∈ t,op.act.low B
section
variable {Shun:Loc→Prop} {B B' d:Nat} {t u:Trace}
theorem PastD.of (h:Past Shun B t):PastD Shun B 0 t:=⟨h.clean,h.known,h.over,h.hears,h.seen⟩
theorem PastD.to (h:PastD Shun B 0 t):Past Shun B t:=⟨h.clean,h.known,h.over,h.deaf,h.seen⟩
theorem PastD.app0 (h:PastD Shun B d t) (hu:∀ op ∈ u,op.g=0) (hs:∀ op ∈ u,∀ b,op.act.touch?=some b→Shun b.loc→b.kind≠.plain) (hl:∀ op ∈ u,op.act.low B):PastD Shun B (Deaf (t ++ u) 0) (t ++ u):=by
  constructor
  · intro said
    refine noRace_append (h.clean said) hu ?_
    intro i a ha op hop b hb hc
    refine (h.known i a ha hc.2.1).elim id fun ⟨h1,h2⟩=>?_
    have h3:=hs op hop b hb (hc.1 ▸ h1)
    obtain ⟨_,_,_,h4⟩:=hc
    rw [h2] at h4
    rcases h4 with x|x|⟨_,x,_⟩
    · cases x
    · exact absurd x h3
    · cases x
  · intro i a ha hm
    obtain ⟨x,hx,hxa⟩:=touch_of ha
    rcases getElem?_append_cases hx with ⟨_,h1⟩|⟨_,h1⟩
    · exact (h.known i a (by rw [touchAt_of h1];exact hxa) hm).imp (fun k=>k.app u) id
    · left
      have h2:=knows_own hx
      rwa [hu x h1] at h2
  · exact handedOver_app h.over fun op hop=>.inl (hu op hop)
  · rfl
  · exact seen_app h.seen hl
theorem PastD.mute (h:PastD Shun B d t) {g:Nat} (hg:g≠0) {fn:FuncId} {pos:String} {es:Array Event} (hm:∀ e ∈ es,e.mute=true):PastD Shun B d (t ++ MemOp.ofEvents g fn pos es):=by
  have hu:∀ op ∈ MemOp.ofEvents g fn pos es,op.g=g:=fun op hop=>by obtain ⟨e,_,rfl⟩:=mem_evs hop;rfl
  have hn:∀ op ∈ MemOp.ofEvents g fn pos es,op.act.touch?=none:=fun op hop=>by obtain ⟨e,he,rfl⟩:=mem_evs hop;exact touch_mute (hm e he)
  constructor
  · exact fun said=>noRace_append (h.clean said) hu fun i a _ op hop b hb _=>by rw [hn op hop] at hb;cases hb
  · intro i a ha hmm
    obtain ⟨x,hx,hxa⟩:=touch_of ha
    rcases getElem?_append_cases hx with ⟨_,h1⟩|⟨_,h1⟩
    · exact (h.known i a (by rw [touchAt_of h1];exact hxa) hmm).imp (fun k=>k.app _) id
    · rw [hn x h1] at hxa;cases hxa
  · exact handedOver_app h.over fun op hop=>.inr (hn op hop)
  · exact (Deaf_other t hg _ hu).trans h.deaf
  · exact seen_app h.seen fun op hop=>by obtain ⟨e,he,rfl⟩:=mem_evs hop;exact low_mute (hm e he) B
def EvM (Shun:Loc→Prop) (B:Nat) (e:Event):Prop:=(∀ x,(MemAct.ofEvent e).touch?=some x→Shun x.loc→x.kind≠.plain)∧(MemAct.ofEvent e).low B
theorem PastD.own (h:PastD Shun B d t) {fn:FuncId} {pos:String} {es:Array Event} (he:∀ e ∈ es,EvM Shun B e):PastD Shun B (deafBehind d es) (t ++ MemOp.ofEvents 0 fn pos es):=by
  have k:=h.app0 (u:=MemOp.ofEvents 0 fn pos es) (fun op hop=>by obtain ⟨e,_,rfl⟩:=mem_evs hop;rfl) (fun op hop b hb=>by obtain ⟨e,h1,rfl⟩:=mem_evs hop;exact (he e h1).1 b hb) (fun op hop=>by obtain ⟨e,h1,rfl⟩:=mem_evs hop;exact (he e h1).2)
  rw [Deaf_own,h.deaf] at k
  exact k
theorem evL_m {e:Event} (h:EvL Shun B e):EvM Shun B e:=⟨h.1,h.2.2.2⟩
theorem PastD.ownL (h:PastD Shun B d t) {fn:FuncId} {pos:String} {es:Array Event} (he:∀ e ∈ es,EvL Shun B e):PastD Shun B d (t ++ MemOp.ofEvents 0 fn pos es):=by
  have k:=h.own (fn:=fn) (pos:=pos) fun e h1=>evL_m (he e h1)
  rwa [deafBehind_still fun e h1=>⟨(he e h1).2.1,(he e h1).2.2.1⟩] at k
end
structure Picked (P:Program) (a:Goroutine) (gs:Array Goroutine) (w0 w:World) (sl:Option (Nat × Nat)) (t:Trace) (q:Nat→Nat):Prop where
  h0:gs[0]?=some a
  leav:Leavers P t gs q
  next:∃ sl',stepT P (crowd gs w0 sl)=runT P (crowd gs w sl') 0
  rel:AtRel w0 w
section
variable {P:Program} {Shun:Loc→Prop} {B d:Nat} {D R:World→World→Array Event→Prop} {Stop:Goroutine→World→Prop} {I:World→Prop}
theorem stretch (hD:∀ w w' es,D w w' es→∀ e ∈ es,EvL Shun B e) (hI:∀ w w' es,D w w' es→I w→I w') (hIa:∀ w e,I w→I (w.at e)) (hr:∀ g w,Stop g w→g.status=.running) :
    ∀ (M n:Nat) (gs:Array Goroutine) (a:Goroutine) (w:World) (sl:Option (Nat × Nat)) (t:Trace) (q:Nat→Nat),n+sumTo gs.size q=M→gs[0]?=some a→Leavers P t gs q→PastD Shun B d t→I w →
      Goes P true AtRel D Stop n a w →
      ∃ (N:Nat) (gs':Array Goroutine) (a':Goroutine) (w':World) (sl':Option (Nat × Nat)) (t':Trace) (q':Nat→Nat) (w2:World),
        runNT P N (crowd gs w sl) t=(.next (crowd gs' w' sl'),t')∧gs'.size=gs.size∧Picked P a' gs' w' w2 sl' t' q'∧Stop a' w2∧I w2∧PastD Shun B d t':=by
  intro M
  induction M using Nat.strongRecOn with
  | _ M ih =>
    intro n gs a w sl t q hM h0 hL hP hi hG
    have hrun:a.status=.running:=hG.running hr w (atRel_refl w)
    have hpos:0<gs.size:=(Array.getElem?_eq_some_iff.1 h0).1
    have haw:∀ g ∈ gs,awake g:=by
      intro g hg
      obtain ⟨i,hi,rfl⟩:=Array.mem_iff_getElem.1 hg
      rcases Nat.eq_zero_or_pos i with rfl|hp
      · have:gs[0]=a:=by simpa [Array.getElem?_eq_getElem hi] using h0
        rw [this];exact awake_of (.inl hrun)
      · exact awake_of ((hL.old i _ hp (Array.getElem?_eq_getElem hi)).status.elim .inl fun x=>.inr (.inr x))
    obtain ⟨i,g,e,sl',hgi,hg,hst⟩:=crowd_pick (P:=P) (w:=w) (sl:=sl) haw ⟨0,a,h0,hrun⟩
    rcases Nat.eq_zero_or_pos i with rfl|hp
    · obtain rfl:g=a:=by rw [h0] at hgi;exact (Option.some.inj hgi).symm
      have hcases:(∀ w₁,AtRel w w₁→Stop g w₁)∨∃ n',n=n'+1∧∀ w₁,AtRel w w₁→(stepG P true g w₁).goes fun g' w' es=>D w₁ w' es∧Goes P true AtRel D Stop n' g' w':=by
        cases n with
        | zero=>exact .inl hG
        | succ n'=>exact hG.imp id fun x=>⟨n',rfl,x.2⟩
      rcases hcases with hstop|⟨n',rfl,hstep⟩
      · exact ⟨0,gs,g,w,sl,t,q,w.at e,rfl,rfl,⟨h0,hL,⟨sl',hst⟩,⟨e,rfl⟩⟩,hstop (w.at e) ⟨e,rfl⟩,hIa _ _ hi,hP⟩
      · have hs:=hstep (w.at e) ⟨e,rfl⟩
        cases hgo:stepG P true g (w.at e) with
        | go a' w' es =>
          rw [hgo,goes_go] at hs
          obtain ⟨hd,hG'⟩:=hs
          have hrunT:=runT_crowd_go (P:=P) (sl:=sl') (i:=0) hgi (show stepG P (0 == 0) g (w.at e)=_ from hgo)
          have hsz:((gs.map (Go.Conc.woken P g a' w')).setIfInBounds 0 a').size=gs.size:=by simp
          obtain ⟨N,gs',a'',w'',sl₂,t',q',w2,hr',hs',rest⟩:=ih (n'+sumTo gs.size q) (by omega) n' ((gs.map (Go.Conc.woken P g a' w')).setIfInBounds 0 a') a' w' sl'
            (t ++ MemOp.ofEvents 0 g.frame.fn g.frame.place es) q (by rw [hsz]) (by simp [hpos]) (hL.own hpos _ _ es) (hP.ownL (hD _ _ _ hd)) (hI _ _ _ hd (hIa _ _ hi)) hG'
          exact ⟨N+1,gs',a'',w'',sl₂,t',q',w2,by simp only [runNT,hst,hrunT];exact hr',hs'.trans hsz,rest⟩
        | _=>rw [hgo] at hs;exact hs.elim
    · have hq:=hL.old i g hp hgi
      have hi0:(i == 0)=false:=by simp;omega
      have hlt:i<gs.size:=(Array.getElem?_eq_some_iff.1 hgi).1
      cases hqi:q i with
      | zero=>rw [hqi] at hq;rw [hq.1] at hg;cases hg
      | succ k =>
        rw [hqi] at hq
        rcases hq with ⟨hf,_⟩|⟨_,g',es,hm,hstp,hq'⟩
        · rw [hf] at hg;cases hg
        have hrunT:=runT_crowd_go (P:=P) (sl:=sl') (i:=i) hgi (by rw [hi0];exact hstp (w.at e))
        have hsz:((gs.map (Go.Conc.woken P g g' (w.at e))).setIfInBounds i g').size=gs.size:=by simp
        have hsum:sumTo gs.size (upd q i k)+(k+1)=sumTo gs.size q+k:=by
          have:=sumTo_upd q k id hlt
          simpa [hqi] using this
        obtain ⟨N,gs',a'',w'',sl₂,t',q',w2,hr',hs',rest⟩:=ih (n+sumTo gs.size (upd q i k)) (by omega) n ((gs.map (Go.Conc.woken P g g' (w.at e))).setIfInBounds i g') a (w.at e) sl'
          (t ++ MemOp.ofEvents i g.frame.fn g.frame.place es) (upd q i k) (by rw [hsz])
          (by rw [Array.getElem?_setIfInBounds_ne (by omega),Array.getElem?_map,h0];simp [woken_run hrun])
          ⟨fun j x hj hx=>by
            by_cases hji:i=j
            · subst hji
              rw [Array.getElem?_setIfInBounds_self_of_lt (by simpa using hlt)] at hx
              obtain rfl:=Option.some.inj hx
              rw [upd_same,Deaf_own]
              exact hq'
            · rw [Array.getElem?_setIfInBounds_ne hji,Array.getElem?_map] at hx
              obtain ⟨y,hy,rfl⟩:=Option.map_eq_some_iff.1 hx
              have hqj:=hL.old j y hj hy
              rw [woken_quitsD hqj,upd_ne q k (Ne.symm hji),Deaf_other t hji _ g_of_ofEvents]
              exact hqj,
           fun j hj=>by
            have hj':gs.size≤j:=by simpa using hj
            rw [Deaf_other t (g':=i) (by omega) _ g_of_ofEvents]
            exact hL.above j hj'⟩
          (hP.mute (by omega) hm) (hIa _ _ hi) (Goes.rely atRel_trans hG ⟨e,rfl⟩)
        exact ⟨N+1,gs',a'',w'',sl₂,t',q',w2,by simp only [runNT,hst,hrunT];exact hr',hs'.trans hsz,rest⟩
theorem picked_step {gs:Array Goroutine} {a a':Goroutine} {w0 w w':World} {sl:Option (Nat × Nat)} {t:Trace} {q:Nat→Nat} {es:Array Event} (hp:Picked P a gs w0 w sl t q) (hP:PastD Shun B d t) (hs:stepG P true a w=.go a' w' es) (he:∀ e ∈ es,EvM Shun B e) :
    ∃ (gs':Array Goroutine) (sl':Option (Nat × Nat)) (t':Trace),stepT P (crowd gs w0 sl)=(.next (crowd gs' w' sl'),MemOp.ofEvents 0 a.frame.fn a.frame.place es)∧gs'.size=gs.size∧gs'[0]?=some a'∧Leavers P (t ++ MemOp.ofEvents 0 a.frame.fn a.frame.place es) gs' q ∧
      PastD Shun B (deafBehind d es) (t ++ MemOp.ofEvents 0 a.frame.fn a.frame.place es):=by
  obtain ⟨h0,hL,⟨sl',hn⟩,_⟩:=hp
  have hpos:0<gs.size:=(Array.getElem?_eq_some_iff.1 h0).1
  have hrunT:=runT_crowd_go (P:=P) (sl:=sl') (i:=0) h0 (show stepG P (0 == 0) a w=_ from hs)
  exact ⟨_,sl',t,hn.trans hrunT,by simp,by simp [hpos],hL.own hpos _ _ es,hP.own he⟩
theorem runNT_snoc {m m' m'':Machine} {t t':Trace} {ops:Array MemOp} {N:Nat} (h:runNT P N m t=(.next m',t')) (hs:stepT P m'=(.next m'',ops)):runNT P (N+1) m t=(.next m'',t' ++ ops):=runNT_then h hs
theorem Goes.weak {R R':World→World→Prop} {D D':World→World→Array Event→Prop} (hR:∀ w w',R' w w'→R w w') (hD:∀ w w' es,D w w' es→D' w w' es):∀ {n:Nat} {g:Goroutine} {w:World},Goes P true R D Stop n g w→Goes P true R' D' Stop n g w
  | 0,g,w,h=>fun w₁ h₁=>h w₁ (hR _ _ h₁)
  | n+1,g,w,h=>h.imp (fun k w₁ h₁=>k w₁ (hR _ _ h₁)) fun ⟨h1,k⟩=>⟨h1,fun w₁ h₁=>by
      have:=k w₁ (hR _ _ h₁)
      cases hs:stepG P true g w₁ with
      | go g' w' es =>
        rw [hs,goes_go] at this
        exact ⟨hD _ _ _ this.1,Goes.weak hR hD this.2⟩
      | _=>rw [hs] at this;exact this.elim⟩
end
end Go.Proofs.YtpcjdalgebgofaaGreatDoor
namespace Go.Proofs.YtpcjdalgebgofaaGreatDoor
open Go Go.Conc Go.ConcX
open Go.ConcN (sumTo upd sumTo_upd upd_ne upd_same)
theorem atRel_symm {w w':World} (h:AtRel w w'):AtRel w' w:=by
 obtain ⟨d,rfl⟩:=h
 exact ⟨w.drawn,rfl⟩
variable [Payload]
section
variable {P:Program} {ty:TypeId} {Wg C Low:Nat} [Shy Wg C] {vals:List Value} {Mine:Loc→Prop} {AnchW:Goroutine→World→Prop} {Post:Value→World→Prop} {Shun:Loc→Prop} {B:Nat}
theorem evL_of_EvQ (hok:∀ act,Shy.ok Wg C act→okF Shun B Wg act) {e:Event} (h:EvQ Mine Wg C 0 e):EvL Shun B e:=by
 obtain ⟨h1,h2,h3,_⟩:=h
 obtain ⟨_,_,_,hk⟩:=h1 0 ""
 exact ⟨fun x hx hs=>((hok _ hk).1 x hx).1 hs,h2,h3,(hok _ hk).2.1⟩
theorem rpa_of_at (w w':World) (h:AtRel w w'):RPa ty Wg C vals w w':=by
 obtain ⟨d,rfl⟩:=h
 exact ⟨⟨rfl,rfl,rfl,rfl,fun _ _ _=>rfl⟩,id,id⟩
theorem kpc_low (hW:Wg<Low) (hC:C<Low) {w w':World} (h:KPc ty Wg C vals w) (hb:∀ b,b<Low→w'.heap[b]?=w.heap[b]?):KPc ty Wg C vals w' :=
 ⟨(hb Wg hW).trans h.1,fun e=>(hb C hC).trans (h.2 e)⟩
theorem wait_none (hW:Wg<Low) (hC:C<Low) (hok:∀ act,Shy.ok Wg C act→okF Shun B Wg act) (hAr:∀ g w,AnchW g w→g.status=.running)
  (hAn:∀ g w,AnchW g w→∃ m,Goes P true (RPa ty Wg C vals) (DPi Mine Wg C Low) (AtW1 P ty Wg C Low vals Mine AnchW Post) m g w)
  {gs:Array Goroutine} {a:Goroutine} {w:World} {sl:Option (Nat × Nat)} {t:Trace} {q:Nat→Nat} {n:Nat} (h0:gs[0]?=some a) (hL:Leavers P t gs q) (hP:Past Shun B t) (hc:KPc ty Wg C vals w)
  (hG:Goes P true (RPa ty Wg C vals) (DPi Mine Wg C Low) (AtKd P ty Wg C Low vals Mine AnchW) n a w) :
  ∃ (N:Nat) (gs':Array Goroutine) (a':Goroutine) (w':World) (sl':Option (Nat × Nat)) (t':Trace) (q':Nat→Nat),runNT P N (crowd gs w sl) t=(.next (crowd gs' w' sl'),t')∧gs'.size=gs.size∧gs'[0]?=some a' ∧
   a'.status=.running∧Shy.stop Wg C a' w'∧Leavers P t' gs' q'∧Past Shun B t':=by
 have hD:∀ w w' es,DPi Mine Wg C Low w w' es→∀ e ∈ es,EvL Shun B e:=fun _ _ es h e he=>evL_of_EvQ hok (h.2 e he)
 have hI:∀ w w' es,DPi Mine Wg C Low w w' es→KPc ty Wg C vals w→KPc ty Wg C vals w':=fun _ _ _ h k=>kpc_low hW hC k h.1
 have hIa:∀ (w:World) e,KPc ty Wg C vals w→KPc ty Wg C vals (w.at e):=fun _ _ k=>k
 have mD:∀ e ∈ #[mk .disable],EvM Shun B e:=fun e he=>by
  obtain rfl:=Array.mem_singleton.1 he
  exact ⟨fun x hx=>(by cases hx),trivial⟩
 have mE:∀ e ∈ #[mk .enable],EvM Shun B e:=fun e he=>by
  obtain rfl:=Array.mem_singleton.1 he
  exact ⟨fun x hx=>(by cases hx),trivial⟩
 have mR:∀ e ∈ #[rd (stA Wg)],EvM Shun B e:=fun e he=>by
  obtain rfl:=Array.mem_singleton.1 he
  have k:=hok _ (Shy.atomicWg (Wg:=Wg) (C:=C) (stA Wg) false rfl)
  exact ⟨fun x hx hs=>(k.1 x hx).1 hs,k.2.1⟩
 have mA:∀ e ∈ #[mk (.acquire (stA Wg))],EvM Shun B e:=fun e he=>by
  obtain rfl:=Array.mem_singleton.1 he
  have k:=hok _ (Shy.acquire (Wg:=Wg) (C:=C))
  exact ⟨fun x hx=>(by cases hx),k.2.1⟩
 -- to 'disable'
 obtain ⟨N0,gs0,a0,w0,sl0,t0,q0,u0,r0,z0,p0,⟨_,g1,hs1,n1,k1⟩,i0,P0⟩ :=
  stretch (I:=KPc ty Wg C vals) hD hI hIa (fun _ _ h=>h.1) _ n gs a w sl t q rfl h0 hL (PastD.of hP) hc (Goes.weak rpa_of_at (fun _ _ _ h=>h) hG)
 obtain ⟨gs1,sl1,_,e1,z1,h01,L1,P1⟩:=picked_step p0 P0 hs1 mD
 have r1:=runNT_snoc r0 e1
 -- to the loop's head
 obtain ⟨N2,gs2,a2,w2,sl2,t2,q2,u2,r2,z2,p2,s2,i2,P2⟩:=stretch (I:=KPc ty Wg C vals) hD hI hIa hAr _ n1 gs1 g1 u0 sl1 _ q0 rfl h01 L1 P1 i0 (Goes.weak rpa_of_at (fun _ _ _ h=>h) k1)
 obtain ⟨n3,k3⟩:=hAn _ _ s2
 have i2':KPc ty Wg C vals w2:=by
  obtain ⟨d,hd⟩:=p2.rel
  rw [hd] at i2
  exact i2
 -- to the first look
 obtain ⟨N3,gs3,a3,w3,sl3,t3,q3,u3,r3,z3,p3,⟨_,g4,hs4,_,k4⟩,i3,P3⟩:=stretch (I:=KPc ty Wg C vals) hD hI hIa (fun _ _ h=>h.1) _ n3 gs2 a2 w2 sl2 t2 q2 rfl p2.h0 p2.leav P2 i2'
  (Goes.rely atRel_trans (Goes.weak rpa_of_at (fun _ _ _ h=>h) k3) (atRel_symm p2.rel))
 obtain ⟨n4,k4⟩:=k4 i3
 obtain ⟨gs4,sl4,_,e4,z4,h04,L4,P4⟩:=picked_step p3 P3 hs4 mR
 have r4:=runNT_snoc (runNT_trans (runNT_trans r1 r2) r3) e4
 -- to 'enable'
 obtain ⟨N5,gs5,a5,w5,sl5,t5,q5,u5,r5,z5,p5,⟨_,g6,hs6,n6,k6⟩,i5,P5⟩:=stretch (I:=KPc ty Wg C vals) hD hI hIa (fun _ _ h=>h.1) _ n4 gs4 g4 u3 sl4 _ q3 rfl h04 L4 P4 i3 k4
 obtain ⟨gs6,sl6,_,e6,z6,h06,L6,P6⟩:=picked_step p5 P5 hs6 mE
 have r6:=runNT_snoc (runNT_trans r4 r5) e6
 -- to 'acquire'
 obtain ⟨N7,gs7,a7,w7,sl7,t7,q7,u7,r7,z7,p7,⟨_,g8,hs8,n8,k8⟩,i7,P7⟩:=stretch (I:=KPc ty Wg C vals) hD hI hIa (fun _ _ h=>h.1) _ n6 gs6 g6 u5 sl6 _ q5 rfl h06 L6 P6 i5 k6
 obtain ⟨gs8,sl8,_,e8,z8,h08,L8,P8⟩:=picked_step p7 P7 hs8 mA
 have r8:=runNT_snoc (runNT_trans r6 r7) e8
 have d8:deafBehind (deafBehind (deafBehind (deafBehind 0 #[mk .disable]) #[rd (stA Wg)]) #[mk .enable]) #[mk (.acquire (stA Wg))]=0:=by simp [deafBehind,mk,rd]
 rw [d8] at P8
 -- to the anchor
 obtain ⟨N9,gs9,a9,w9,sl9,t9,q9,r9,z9,h09,s9,L9,P9⟩:=walk_beside (P:=P) (Shun:=Shun) (B:=B) (D:=DPj Mine Wg C Low) (fun _ _ es h e he=>by
  have k:=evL_of_EvJ hok (h.2 e he)
  exact ⟨fun x hx hs=>k.1 x hx (.inl hs),k.2⟩) _ n8 gs8 g8 u7 sl8 _ q7 (Nat.le_refl _) h08 L8 P8.to k8
 exact ⟨_,gs9,a9,w9,sl9,t9,q9,runNT_trans r8 r9,by omega,h09,s9.1,s9.2,L9,P9⟩
end
end Go.Proofs.YtpcjdalgebgofaaGreatDoor
namespace Go.Proofs.YtpcjdalgebgofaaGreatDoor
open Go Go.Conc Go.ConcX Go.RowKit Go.Conc.Lib Go.ConcX.Gen
@[go_sem] theorem run_makeFunc2 (P:Program) (fn:Fn) (first cap:Array Value) (w:World):(Instr.makeFunc fn first cap).run P w=.ok (.func fn first cap) w:=rfl
@[go_sem] theorem events_makeFunc2 (P:Program) (fn:Fn) (first cap:Array Value) (w:World) (es:Array Event):(Instr.makeFunc fn first cap).events P w es=es:=rfl
@[go_sem] theorem events_store_slice2 (P:Program) (w:World) (es:Array Event) (a:Addr) (m:Mode) (b:Option Addr) (l c:Nat):(store a (.slice b l c) m).events P w es=storedEv P w es a (.slice b l c) m:=events_store P w es a _ m rfl
theorem infoB:(Tryz.prog.info? 4).map (fun i=>(i.zero,i.size,i.bytes))=some (some (.bool false),1,1):=by kernel_rfl
theorem alloc_setCell (w:World) (u v:Value) (t:TypeId) (a:Addr) (h:a=⟨w.heap.size,0,none⟩):(w.alloc (.cells #[u] t)).setCell a v=w.alloc (.cells #[v] t):=by
 subst h
 have hb:(w.alloc (.cells #[u] t)).heap[w.heap.size]?=some (.cells #[u] t (0,0)):=heap_alloc_new w _
 rw [setCell_eq_setRow _ _ 0 #[u] t (0,0) v hb]
 show ({ (w.alloc (.cells #[u] t)) with heap:=_ }:World)=_
 unfold World.alloc
 simp only [World.mk.injEq,true_and,and_true]
 apply Array.ext_getElem?
 intro i
 rw [Array.getElem?_modify]
 rcases Nat.lt_trichotomy i w.heap.size with h|h|h
 ·simp [Array.getElem?_push,h,Nat.ne_of_lt h,Nat.ne_of_gt h]
 ·subst h
  simp
 ·simp [Array.getElem?_push,h,Nat.ne_of_lt h,Nat.ne_of_gt h]
@[reducible] def bK (kd:CallKind):Frame:={ (default:Frame) with fn:=54,kind:=kd }
noncomputable def bodyD:Code:=Tryz.f54.body.getD .skip
noncomputable def loopD:Code:=match bodyD with|.seq _ (.seq _ (.seq _ (.seq (.seq _ (.block _ (.loop c))) _)))=>c|_=>.skip
noncomputable def tailD:Code:=match bodyD with|.seq _ (.seq _ (.seq _ (.seq _ r)))=>r|_=>.skip
section
variable (W:World) (A B:Option Addr) (la ca lb cb n:Nat)
def wP:World:=(((((W.alloc (.cells #[.slice A la ca] 31)).alloc (.cells #[.slice B lb cb] 31)).alloc (.cells (madeCells #[.bool false] n) 4)).alloc (.cells #[.slice (some ⟨W.heap.size+2,0,none⟩) n n] 81)).alloc (.cells #[.int .u64 0,.int .u32 0] 138)).alloc (.cells #[.int .i64 0] 3)
end
section
variable {W:World} {A B:Option Addr} {la ca lb cb n:Nat} [Shy (W.heap.size+4) (W.heap.size+2)] [ShyD W.heap.size (min la lb) A B] {cs:List Frame} {kd:CallKind} {StopG:Goroutine→World→Prop} {mT:Nat}
set_option maxRecDepth 100000 in
set_option maxHeartbeats 4000000 in
theorem prefixD (hk:(bK kd).kind≠.early) (h1:la≤64) (h2:lb≤64) (hn:n=max la lb) (x2 x3 x4 x5 x6 x7 x8 x9 x10 x11 x12 x13 x14 x15 x16 x17 x18 x19 x20 x21 x22 x23 x24:Value)
  (hT:Goes Tryz.prog true AtRel (DE (EvS (W.heap.size+4) (W.heap.size+2))) StopG mT (G ((bK kd).at ⟨#[.slice A la ca,.slice B lb cb,ptr W.heap.size,ptr (W.heap.size+1),.slice none 0 0,ptr (W.heap.size+3),ptr (W.heap.size+4),ptr (W.heap.size+5),.slice A la ca,.int .i64 la,.slice B lb cb,.int .i64 lb,.int .i64 n,.slice (some ⟨W.heap.size+2,0,none⟩) n n,x14,x15,x16,x17,x18,x19,x20,x21,x22,x23,x24],[]⟩ [.code loopD,.inLoop loopD,.inBlock 0,.code tailD]) cs) (wP W A B la ca lb cb n)) :
  Goes Tryz.prog true AtRel (DE (EvS (W.heap.size+4) (W.heap.size+2))) StopG (mT+40) (G ((bK kd).at ⟨#[.slice A la ca,.slice B lb cb,x2,x3,x4,x5,x6,x7,x8,x9,x10,x11,x12,x13,x14,x15,x16,x17,x18,x19,x20,x21,x22,x23,x24],[]⟩ [.code bodyD]) cs) W:=by
 have hmax:(if la<lb then (lb:Int) else (la:Int))=(n:Int):=by split <;> omega
 have hn64:n≤64:=by omega
 clear hn
 have hi:=infoB
 obtain ⟨i0,hi0⟩:∃ i0,Tryz.prog.info? 4=some i0:=by
  cases h:Tryz.prog.info? 4 with
  | none=>rw [h] at hi;cases hi
  | some i=>exact ⟨i,rfl⟩
 rw [hi0] at hi
 simp only [Option.map_some,Option.some.injEq,Prod.mk.injEq] at hi
 obtain ⟨hz0,hz1,hz2⟩:=hi
 have hmk:=fun w=>run_make (P:=Tryz.prog) w 81 4 i0 (.bool false) Tryz.underlying81 hi0 hz0 .i64 .i64 n n (by omega) (by omega) (by rw [hz2];omega) (by omega)
 have hme:=fun w es=>events_make (P:=Tryz.prog) w 81 4 i0 (.bool false) Tryz.underlying81 hi0 hz0 .i64 .i64 n n (by omega) (by omega) (by rw [hz2];omega) (by omega) (by rw [hz2];omega) es
 simp only [loopD,tailD,ptr,bodyD,Tryz.f54,Option.getD_some] at hT ⊢
 l_c stepG_seq
 l_reg
 l_in
 refine goes_oper_k rfl rfl hk (fun K hK=>?_)
 go_simp
 refine hK _ _ ⟨fun e he=>?_,?_⟩
 ·have hm:=mem_listed he
  simp [go_sem,storedEv, *] at hm
  try (subst hm;exact evS_cell _ _ _ (by simp <;> omega) (by simp <;> omega) (‹ShyD _ _ _ _›.own _ _ (by simp <;> omega) (by simp <;> omega) (by simp <;> omega)))
 clear hK K
 l_in
 refine goes_oper_k rfl rfl hk (fun K hK=>?_)
 go_simp
 refine hK _ _ ⟨fun e he=>?_,?_⟩
 ·have hm:=mem_listed he
  simp [go_sem,storedEv, *] at hm
  try (subst hm;exact evS_cell _ _ _ (by simp <;> omega) (by simp <;> omega) (‹ShyD _ _ _ _›.own _ _ (by simp <;> omega) (by simp <;> omega) (by simp <;> omega)))
 clear hK K
 l_in
 refine goes_oper_k rfl rfl hk (fun K hK=>?_)
 go_simp
 refine hK _ _ ⟨fun e he=>?_,?_⟩
 ·have hm:=mem_listed he
  simp [go_sem,storedEv, *] at hm
  try (subst hm;exact evS_cell _ _ _ (by simp <;> omega) (by simp <;> omega) (‹ShyD _ _ _ _›.own _ _ (by simp <;> omega) (by simp <;> omega) (by simp <;> omega)))
 clear hK K
 l_c stepG_region_end
 l_c stepG_seq
 l_reg
 l_in
 refine goes_oper_k rfl rfl hk (fun K hK=>?_)
 go_simp
 refine hK _ _ ⟨fun e he=>?_,?_⟩
 ·have hm:=mem_listed he
  simp [go_sem,storedEv, *] at hm
  try (subst hm;exact evS_cell _ _ _ (by simp <;> omega) (by simp <;> omega) (‹ShyD _ _ _ _›.own _ _ (by simp <;> omega) (by simp <;> omega) (by simp <;> omega)))
 clear hK K
 l_in
 refine goes_oper_k rfl rfl hk (fun K hK=>?_)
 go_simp
 refine hK _ _ ⟨fun e he=>?_,?_⟩
 ·have hm:=mem_listed he
  simp [go_sem,storedEv, *] at hm
  try (subst hm;exact evS_cell _ _ _ (by simp <;> omega) (by simp <;> omega) (‹ShyD _ _ _ _›.own _ _ (by simp <;> omega) (by simp <;> omega) (by simp <;> omega)))
 clear hK K
 l_in
 refine goes_oper_k rfl rfl hk (fun K hK=>?_)
 go_simp
 refine hK _ _ ⟨fun e he=>?_,?_⟩
 ·have hm:=mem_listed he
  simp [go_sem,storedEv, *] at hm
  try (subst hm;exact evS_cell _ _ _ (by simp <;> omega) (by simp <;> omega) (‹ShyD _ _ _ _›.own _ _ (by simp <;> omega) (by simp <;> omega) (by simp <;> omega)))
 clear hK K
 l_in
 refine goes_oper_k rfl rfl hk (fun K hK=>?_)
 go_simp
 refine hK _ _ ⟨fun e he=>?_,?_⟩
 ·have hm:=mem_listed he
  simp [go_sem,storedEv, *] at hm
  try (subst hm;exact evS_cell _ _ _ (by simp <;> omega) (by simp <;> omega) (‹ShyD _ _ _ _›.own _ _ (by simp <;> omega) (by simp <;> omega) (by simp <;> omega)))
 clear hK K
 l_in
 refine goes_oper_k rfl rfl hk (fun K hK=>?_)
 go_simp
 refine hK _ _ ⟨fun e he=>?_,?_⟩
 ·have hm:=mem_listed he
  simp [go_sem,storedEv, *] at hm
  try (subst hm;exact evS_cell _ _ _ (by simp <;> omega) (by simp <;> omega) (‹ShyD _ _ _ _›.own _ _ (by simp <;> omega) (by simp <;> omega) (by simp <;> omega)))
 clear hK K
 simp only [hmax]
 l_in
 refine goes_oper_k rfl rfl hk (fun K hK=>?_)
 go_simp
 refine hK _ _ ⟨fun e he=>?_,?_⟩
 ·have hm:=mem_listed he
  simp [go_sem,storedEv, *] at hm
  try (subst hm;exact evS_cell _ _ _ (by simp <;> omega) (by simp <;> omega) (‹ShyD _ _ _ _›.own _ _ (by simp <;> omega) (by simp <;> omega) (by simp <;> omega)))
 clear hK K
 l_in
 refine goes_oper_k rfl rfl hk (fun K hK=>?_)
 go_simp
 refine hK _ _ ⟨fun e he=>?_,?_⟩
 ·have hm:=mem_listed he
  simp [go_sem,storedEv, *] at hm
  try (subst hm;exact evS_cell _ _ _ (by simp <;> omega) (by simp <;> omega) (‹ShyD _ _ _ _›.own _ _ (by simp <;> omega) (by simp <;> omega) (by simp <;> omega)))
 clear hK K
 l_in
 refine goes_oper_k rfl rfl hk (fun K hK=>?_)
 go_simp
 refine hK _ _ ⟨fun e he=>?_,?_⟩
 ·have hm:=mem_listed he
  simp [go_sem,storedEv, *] at hm
  try (subst hm;exact evS_cell _ _ _ (by simp <;> omega) (by simp <;> omega) (‹ShyD _ _ _ _›.own _ _ (by simp <;> omega) (by simp <;> omega) (by simp <;> omega)))
 clear hK K
 l_c stepG_region_end
 l_c stepG_seq
 l_reg
 l_in
 refine goes_oper_k rfl rfl hk (fun K hK=>?_)
 go_simp
 refine hK _ _ ⟨fun e he=>?_,?_⟩
 ·have hm:=mem_listed he
  simp [go_sem,storedEv, *] at hm
  try (subst hm;exact evS_cell _ _ _ (by simp <;> omega) (by simp <;> omega) (‹ShyD _ _ _ _›.own _ _ (by simp <;> omega) (by simp <;> omega) (by simp <;> omega)))
 clear hK K
 l_c stepG_region_end
 l_c stepG_seq
 l_c stepG_seq
 l_reg
 l_in
 refine goes_oper_k rfl rfl hk (fun K hK=>?_)
 go_simp
 refine hK _ _ ⟨fun e he=>?_,?_⟩
 ·have hm:=mem_listed he
  simp [go_sem,storedEv, *] at hm
  try (subst hm;exact evS_cell _ _ _ (by simp <;> omega) (by simp <;> omega) (‹ShyD _ _ _ _›.own _ _ (by simp <;> omega) (by simp <;> omega) (by simp <;> omega)))
 clear hK K
 l_in
 refine goes_oper_k rfl rfl hk (fun K hK=>?_)
 go_simp
 refine hK _ _ ⟨fun e he=>?_,?_⟩
 ·have hm:=mem_listed he
  simp [go_sem,storedEv, *] at hm
  try (subst hm;exact evS_cell _ _ _ (by simp <;> omega) (by simp <;> omega) (‹ShyD _ _ _ _›.own _ _ (by simp <;> omega) (by simp <;> omega) (by simp <;> omega)))
 clear hK K
 l_c stepG_region_end
 l_c stepG_block
 l_c stepG_loop
 refine Goes.mono (n:=mT) ?_ (by omega)
 simp (disch:=(simp;done)) only [alloc_setCell] at *
 exact Goes.rely atRel_trans hT ⟨_,rfl⟩
end
end Go.Proofs.YtpcjdalgebgofaaGreatDoor
namespace Go.Proofs.YtpcjdalgebgofaaGreatDoor
open Go Go.Conc Go.ConcX Go.RowKit Go.Conc.Lib Go.ConcX.Gen
structure FJD (W:World) (A:Option Addr) (la ca:Nat) (B:Option Addr) (lb cb n:Nat) (x:Option Int) (w:World):Prop where
 below:Below W.heap.size W w
 b0:w.heap[W.heap.size]?=some (.cells #[.slice A la ca] 31)
 b1:w.heap[W.heap.size+1]?=some (.cells #[.slice B lb cb] 31)
 b3:w.heap[W.heap.size+3]?=some (.cells #[.slice (some ⟨W.heap.size+2,0,none⟩) n n] 81)
 b5:w.heap[W.heap.size+5]?=some (.cells #[.int .i64 0] 3)
 tail:match x with
  | none=>w.heap.size=W.heap.size+6
  | some z=>w.heap.size=W.heap.size+7∧w.heap[W.heap.size+6]?=some (.cells #[.int .i64 z] 3)
section
variable {W:World} {A B:Option Addr} {la ca lb cb n:Nat} {x:Option Int} {w w':World}
theorem FJD.size_ge (h:FJD W A la ca B lb cb n x w):W.heap.size+6≤w.heap.size:=by
 have:=h.tail
 cases x with
 | none=>simp only at this;omega
 | some z=>simp only at this;omega
theorem FJD.aside2 (h:FJD W A la ca B lb cb n x w) (ha:Aside2 (W.heap.size+2) (W.heap.size+4) w w'):FJD W A la ca B lb cb n x w':=by
 have hb:∀ b,b≠W.heap.size+2→b≠W.heap.size+4→w'.heap[b]?=w.heap[b]?:=ha.block
 refine ⟨⟨ha.os.trans h.below.os,ha.tape.trans h.below.tape,ha.output.trans h.below.output,by rw [ha.size];exact h.below.size,fun k hk=>(hb k (by omega) (by omega)).trans (h.below.block k hk)⟩,
  (hb _ (by omega) (by omega)).trans h.b0,(hb _ (by omega) (by omega)).trans h.b1,(hb _ (by omega) (by omega)).trans h.b3,(hb _ (by omega) (by omega)).trans h.b5,?_⟩
 have ht:=h.tail
 cases x with
 | none=>simp only at ht ⊢;rw [ha.size];exact ht
 | some z=>simp only at ht ⊢;rw [ha.size];exact ⟨ht.1,(hb _ (by omega) (by omega)).trans ht.2⟩
theorem FJD.outv (h:FJD W A la ca B lb cb n x w):w.cell? ⟨W.heap.size+3,0,none⟩=some (.slice (some ⟨W.heap.size+2,0,none⟩) n n):=by simp [World.cell?,h.b3]
theorem FJD.fromv (h:FJD W A la ca B lb cb n x w):w.cell? ⟨W.heap.size+5,0,none⟩=some (.int .i64 0):=by simp [World.cell?,h.b5]
theorem FJD.nextv {z:Int} (h:FJD W A la ca B lb cb n (some z) w):w.cell? ⟨W.heap.size+6,0,none⟩=some (.int .i64 z):=by simp [World.cell?,h.tail.2]
theorem FJD.alloc (h:FJD W A la ca B lb cb n none w):FJD W A la ca B lb cb n (some 0) (w.alloc (.cells #[.int .i64 0] 3)):=by
 have hs:w.heap.size=W.heap.size+6:=h.tail
 have hb:∀ b,b<W.heap.size+6→(w.alloc (.cells #[.int .i64 0] 3)).heap[b]?=w.heap[b]?:=fun b hlt=>Below.heap_alloc _ _ _ (by omega)
 refine ⟨h.below.alloc (by omega) _,(hb _ (by omega)).trans h.b0,(hb _ (by omega)).trans h.b1,(hb _ (by omega)).trans h.b3,(hb _ (by omega)).trans h.b5,?_,?_⟩
 ·simp [hs]
 ·have:=heap_alloc_new w (.cells #[.int .i64 0] 3)
  rw [hs] at this
  exact this
theorem FJD.set {y z:Int} (h:FJD W A la ca B lb cb n (some y) w):FJD W A la ca B lb cb n (some z) (w.setCell ⟨W.heap.size+6,0,none⟩ (.int .i64 z)):=by
 have hA:=aside_setCell w ⟨W.heap.size+6,0,none⟩ (.int .i64 z)
 have hb:∀ b,b≠W.heap.size+6→(w.setCell ⟨W.heap.size+6,0,none⟩ (.int .i64 z)).heap[b]?=w.heap[b]?:=fun b hb=>hA.block b (by simpa using hb)
 obtain ⟨t1,t2⟩:=h.tail
 refine ⟨⟨hA.os.trans h.below.os,hA.tape.trans h.below.tape,hA.output.trans h.below.output,by rw [hA.size];exact h.below.size,fun k hk=>(hb k (by omega)).trans (h.below.block k hk)⟩,(hb _ (by omega)).trans h.b0,(hb _ (by omega)).trans h.b1,(hb _ (by omega)).trans h.b3,(hb _ (by omega)).trans h.b5,?_,?_⟩
 ·rw [hA.size];exact t1
 ·rw [setCell_eq_setRow w (W.heap.size+6) 0 #[.int .i64 y] 3 (0,0) _ t2,setRow_heap w (W.heap.size+6) _ _ 3 _ t2]
  rfl
end
theorem kpa_low {ty:TypeId} {Wg C Low:Nat} [Shy Wg C] {vals:List Value} (hW:Wg<Low) (hC:C<Low) {w w':World} (h:KPa ty Wg C vals w) (hb:∀ b,b<Low→w'.heap[b]?=w.heap[b]?):KPa ty Wg C vals w' :=
 h.imp (fun k=>(hb Wg hW).trans k) fun k=>⟨(hb Wg hW).trans k.1,fun e=>(hb C hC).trans (k.2 e)⟩
section
variable {N:Nat} [Shy (N+4) (N+2)]
theorem evD_read0 (a:Addr) (s:Bool) (h:a.block≠N+4) (h':a.block≠N+2) (hk:Shy.ok (N+4) (N+2) (.access ⟨.cell a,false,s⟩)):EvQ (MineD N) (N+4) (N+2) 0 ⟨.cell a,false,s⟩:=by
 refine ⟨fun fn pos=>⟨rfl,fun x hx=>?_,by rw [ofEvent_cell];simp,by rw [ofEvent_cell];exact hk⟩,by simp,by simp,by simp⟩
 simp only [ofEvent_cell,MemAct.touch?,Option.some.injEq] at hx
 subst hx
 refine ⟨.inr (.inl ⟨rfl,fun e=>by cases e⟩),fun hs=>?_,fun ⟨y,hy,hyb,_⟩=>?_⟩
 ·rcases hs with ⟨y,hy,hyb⟩|hs
  ·cases hy;exact absurd hyb h
  ·cases hs
 ·cases hy;exact absurd hyb h'
theorem evD_write0 (a:Addr) (s:Bool) (h:N+6≤a.block) (hk:Shy.ok (N+4) (N+2) (.access ⟨.cell a,true,s⟩)):EvQ (MineD N) (N+4) (N+2) 0 ⟨.cell a,true,s⟩:=by
 refine ⟨fun fn pos=>⟨rfl,fun x hx=>?_,by rw [ofEvent_cell];simp,by rw [ofEvent_cell];exact hk⟩,by simp,by simp,by simp⟩
 simp only [ofEvent_cell,MemAct.touch?,Option.some.injEq] at hx
 subst hx
 refine ⟨.inr (.inl ⟨rfl,fun _=>⟨a,rfl,h⟩⟩),fun hs=>?_,fun ⟨y,hy,hyb,_⟩=>?_⟩
 ·rcases hs with ⟨y,hy,hyb⟩|hs
  ·cases hy;omega
  ·cases hs
 ·cases hy;omega
theorem evDJ_read (a:Addr) (s:Bool) (h:a.block≠N+4) (h':a.block≠N+2) (hk:Shy.ok (N+4) (N+2) (.access ⟨.cell a,false,s⟩)):EvJ (MineD N) (N+4) (N+2) ⟨.cell a,false,s⟩:=by
 refine ⟨fun fn pos=>⟨rfl,fun x hx=>?_,by rw [ofEvent_cell];simp,by rw [ofEvent_cell];exact hk⟩,by simp,by simp⟩
 simp only [ofEvent_cell,MemAct.touch?,Option.some.injEq] at hx
 subst hx
 refine ⟨.inr (.inl ⟨rfl,fun e=>by cases e⟩),fun hs=>?_,fun ⟨y,hy,hyb,_⟩=>?_⟩
 ·rcases hs with ⟨y,hy,hyb⟩|hs
  ·cases hy;exact absurd hyb h
  ·cases hs
 ·cases hy;exact absurd hyb h'
end
section
variable (W:World) (A B:Option Addr) (la ca lb cb n:Nat)
theorem fjP:FJD W A la ca B lb cb n none (wP W A B la ca lb cb n):=by
 unfold wP
 have e0:=heap_alloc_new W (.cells #[.slice A la ca] 31)
 have e1:=heap_alloc_new (W.alloc (.cells #[.slice A la ca] 31)) (.cells #[.slice B lb cb] 31)
 have e3:=heap_alloc_new (((W.alloc (.cells #[.slice A la ca] 31)).alloc (.cells #[.slice B lb cb] 31)).alloc (.cells (madeCells #[.bool false] n) 4)) (.cells #[.slice (some ⟨W.heap.size+2,0,none⟩) n n] 81)
 have e5:=heap_alloc_new (((((W.alloc (.cells #[.slice A la ca] 31)).alloc (.cells #[.slice B lb cb] 31)).alloc (.cells (madeCells #[.bool false] n) 4)).alloc (.cells #[.slice (some ⟨W.heap.size+2,0,none⟩) n n] 81)).alloc (.cells #[.int .u64 0,.int .u32 0] 138)) (.cells #[.int .i64 0] 3)
 simp only [World.size_alloc] at e0 e1 e3 e5
 refine ⟨((((((Below.refl _ W).alloc (Nat.le_refl _) _).alloc (by simp) _).alloc (by simp;omega) _).alloc (by simp;omega) _).alloc (by simp;omega) _).alloc (by simp;omega) _,?_,?_,?_,?_,?_⟩
 ·rw [Below.heap_alloc _ _ _ (by simp only [World.size_alloc];omega),Below.heap_alloc _ _ _ (by simp only [World.size_alloc];omega),Below.heap_alloc _ _ _ (by simp only [World.size_alloc];omega),Below.heap_alloc _ _ _ (by simp only [World.size_alloc];omega),Below.heap_alloc _ _ _ (by simp only [World.size_alloc];omega)]
  exact e0
 ·rw [Below.heap_alloc _ _ _ (by simp only [World.size_alloc];omega),Below.heap_alloc _ _ _ (by simp only [World.size_alloc];omega),Below.heap_alloc _ _ _ (by simp only [World.size_alloc];omega),Below.heap_alloc _ _ _ (by simp only [World.size_alloc];omega)]
  exact e1
 ·rw [Below.heap_alloc _ _ _ (by simp only [World.size_alloc];omega),Below.heap_alloc _ _ _ (by simp only [World.size_alloc];omega)]
  exact e3
 ·exact e5
 ·simp
theorem wgP:WgAt 138 (W.heap.size+4) (wP W A B la ca lb cb n) 0 0:=by
 unfold wP WgAt wgBlock
 have e:=heap_alloc_new ((((W.alloc (.cells #[.slice A la ca] 31)).alloc (.cells #[.slice B lb cb] 31)).alloc (.cells (madeCells #[.bool false] n) 4)).alloc (.cells #[.slice (some ⟨W.heap.size+2,0,none⟩) n n] 81)) (.cells #[.int .u64 0,.int .u32 0] 138)
 simp only [World.size_alloc] at e
 rw [Below.heap_alloc _ _ _ (by simp only [World.size_alloc];omega)]
 exact e
theorem rowP:(wP W A B la ca lb cb n).heap[W.heap.size+2]?=some (.cells (madeCells #[.bool false] n) 4):=by
 unfold wP
 have e:=heap_alloc_new ((W.alloc (.cells #[.slice A la ca] 31)).alloc (.cells #[.slice B lb cb] 31)) (.cells (madeCells #[.bool false] n) 4)
 simp only [World.size_alloc] at e
 rw [Below.heap_alloc _ _ _ (by simp only [World.size_alloc];omega),Below.heap_alloc _ _ _ (by simp only [World.size_alloc];omega),Below.heap_alloc _ _ _ (by simp only [World.size_alloc];omega)]
 exact e
end
end Go.Proofs.YtpcjdalgebgofaaGreatDoor

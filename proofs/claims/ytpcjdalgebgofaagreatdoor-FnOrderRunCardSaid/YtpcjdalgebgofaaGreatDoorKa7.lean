/-
  Lemmas and contracts: Ue. No condition.
-/
import Derived.Conc.CompanyDraw
import Derived.Laws.MakeOwn
import Derived.Test.YtpcjdalgebgofaaGreatDoorKa6
set_option linter.unusedSimpArgs false
set_option linter.unusedVariables false
set_option linter.unusedSectionVars false
namespace Go.Proofs.YtpcjdalgebgofaaGreatDoor
open Go Go.Conc Go.ConcX Go.RowKit Go.Conc.Lib Go.ConcX.Gen
instance payD:Payload:=⟨4⟩
@[go_sem] theorem events_min2 (P:Program) (w:World) (es:Array Event) (ts:Array TypeId) (t:TypeId) (a b:Int):(Builtin.min_ ts t #[.int .i64 a,.int .i64 b]).events P w es=es:=by simp [Builtin.min_,Builtin.min2,go_sem]
@[go_sem] theorem events_max2 (P:Program) (w:World) (es:Array Event) (ts:Array TypeId) (t:TypeId) (a b:Int):(Builtin.max_ ts t #[.int .i64 a,.int .i64 b]).events P w es=es:=by simp [Builtin.max_,Builtin.max2,go_sem]
theorem w64:IntKind.i64.wrap 64=64:=by decide
def difB (la lb:Nat) (zs ws:List Int) (i:Nat):Bool:=decide (la≤i) || (decide (lb≤i) || (zs.getD i 0 != ws.getD i 0))
def difV (la lb:Nat) (zs ws:List Int) (i:Nat):Value:=.bool (difB la lb zs ws i)
def difs (la lb:Nat) (zs ws:List Int):Nat→Nat→List Value
 | _,0=>[]
 | k,m+1=>difV la lb zs ws k :: difs la lb zs ws (k+1) m
@[simp] theorem difs_length (la lb:Nat) (zs ws:List Int):∀ (m k:Nat),(difs la lb zs ws k m).length=m
 | 0,_=>rfl
 | m+1,k=>by simp [difs,difs_length la lb zs ws m]
theorem difs_get (la lb:Nat) (zs ws:List Int):∀ (m k i:Nat),i<m→(difs la lb zs ws k m)[i]?=some (difV la lb zs ws (k+i))
 | m+1,k,0,_=>by simp [difs]
 |m+1,k,i+1,h=>by
  simp only [difs,List.getElem?_cons_succ]
  rw [difs_get la lb zs ws m (k+1) i (by omega)]
  congr 2
  omega
class ShyD (N m:Nat) (A B:Option Addr) [Shy (N+4) (N+2)]:Prop where
 own:∀ (a:Addr) (wr:Bool),N≤a.block→a.block<N+6→a.block≠N+4→Shy.ok (N+4) (N+2) (.access ⟨.cell a,wr,false⟩)
 src:∀ (ad:Addr) (j:Nat),0<m→(A=some ad∨B=some ad)→Shy.ok (N+4) (N+2) (.access ⟨.cell (ad.add j),false,false⟩)
class ShyE (N:Nat) [Shy (N+4) (N+2)]:Prop where
 own6:∀ (a:Addr) (wr:Bool),a.block=N+6→Shy.ok (N+4) (N+2) (.access ⟨.cell a,wr,false⟩)
def MineD (N:Nat):Loc→Prop:=fun l=>∃ a,l=.cell a∧N+6≤a.block
def bC:Frame:=baseD 95
noncomputable def botC:Frame:={ (default:Frame) with fn:=Tryz.prog.funcs.size,defers:=[],mode:=.panicking [goexitEntry] }
noncomputable def bodyC:Code:=Tryz.f95.body.getD .skip
noncomputable def LC:Code:=match bodyC with|.seq _ (.seq _ (.block _ (.loop c)))=>c|_=>.skip
def ptr (b:Nat):Value:=.pointer (some ⟨b,0,none⟩)
def callC (N:Nat):Deferred:={ target:=.fn (.func 95) #[ptr (N+4),ptr (N+5),ptr (N+3),ptr N,ptr (N+1)],args:=#[] }
structure CKD (N:Nat) (A B:Option Addr) (la ca lb cb n:Nat) (zs ws:List Int) (j:Nat) (w:World):Prop where
 av:w.cell? ⟨N,0,none⟩=some (.slice A la ca)
 bv:w.cell? ⟨N+1,0,none⟩=some (.slice B lb cb)
 outv:w.cell? ⟨N+3,0,none⟩=some (.slice (some ⟨N+2,0,none⟩) n n)
 fromv:w.cell? ⟨N+5,0,none⟩=some (.int .i64 0)
 ela:∀ i ad,i<la→i<lb→A=some ad→w.cell? (ad.add i)=some (.int .i64 (zs.getD i 0))
 elb:∀ i ad,i<la→i<lb→B=some ad→w.cell? (ad.add i)=some (.int .i64 (ws.getD i 0))
 k:KCa 138 (N+4) w
 fill:∃ arr:Array Value,w.heap[N+2]?=some (.cells arr 4)∧arr.size=n∧∀ i,i<j→arr[i]?=some (difV la lb zs ws i)
section
variable {N:Nat} {A B:Option Addr} {la ca lb cb n:Nat} [Shy (N+4) (N+2)] [ShyD N (min la lb) A B] {zs ws:List Int} {j:Nat} {w w₁:World}
theorem CKD.rely (hb:∀ ad,0<min la lb→(A=some ad∨B=some ad)→ad.block<N) (h:CKD N A B la ca lb cb n zs ws j w) (r:RCa 138 (N+4) (N+6) w w₁):CKD N A B la ca lb cb n zs ws j w₁:=by
 have hl:∀ b,b<N+6→b≠N+4→w₁.heap[b]?=w.heap[b]?:=fun b h1 h2=>r.low b h1 h2
 obtain ⟨arr,h1,h2,h3⟩:=h.fill
 refine ⟨(World.cell?_of_block (hl N (by omega) (by omega))).trans h.av,(World.cell?_of_block (hl (N+1) (by omega) (by omega))).trans h.bv,(World.cell?_of_block (hl (N+3) (by omega) (by omega))).trans h.outv,(World.cell?_of_block (hl (N+5) (by omega) (by omega))).trans h.fromv,?_,?_,r.k h.k,arr,(hl (N+2) (by omega) (by omega)).trans h1,h2,h3⟩
 ·intro i ad hi hi' ha
  have:=hb ad (by omega) (.inl ha)
  exact (World.cell?_of_block (hl (ad.add i).block (by rw [add_block];omega) (by rw [add_block];omega))).trans (h.ela i ad hi hi' ha)
 ·intro i ad hi hi' ha
  have:=hb ad (by omega) (.inr ha)
  exact (World.cell?_of_block (hl (ad.add i).block (by rw [add_block];omega) (by rw [add_block];omega))).trans (h.elb i ad hi hi' ha)
theorem CKD.cellAt (h:CKD N A B la ca lb cb n zs ws j w) (hj:j<n):∃ u,w.cell? ⟨N+2,j,none⟩=some u∧w.frozen? ⟨N+2,j,none⟩=false:=by
 obtain ⟨arr,h1,h2,_⟩:=h.fill
 exact ⟨arr[j]'(by omega),by simp [World.cell?,h1,h2,hj],by simp [World.frozen?,h1]⟩
theorem CKD.store (hb:∀ ad,0<min la lb→(A=some ad∨B=some ad)→ad.block<N) (h:CKD N A B la ca lb cb n zs ws j w) (hj:j<n):CKD N A B la ca lb cb n zs ws (j+1) (w.setCell ⟨N+2,j,none⟩ (difV la lb zs ws j)):=by
 have hA:=aside_setCell w ⟨N+2,j,none⟩ (difV la lb zs ws j)
 obtain ⟨arr,h1,h2,h3⟩:=h.fill
 refine ⟨(World.cell?_of_block (hA.block N (by simp))).trans h.av,(World.cell?_of_block (hA.block (N+1) (by simp))).trans h.bv,(World.cell?_of_block (hA.block (N+3) (by simp))).trans h.outv,(World.cell?_of_block (hA.block (N+5) (by simp))).trans h.fromv,?_,?_,
  h.k.imp (fun x=>x.of_block (hA.block _ (by simp))) (fun x=>x.of_block (hA.block _ (by simp))),arr.setIfInBounds j (difV la lb zs ws j),?_,by simpa using h2,fun i hi=>?_⟩
 ·intro i ad hi hi' ha
  have:=hb ad (by omega) (.inl ha)
  exact (World.cell?_of_block (hA.block (ad.add i).block (by rw [add_block];simp;omega))).trans (h.ela i ad hi hi' ha)
 ·intro i ad hi hi' ha
  have:=hb ad (by omega) (.inr ha)
  exact (World.cell?_of_block (hA.block (ad.add i).block (by rw [add_block];simp;omega))).trans (h.elb i ad hi hi' ha)
 ·rw [setCell_eq_setRow w (N+2) j arr 4 (0,0) _ h1,setRow_heap w (N+2) _ _ 4 _ h1]
 ·rcases Nat.lt_or_ge i j with hlt|hge
  ·rw [Array.getElem?_setIfInBounds_ne (by omega)];exact h3 i hlt
  ·obtain rfl:i=j:=by omega
   rw [Array.getElem?_setIfInBounds_self_of_lt (by omega)]
theorem CKD.full (h:CKD N A B la ca lb cb n zs ws n w):Full (N+2) (difs la lb zs ws 0 n) w:=by
 obtain ⟨arr,h1,h2,h3⟩:=h.fill
 intro _
 rw [h1]
 have:arr=(difs la lb zs ws 0 n).toArray:=by
  apply Array.ext_getElem?
  intro i
  rcases Nat.lt_or_ge i n with hlt|hge
  ·rw [h3 i hlt,List.getElem?_toArray,difs_get la lb zs ws n 0 i hlt,Nat.zero_add]
  ·rw [Array.getElem?_eq_none (by omega),List.getElem?_toArray,List.getElem?_eq_none (by simp;omega)]
 rw [this]
 rfl
theorem evD_read1 (a:Addr) (s:Bool) (h:a.block<N+6) (h':a.block≠N+2) (h2:a.block≠N+4) (hk:Shy.ok (N+4) (N+2) (.access ⟨.cell a,false,s⟩)):EvQ (MineD N) (N+4) (N+2) 1 ⟨.cell a,false,s⟩:=by
 refine ⟨fun fn pos=>⟨rfl,fun x hx=>?_,by rw [ofEvent_cell];simp,by rw [ofEvent_cell];exact hk⟩,by simp,by simp,by simp⟩
 simp only [ofEvent_cell,MemAct.touch?,Option.some.injEq] at hx
 subst hx
 refine ⟨.inr (.inr ⟨rfl,rfl,fun ⟨y,hy,hyb⟩=>?_⟩),fun hs=>?_,fun ⟨y,hy,hyb,_⟩=>?_⟩
 ·cases hy;omega
 ·rcases hs with ⟨y,hy,hyb⟩|hs
  ·cases hy;omega
  ·cases hs
 ·cases hy;exact absurd hyb h'
theorem evD_theirs (j:Nat):EvQ (MineD N) (N+4) (N+2) 1 ⟨.cell ⟨N+2,j,none⟩,true,false⟩ :=
 ⟨fun fn pos=>by rw [ofEvent_cell];exact okOp_theirs rfl (show N+2≠N+4 by omega) _,by simp,by simp,by simp⟩
end
theorem loudC:(Tryz.prog.funcs[bC.fn]?).any (·.norace)=false:=by kernel_rfl
theorem termsCD (N:Nat) [Shy (N+4) (N+2)]:Terms (RCa 138 (N+4) (N+6)) (DCs (MineD N) (N+4) (N+2)) :=
 ⟨fun _ _ _ h k=>⟨fun x h1 h2=>(k.low x h1 h2).trans (h.low x h1 h2),fun z=>k.k (h.k z)⟩,fun _=>⟨Aside.refl _ _,by simp⟩⟩
theorem array40 (T:Array Value) (h:T.size=40):∃ v0 v1 v2 v3 v4 v5 v6 v7 v8 v9 v10 v11 v12 v13 v14 v15 v16 v17 v18 v19 v20 v21 v22 v23 v24 v25 v26 v27 v28 v29 v30 v31 v32 v33 v34 v35 v36 v37 v38 v39:Value,T=#[v0,v1,v2,v3,v4,v5,v6,v7,v8,v9,v10,v11,v12,v13,v14,v15,v16,v17,v18,v19,v20,v21,v22,v23,v24,v25,v26,v27,v28,v29,v30,v31,v32,v33,v34,v35,v36,v37,v38,v39]:=by
 obtain ⟨l⟩:=T
 simp only [List.size_toArray] at h
 rcases l with _|⟨v0,l⟩
 ·simp at h
 rcases l with _|⟨v1,l⟩
 ·simp at h
 rcases l with _|⟨v2,l⟩
 ·simp at h
 rcases l with _|⟨v3,l⟩
 ·simp at h
 rcases l with _|⟨v4,l⟩
 ·simp at h
 rcases l with _|⟨v5,l⟩
 ·simp at h
 rcases l with _|⟨v6,l⟩
 ·simp at h
 rcases l with _|⟨v7,l⟩
 ·simp at h
 rcases l with _|⟨v8,l⟩
 ·simp at h
 rcases l with _|⟨v9,l⟩
 ·simp at h
 rcases l with _|⟨v10,l⟩
 ·simp at h
 rcases l with _|⟨v11,l⟩
 ·simp at h
 rcases l with _|⟨v12,l⟩
 ·simp at h
 rcases l with _|⟨v13,l⟩
 ·simp at h
 rcases l with _|⟨v14,l⟩
 ·simp at h
 rcases l with _|⟨v15,l⟩
 ·simp at h
 rcases l with _|⟨v16,l⟩
 ·simp at h
 rcases l with _|⟨v17,l⟩
 ·simp at h
 rcases l with _|⟨v18,l⟩
 ·simp at h
 rcases l with _|⟨v19,l⟩
 ·simp at h
 rcases l with _|⟨v20,l⟩
 ·simp at h
 rcases l with _|⟨v21,l⟩
 ·simp at h
 rcases l with _|⟨v22,l⟩
 ·simp at h
 rcases l with _|⟨v23,l⟩
 ·simp at h
 rcases l with _|⟨v24,l⟩
 ·simp at h
 rcases l with _|⟨v25,l⟩
 ·simp at h
 rcases l with _|⟨v26,l⟩
 ·simp at h
 rcases l with _|⟨v27,l⟩
 ·simp at h
 rcases l with _|⟨v28,l⟩
 ·simp at h
 rcases l with _|⟨v29,l⟩
 ·simp at h
 rcases l with _|⟨v30,l⟩
 ·simp at h
 rcases l with _|⟨v31,l⟩
 ·simp at h
 rcases l with _|⟨v32,l⟩
 ·simp at h
 rcases l with _|⟨v33,l⟩
 ·simp at h
 rcases l with _|⟨v34,l⟩
 ·simp at h
 rcases l with _|⟨v35,l⟩
 ·simp at h
 rcases l with _|⟨v36,l⟩
 ·simp at h
 rcases l with _|⟨v37,l⟩
 ·simp at h
 rcases l with _|⟨v38,l⟩
 ·simp at h
 rcases l with _|⟨v39,l⟩
 ·simp at h
 rcases l with _|⟨x,l⟩
 ·exact ⟨v0,v1,v2,v3,v4,v5,v6,v7,v8,v9,v10,v11,v12,v13,v14,v15,v16,v17,v18,v19,v20,v21,v22,v23,v24,v25,v26,v27,v28,v29,v30,v31,v32,v33,v34,v35,v36,v37,v38,v39,rfl⟩
 ·simp at h
theorem CKD.less {N:Nat} {A B:Option Addr} {la ca lb cb n:Nat} {zs ws:List Int} {j:Nat} {w:World} [Shy (N+4) (N+2)] (h:CKD N A B la ca lb cb n zs ws (j+1) w):CKD N A B la ca lb cb n zs ws j w:=by
 obtain ⟨arr,h1,h2,h3⟩:=h.fill
 exact ⟨h.av,h.bv,h.outv,h.fromv,h.ela,h.elb,h.k,arr,h1,h2,fun i hi=>h3 i (by omega)⟩
theorem CKD.drawn {N:Nat} {A B:Option Addr} {la ca lb cb n:Nat} {zs ws:List Int} {j:Nat} {w:World} [Shy (N+4) (N+2)] (h:CKD N A B la ca lb cb n zs ws j w):CKD N A B la ca lb cb n zs ws j { w with drawn:=w.drawn+1 }:=⟨h.av,h.bv,h.outv,h.fromv,h.ela,h.elb,h.k,h.fill⟩
theorem events_store_bool (P:Program) (w:World) (es:Array Event) (a:Addr) (m:Mode) (b:Bool):(store a (.bool b) m).events P w es=storedEv P w es a (.bool b) m:=events_store P w es a _ m rfl
theorem opC_store {R:World→World→Prop} {D:World→World→Array Event→Prop} {fn:FuncId} {ops:Array Oper} {i:Nat} {o:Oper} {K:Act→World→Prop} {a:Act} {w:World} {x y:Operand} {ad:Addr} {v:Bool} (hi:ops[i]?=some o) (hop:o.op=.store 4 x y) (hd:o.dst=none) (hg:o.guard=none)
  (hx:a.eval x=.pointer (some ad)) (hy:a.eval y=.bool v) (hq:(Tryz.prog.funcs[fn]?).any (·.norace)=false)
  (h:∀ w₁,R w w₁→(∃ u,w₁.cell? ad=some u∧w₁.frozen? ad=false)∧D w₁ (w₁.setCell ad (.bool v)) #[⟨.cell ad,true,false⟩]∧K a (w₁.setCell ad (.bool v))):OpC Tryz.prog R D fn ops i K a w:=by
 have hw:Region.wanted o (yielded ops a.tmps)=true:=by simp [Region.wanted,hg]
 unfold OpC
 simp only [hi,hw,if_true]
 intro w₁ h₁
 obtain ⟨⟨u,hc,hz⟩,h2,h3⟩:=h w₁ h₁
 have hr:(execOp a.eval o).run Tryz.prog w₁=.ok .skip (w₁.setCell ad (.bool v)):=by
  unfold execOp
  simp only [hop,hx,hy]
  simp [go_sem,stored,hc,hz]
 have he:(execOp a.eval o).events Tryz.prog w₁ #[]=#[⟨.cell ad,true,false⟩]:=by
  unfold execOp
  simp only [hop,hx,hy]
  simp [go_sem,events_store_bool,storedEv,hc,hz]
 rw [hr]
 show D w₁ _ (Conc.listed Tryz.prog fn a o w₁)∧K (a.put o.dst undef) _
 unfold Conc.listed
 rw [he,seen_eq hq (by simp),hd]
 exact ⟨h2,h3⟩
noncomputable def regC:Code:=match LC with|.seq _ (.seq (.block _ c) _)=>c|_=>.skip
noncomputable def opsC:Array Oper:=match regC with|.region _ ops _=>ops|_=>#[]
noncomputable def op24:Oper:=opsC.getD 24 default
theorem op24_op:op24.op=.store 4 (.tmp 39) (.tmp 38):=by kernel_rfl
theorem op24_dst:op24.dst=none:=by kernel_rfl
theorem op24_guard:op24.guard=none:=by kernel_rfl
def SlotsC (N j:Nat) (T:Array Value):Prop:=T.size=40∧T[0]?=some (ptr (N+4))∧T[1]?=some (ptr (N+5))∧T[2]?=some (ptr (N+3))∧T[3]?=some (ptr N)∧T[4]?=some (ptr (N+1))∧T[5]?=some (.int .i64 j)
def PostC (N:Nat) (A B:Option Addr) [Shy (N+4) (N+2)] (la ca lb cb n:Nat) (zs ws:List Int) (j:Nat) (ds:List Deferred) (e:Exit) (a:Act) (w:World):Prop:=e=.normal∧(∃ T,a=⟨T,ds⟩∧SlotsC N j T)∧CKD N A B la ca lb cb n zs ws (j+1) w
section
variable {N:Nat} {A B:Option Addr} {la ca lb cb n:Nat} [Shy (N+4) (N+2)] [ShyD N (min la lb) A B] {zs ws:List Int} {j:Nat} {w:World}
set_option maxRecDepth 100000 in
set_option maxHeartbeats 4000000 in
theorem region_far (hb:∀ ad,0<min la lb→(A=some ad∨B=some ad)→ad.block<N) (hj:j<n) (hla:la≤j) (hF:CKD N A B la ca lb cb n zs ws j w) (ds:List Deferred)
  (v6 v7 v8 v9 v10 v11 v12 v13 v14 v15 v16 v17 v18 v19 v20 v21 v22 v23 v24 v25 v26 v27 v28 v29 v30 v31 v32 v33 v34 v35 v36 v37 v38 v39:Value) :
  regC.wpC Tryz.prog false (RCa 138 (N+4) (N+6)) (DCs (MineD N) (N+4) (N+2)) bC.fn 27 (PostC N A B la ca lb cb n zs ws j ds)
   ⟨#[ptr (N+4),ptr (N+5),ptr (N+3),ptr N,ptr (N+1),.int .i64 j,v6,v7,v8,v9,v10,v11,v12,v13,v14,v15,v16,v17,v18,v19,v20,v21,v22,v23,v24,v25,v26,v27,v28,v29,v30,v31,v32,v33,v34,v35,v36,v37,v38,v39],ds⟩ w:=by
 have hSR:∀ x y,CKD N A B la ca lb cb n zs ws j x→RCa 138 (N+4) (N+6) x y→CKD N A B la ca lb cb n zs ws j y:=fun _ _ h r=>h.rely hb r
 have hQR:∀ a x y,PostC N A B la ca lb cb n zs ws j ds .normal a x→RCa 138 (N+4) (N+6) x y→PostC N A B la ca lb cb n zs ws j ds .normal a y:=fun _ _ _ h r=>⟨rfl,h.2.1,h.2.2.rely hb r⟩
 have hge:(la:Int)≤(j:Int):=by omega
 have hjn:(j:Int)<(n:Int):=by omega
 simp only [regC,LC,bodyC,Tryz.f95,Option.getD_some,ptr]
 refine wpC_region_held (S:=CKD N A B la ca lb cb n zs ws j) (termsCD N) (fun _=>⟨⟨rfl,rfl,rfl,rfl,fun _ _=>rfl⟩,by simp⟩) (by kernel_rfl) fun w₁ r₁=>?_
 have hS:=(hF.rely hb r₁).drawn
 generalize ({ w₁ with drawn:=w₁.drawn+1 }:World)=w2 at hS ⊢
 clear r₁ hF
 refine anyCH_take (termsCD N) hSR hQR (i:=0) (v:=.slice (some ⟨N+2,0,none⟩) n n) (by simp only [List.getElem?_toArray,List.getElem?_cons_succ,List.getElem?_cons_zero];exact rfl) (by kernel_rfl) (by kernel_rfl) (by kernel_rfl) (.inl ⟨rfl,fun wx hx=>?_⟩) hS ?_
 ·have f1:=hx.outv
  refine ⟨by go_simp,Aside.refl _ _,fun e he=>?_⟩
  have hm:=mem_listed he
  simp [go_sem, *] at hm
  try (subst hm;exact evD_read1 _ _ (by simp <;> omega) (by simp <;> omega) (by simp <;> omega) (‹ShyD _ _ _ _›.own _ _ (by simp <;> omega) (by simp <;> omega) (by simp <;> omega)))
 simp only [Act.put,List.setIfInBounds_toArray,List.set_cons_succ,List.set_cons_zero]
 refine anyCH_take (termsCD N) hSR hQR (i:=1) (v:=.int .i64 j) (by simp only [List.getElem?_toArray,List.getElem?_cons_succ,List.getElem?_cons_zero];exact rfl) (by kernel_rfl) (by kernel_rfl) (by kernel_rfl) (.inl ⟨rfl,fun wx hx=>?_⟩) hS ?_
 ·skip
  refine ⟨by go_simp,Aside.refl _ _,fun e he=>?_⟩
  have hm:=mem_listed he
  simp [go_sem, *] at hm
  try (subst hm;exact evD_read1 _ _ (by simp <;> omega) (by simp <;> omega) (by simp <;> omega) (‹ShyD _ _ _ _›.own _ _ (by simp <;> omega) (by simp <;> omega) (by simp <;> omega)))
 simp only [Act.put,List.setIfInBounds_toArray,List.set_cons_succ,List.set_cons_zero]
 refine anyCH_take (termsCD N) hSR hQR (i:=2) (v:=.int .i64 j) (by simp only [List.getElem?_toArray,List.getElem?_cons_succ,List.getElem?_cons_zero];exact rfl) (by kernel_rfl) (by kernel_rfl) (by kernel_rfl) (.inl ⟨rfl,fun wx hx=>?_⟩) hS ?_
 ·skip
  refine ⟨by go_simp,Aside.refl _ _,fun e he=>?_⟩
  have hm:=mem_listed he
  simp [go_sem, *] at hm
  try (subst hm;exact evD_read1 _ _ (by simp <;> omega) (by simp <;> omega) (by simp <;> omega) (‹ShyD _ _ _ _›.own _ _ (by simp <;> omega) (by simp <;> omega) (by simp <;> omega)))
 simp only [Act.put,List.setIfInBounds_toArray,List.set_cons_succ,List.set_cons_zero]
 refine anyCH_take (termsCD N) hSR hQR (i:=3) (v:=.slice A la ca) (by simp only [List.getElem?_toArray,List.getElem?_cons_succ,List.getElem?_cons_zero];exact rfl) (by kernel_rfl) (by kernel_rfl) (by kernel_rfl) (.inl ⟨rfl,fun wx hx=>?_⟩) hS ?_
 ·have f1:=hx.av
  refine ⟨by go_simp,Aside.refl _ _,fun e he=>?_⟩
  have hm:=mem_listed he
  simp [go_sem, *] at hm
  try (subst hm;exact evD_read1 _ _ (by simp <;> omega) (by simp <;> omega) (by simp <;> omega) (‹ShyD _ _ _ _›.own _ _ (by simp <;> omega) (by simp <;> omega) (by simp <;> omega)))
 simp only [Act.put,List.setIfInBounds_toArray,List.set_cons_succ,List.set_cons_zero]
 refine anyCH_take (termsCD N) hSR hQR (i:=4) (v:=.int .i64 la) (by simp only [List.getElem?_toArray,List.getElem?_cons_succ,List.getElem?_cons_zero];exact rfl) (by kernel_rfl) (by kernel_rfl) (by kernel_rfl) (.inl ⟨rfl,fun wx hx=>?_⟩) hS ?_
 ·skip
  refine ⟨by go_simp,Aside.refl _ _,fun e he=>?_⟩
  have hm:=mem_listed he
  simp [go_sem, *] at hm
  try (subst hm;exact evD_read1 _ _ (by simp <;> omega) (by simp <;> omega) (by simp <;> omega) (‹ShyD _ _ _ _›.own _ _ (by simp <;> omega) (by simp <;> omega) (by simp <;> omega)))
 simp only [Act.put,List.setIfInBounds_toArray,List.set_cons_succ,List.set_cons_zero]
 refine anyCH_take (termsCD N) hSR hQR (i:=5) (v:=.bool true) (by simp only [List.getElem?_toArray,List.getElem?_cons_succ,List.getElem?_cons_zero];exact rfl) (by kernel_rfl) (by kernel_rfl) (by kernel_rfl) (.inl ⟨rfl,fun wx hx=>?_⟩) hS ?_
 ·skip
  refine ⟨by go_simp,Aside.refl _ _,fun e he=>?_⟩
  have hm:=mem_listed he
  simp [go_sem, *] at hm
  try (subst hm;exact evD_read1 _ _ (by simp <;> omega) (by simp <;> omega) (by simp <;> omega) (‹ShyD _ _ _ _›.own _ _ (by simp <;> omega) (by simp <;> omega) (by simp <;> omega)))
 simp only [Act.put,List.setIfInBounds_toArray,List.set_cons_succ,List.set_cons_zero]
 refine anyCH_take (termsCD N) hSR hQR (i:=6) (v:=.bool true) (by simp only [List.getElem?_toArray,List.getElem?_cons_succ,List.getElem?_cons_zero];exact rfl) (by kernel_rfl) (by kernel_rfl) (by kernel_rfl) (.inl ⟨rfl,fun wx hx=>?_⟩) hS ?_
 ·skip
  refine ⟨by go_simp,Aside.refl _ _,fun e he=>?_⟩
  have hm:=mem_listed he
  simp [go_sem, *] at hm
  try (subst hm;exact evD_read1 _ _ (by simp <;> omega) (by simp <;> omega) (by simp <;> omega) (‹ShyD _ _ _ _›.own _ _ (by simp <;> omega) (by simp <;> omega) (by simp <;> omega)))
 simp only [Act.put,List.setIfInBounds_toArray,List.set_cons_succ,List.set_cons_zero]
 refine anyCH_take (termsCD N) hSR hQR (i:=7) (v:=undef) (by simp only [List.getElem?_toArray,List.getElem?_cons_succ,List.getElem?_cons_zero];exact rfl) (by kernel_rfl) (by kernel_rfl) (by kernel_rfl) (.inr ⟨by kernel_rfl,rfl⟩) hS ?_
 simp only [Act.put,List.setIfInBounds_toArray,List.set_cons_succ,List.set_cons_zero]
 refine anyCH_take (termsCD N) hSR hQR (i:=8) (v:=undef) (by simp only [List.getElem?_toArray,List.getElem?_cons_succ,List.getElem?_cons_zero];exact rfl) (by kernel_rfl) (by kernel_rfl) (by kernel_rfl) (.inr ⟨by kernel_rfl,rfl⟩) hS ?_
 simp only [Act.put,List.setIfInBounds_toArray,List.set_cons_succ,List.set_cons_zero]
 refine anyCH_take (termsCD N) hSR hQR (i:=9) (v:=undef) (by simp only [List.getElem?_toArray,List.getElem?_cons_succ,List.getElem?_cons_zero];exact rfl) (by kernel_rfl) (by kernel_rfl) (by kernel_rfl) (.inr ⟨by kernel_rfl,rfl⟩) hS ?_
 simp only [Act.put,List.setIfInBounds_toArray,List.set_cons_succ,List.set_cons_zero]
 refine anyCH_take (termsCD N) hSR hQR (i:=10) (v:=undef) (by simp only [List.getElem?_toArray,List.getElem?_cons_succ,List.getElem?_cons_zero];exact rfl) (by kernel_rfl) (by kernel_rfl) (by kernel_rfl) (.inr ⟨by kernel_rfl,rfl⟩) hS ?_
 simp only [Act.put,List.setIfInBounds_toArray,List.set_cons_succ,List.set_cons_zero]
 refine anyCH_take (termsCD N) hSR hQR (i:=11) (v:=.bool true) (by simp only [List.getElem?_toArray,List.getElem?_cons_succ,List.getElem?_cons_zero];exact rfl) (by kernel_rfl) (by kernel_rfl) (by kernel_rfl) (.inl ⟨rfl,fun wx hx=>?_⟩) hS ?_
 ·skip
  refine ⟨by go_simp,Aside.refl _ _,fun e he=>?_⟩
  have hm:=mem_listed he
  simp [go_sem, *] at hm
  try (subst hm;exact evD_read1 _ _ (by simp <;> omega) (by simp <;> omega) (by simp <;> omega) (‹ShyD _ _ _ _›.own _ _ (by simp <;> omega) (by simp <;> omega) (by simp <;> omega)))
 simp only [Act.put,List.setIfInBounds_toArray,List.set_cons_succ,List.set_cons_zero]
 refine anyCH_take (termsCD N) hSR hQR (i:=12) (v:=.bool true) (by simp only [List.getElem?_toArray,List.getElem?_cons_succ,List.getElem?_cons_zero];exact rfl) (by kernel_rfl) (by kernel_rfl) (by kernel_rfl) (.inl ⟨rfl,fun wx hx=>?_⟩) hS ?_
 ·skip
  refine ⟨by go_simp,Aside.refl _ _,fun e he=>?_⟩
  have hm:=mem_listed he
  simp [go_sem, *] at hm
  try (subst hm;exact evD_read1 _ _ (by simp <;> omega) (by simp <;> omega) (by simp <;> omega) (‹ShyD _ _ _ _›.own _ _ (by simp <;> omega) (by simp <;> omega) (by simp <;> omega)))
 simp only [Act.put,List.setIfInBounds_toArray,List.set_cons_succ,List.set_cons_zero]
 refine anyCH_take (termsCD N) hSR hQR (i:=13) (v:=undef) (by simp only [List.getElem?_toArray,List.getElem?_cons_succ,List.getElem?_cons_zero];exact rfl) (by kernel_rfl) (by kernel_rfl) (by kernel_rfl) (.inr ⟨by kernel_rfl,rfl⟩) hS ?_
 simp only [Act.put,List.setIfInBounds_toArray,List.set_cons_succ,List.set_cons_zero]
 refine anyCH_take (termsCD N) hSR hQR (i:=14) (v:=undef) (by simp only [List.getElem?_toArray,List.getElem?_cons_succ,List.getElem?_cons_zero];exact rfl) (by kernel_rfl) (by kernel_rfl) (by kernel_rfl) (.inr ⟨by kernel_rfl,rfl⟩) hS ?_
 simp only [Act.put,List.setIfInBounds_toArray,List.set_cons_succ,List.set_cons_zero]
 refine anyCH_take (termsCD N) hSR hQR (i:=15) (v:=undef) (by simp only [List.getElem?_toArray,List.getElem?_cons_succ,List.getElem?_cons_zero];exact rfl) (by kernel_rfl) (by kernel_rfl) (by kernel_rfl) (.inr ⟨by kernel_rfl,rfl⟩) hS ?_
 simp only [Act.put,List.setIfInBounds_toArray,List.set_cons_succ,List.set_cons_zero]
 refine anyCH_take (termsCD N) hSR hQR (i:=16) (v:=undef) (by simp only [List.getElem?_toArray,List.getElem?_cons_succ,List.getElem?_cons_zero];exact rfl) (by kernel_rfl) (by kernel_rfl) (by kernel_rfl) (.inr ⟨by kernel_rfl,rfl⟩) hS ?_
 simp only [Act.put,List.setIfInBounds_toArray,List.set_cons_succ,List.set_cons_zero]
 refine anyCH_take (termsCD N) hSR hQR (i:=17) (v:=undef) (by simp only [List.getElem?_toArray,List.getElem?_cons_succ,List.getElem?_cons_zero];exact rfl) (by kernel_rfl) (by kernel_rfl) (by kernel_rfl) (.inr ⟨by kernel_rfl,rfl⟩) hS ?_
 simp only [Act.put,List.setIfInBounds_toArray,List.set_cons_succ,List.set_cons_zero]
 refine anyCH_take (termsCD N) hSR hQR (i:=18) (v:=undef) (by simp only [List.getElem?_toArray,List.getElem?_cons_succ,List.getElem?_cons_zero];exact rfl) (by kernel_rfl) (by kernel_rfl) (by kernel_rfl) (.inr ⟨by kernel_rfl,rfl⟩) hS ?_
 simp only [Act.put,List.setIfInBounds_toArray,List.set_cons_succ,List.set_cons_zero]
 refine anyCH_take (termsCD N) hSR hQR (i:=19) (v:=undef) (by simp only [List.getElem?_toArray,List.getElem?_cons_succ,List.getElem?_cons_zero];exact rfl) (by kernel_rfl) (by kernel_rfl) (by kernel_rfl) (.inr ⟨by kernel_rfl,rfl⟩) hS ?_
 simp only [Act.put,List.setIfInBounds_toArray,List.set_cons_succ,List.set_cons_zero]
 refine anyCH_take (termsCD N) hSR hQR (i:=20) (v:=undef) (by simp only [List.getElem?_toArray,List.getElem?_cons_succ,List.getElem?_cons_zero];exact rfl) (by kernel_rfl) (by kernel_rfl) (by kernel_rfl) (.inr ⟨by kernel_rfl,rfl⟩) hS ?_
 simp only [Act.put,List.setIfInBounds_toArray,List.set_cons_succ,List.set_cons_zero]
 refine anyCH_take (termsCD N) hSR hQR (i:=21) (v:=undef) (by simp only [List.getElem?_toArray,List.getElem?_cons_succ,List.getElem?_cons_zero];exact rfl) (by kernel_rfl) (by kernel_rfl) (by kernel_rfl) (.inr ⟨by kernel_rfl,rfl⟩) hS ?_
 simp only [Act.put,List.setIfInBounds_toArray,List.set_cons_succ,List.set_cons_zero]
 refine anyCH_take (termsCD N) hSR hQR (i:=22) (v:=.bool true) (by simp only [List.getElem?_toArray,List.getElem?_cons_succ,List.getElem?_cons_zero];exact rfl) (by kernel_rfl) (by kernel_rfl) (by kernel_rfl) (.inl ⟨rfl,fun wx hx=>?_⟩) hS ?_
 ·skip
  refine ⟨by go_simp,Aside.refl _ _,fun e he=>?_⟩
  have hm:=mem_listed he
  simp [go_sem, *] at hm
  try (subst hm;exact evD_read1 _ _ (by simp <;> omega) (by simp <;> omega) (by simp <;> omega) (‹ShyD _ _ _ _›.own _ _ (by simp <;> omega) (by simp <;> omega) (by simp <;> omega)))
 simp only [Act.put,List.setIfInBounds_toArray,List.set_cons_succ,List.set_cons_zero]
 refine anyCH_take (termsCD N) hSR hQR (i:=23) (v:=.pointer (some ⟨N+2,j,none⟩)) (by simp only [List.getElem?_toArray,List.getElem?_cons_succ,List.getElem?_cons_zero];exact rfl) (by kernel_rfl) (by kernel_rfl) (by kernel_rfl) (.inl ⟨rfl,fun wx hx=>?_⟩) hS ?_
 ·skip
  refine ⟨by go_simp,Aside.refl _ _,fun e he=>?_⟩
  have hm:=mem_listed he
  simp [go_sem, *] at hm
  try (subst hm;exact evD_read1 _ _ (by simp <;> omega) (by simp <;> omega) (by simp <;> omega) (‹ShyD _ _ _ _›.own _ _ (by simp <;> omega) (by simp <;> omega) (by simp <;> omega)))
 simp only [Act.put,List.setIfInBounds_toArray,List.set_cons_succ,List.set_cons_zero]
 refine anyCH_all (rs:=[24]) (by kernel_rfl) (by simp) fun i hi=>?_
 have hi24:i=24:=List.mem_singleton.1 hi
 clear hi
 subst hi24
 refine opC_store (o:=op24) (by kernel_rfl) op24_op op24_dst op24_guard rfl rfl loudC fun w3 r3=>?_
 have hx:=hS.rely hb r3
 have hnew:=hx.store hb hj
 rw [show difV la lb zs ws j=.bool true by simp [difV,difB,hla]] at hnew
 exact ⟨hx.cellAt hj,⟨aside_setCell _ ⟨N+2,j,none⟩ _,fun e he=>(by rw [Array.mem_singleton] at he;subst he;exact evD_theirs j)⟩,hnew.less,anyCH_done (by kernel_rfl) ⟨rfl,⟨_,rfl,rfl,rfl,rfl,rfl,rfl,rfl,rfl⟩,hnew⟩ 0⟩
set_option maxRecDepth 100000 in
set_option maxHeartbeats 4000000 in
theorem region_mid (hb:∀ ad,0<min la lb→(A=some ad∨B=some ad)→ad.block<N) (hj:j<n) (hla:j<la) (hlb:lb≤j) (hF:CKD N A B la ca lb cb n zs ws j w) (ds:List Deferred)
  (v6 v7 v8 v9 v10 v11 v12 v13 v14 v15 v16 v17 v18 v19 v20 v21 v22 v23 v24 v25 v26 v27 v28 v29 v30 v31 v32 v33 v34 v35 v36 v37 v38 v39:Value) :
  regC.wpC Tryz.prog false (RCa 138 (N+4) (N+6)) (DCs (MineD N) (N+4) (N+2)) bC.fn 27 (PostC N A B la ca lb cb n zs ws j ds)
   ⟨#[ptr (N+4),ptr (N+5),ptr (N+3),ptr N,ptr (N+1),.int .i64 j,v6,v7,v8,v9,v10,v11,v12,v13,v14,v15,v16,v17,v18,v19,v20,v21,v22,v23,v24,v25,v26,v27,v28,v29,v30,v31,v32,v33,v34,v35,v36,v37,v38,v39],ds⟩ w:=by
 have hSR:∀ x y,CKD N A B la ca lb cb n zs ws j x→RCa 138 (N+4) (N+6) x y→CKD N A B la ca lb cb n zs ws j y:=fun _ _ h r=>h.rely hb r
 have hQR:∀ a x y,PostC N A B la ca lb cb n zs ws j ds .normal a x→RCa 138 (N+4) (N+6) x y→PostC N A B la ca lb cb n zs ws j ds .normal a y:=fun _ _ _ h r=>⟨rfl,h.2.1,h.2.2.rely hb r⟩
 have hge:¬ (la:Int)≤(j:Int):=by omega
 have hge2:(lb:Int)≤(j:Int):=by omega
 have hjn:(j:Int)<(n:Int):=by omega
 simp only [regC,LC,bodyC,Tryz.f95,Option.getD_some,ptr]
 refine wpC_region_held (S:=CKD N A B la ca lb cb n zs ws j) (termsCD N) (fun _=>⟨⟨rfl,rfl,rfl,rfl,fun _ _=>rfl⟩,by simp⟩) (by kernel_rfl) fun w₁ r₁=>?_
 have hS:=(hF.rely hb r₁).drawn
 generalize ({ w₁ with drawn:=w₁.drawn+1 }:World)=w2 at hS ⊢
 clear r₁ hF
 refine anyCH_take (termsCD N) hSR hQR (i:=0) (v:=.slice (some ⟨N+2,0,none⟩) n n) (by simp only [List.getElem?_toArray,List.getElem?_cons_succ,List.getElem?_cons_zero];exact rfl) (by kernel_rfl) (by kernel_rfl) (by kernel_rfl) (.inl ⟨rfl,fun wx hx=>?_⟩) hS ?_
 ·have f1:=hx.outv
  refine ⟨by go_simp,Aside.refl _ _,fun e he=>?_⟩
  have hm:=mem_listed he
  simp [go_sem, *] at hm
  try (subst hm;exact evD_read1 _ _ (by simp <;> omega) (by simp <;> omega) (by simp <;> omega) (‹ShyD _ _ _ _›.own _ _ (by simp <;> omega) (by simp <;> omega) (by simp <;> omega)))
 simp only [Act.put,List.setIfInBounds_toArray,List.set_cons_succ,List.set_cons_zero]
 refine anyCH_take (termsCD N) hSR hQR (i:=1) (v:=.int .i64 j) (by simp only [List.getElem?_toArray,List.getElem?_cons_succ,List.getElem?_cons_zero];exact rfl) (by kernel_rfl) (by kernel_rfl) (by kernel_rfl) (.inl ⟨rfl,fun wx hx=>?_⟩) hS ?_
 ·skip
  refine ⟨by go_simp,Aside.refl _ _,fun e he=>?_⟩
  have hm:=mem_listed he
  simp [go_sem, *] at hm
  try (subst hm;exact evD_read1 _ _ (by simp <;> omega) (by simp <;> omega) (by simp <;> omega) (‹ShyD _ _ _ _›.own _ _ (by simp <;> omega) (by simp <;> omega) (by simp <;> omega)))
 simp only [Act.put,List.setIfInBounds_toArray,List.set_cons_succ,List.set_cons_zero]
 refine anyCH_take (termsCD N) hSR hQR (i:=2) (v:=.int .i64 j) (by simp only [List.getElem?_toArray,List.getElem?_cons_succ,List.getElem?_cons_zero];exact rfl) (by kernel_rfl) (by kernel_rfl) (by kernel_rfl) (.inl ⟨rfl,fun wx hx=>?_⟩) hS ?_
 ·skip
  refine ⟨by go_simp,Aside.refl _ _,fun e he=>?_⟩
  have hm:=mem_listed he
  simp [go_sem, *] at hm
  try (subst hm;exact evD_read1 _ _ (by simp <;> omega) (by simp <;> omega) (by simp <;> omega) (‹ShyD _ _ _ _›.own _ _ (by simp <;> omega) (by simp <;> omega) (by simp <;> omega)))
 simp only [Act.put,List.setIfInBounds_toArray,List.set_cons_succ,List.set_cons_zero]
 refine anyCH_take (termsCD N) hSR hQR (i:=3) (v:=.slice A la ca) (by simp only [List.getElem?_toArray,List.getElem?_cons_succ,List.getElem?_cons_zero];exact rfl) (by kernel_rfl) (by kernel_rfl) (by kernel_rfl) (.inl ⟨rfl,fun wx hx=>?_⟩) hS ?_
 ·have f1:=hx.av
  refine ⟨by go_simp,Aside.refl _ _,fun e he=>?_⟩
  have hm:=mem_listed he
  simp [go_sem, *] at hm
  try (subst hm;exact evD_read1 _ _ (by simp <;> omega) (by simp <;> omega) (by simp <;> omega) (‹ShyD _ _ _ _›.own _ _ (by simp <;> omega) (by simp <;> omega) (by simp <;> omega)))
 simp only [Act.put,List.setIfInBounds_toArray,List.set_cons_succ,List.set_cons_zero]
 refine anyCH_take (termsCD N) hSR hQR (i:=4) (v:=.int .i64 la) (by simp only [List.getElem?_toArray,List.getElem?_cons_succ,List.getElem?_cons_zero];exact rfl) (by kernel_rfl) (by kernel_rfl) (by kernel_rfl) (.inl ⟨rfl,fun wx hx=>?_⟩) hS ?_
 ·skip
  refine ⟨by go_simp,Aside.refl _ _,fun e he=>?_⟩
  have hm:=mem_listed he
  simp [go_sem, *] at hm
  try (subst hm;exact evD_read1 _ _ (by simp <;> omega) (by simp <;> omega) (by simp <;> omega) (‹ShyD _ _ _ _›.own _ _ (by simp <;> omega) (by simp <;> omega) (by simp <;> omega)))
 simp only [Act.put,List.setIfInBounds_toArray,List.set_cons_succ,List.set_cons_zero]
 refine anyCH_take (termsCD N) hSR hQR (i:=5) (v:=.bool false) (by simp only [List.getElem?_toArray,List.getElem?_cons_succ,List.getElem?_cons_zero];exact rfl) (by kernel_rfl) (by kernel_rfl) (by kernel_rfl) (.inl ⟨rfl,fun wx hx=>?_⟩) hS ?_
 ·skip
  refine ⟨by go_simp,Aside.refl _ _,fun e he=>?_⟩
  have hm:=mem_listed he
  simp [go_sem, *] at hm
  try (subst hm;exact evD_read1 _ _ (by simp <;> omega) (by simp <;> omega) (by simp <;> omega) (‹ShyD _ _ _ _›.own _ _ (by simp <;> omega) (by simp <;> omega) (by simp <;> omega)))
 simp only [Act.put,List.setIfInBounds_toArray,List.set_cons_succ,List.set_cons_zero]
 refine anyCH_take (termsCD N) hSR hQR (i:=6) (v:=.bool false) (by simp only [List.getElem?_toArray,List.getElem?_cons_succ,List.getElem?_cons_zero];exact rfl) (by kernel_rfl) (by kernel_rfl) (by kernel_rfl) (.inl ⟨rfl,fun wx hx=>?_⟩) hS ?_
 ·skip
  refine ⟨by go_simp,Aside.refl _ _,fun e he=>?_⟩
  have hm:=mem_listed he
  simp [go_sem, *] at hm
  try (subst hm;exact evD_read1 _ _ (by simp <;> omega) (by simp <;> omega) (by simp <;> omega) (‹ShyD _ _ _ _›.own _ _ (by simp <;> omega) (by simp <;> omega) (by simp <;> omega)))
 simp only [Act.put,List.setIfInBounds_toArray,List.set_cons_succ,List.set_cons_zero]
 refine anyCH_take (termsCD N) hSR hQR (i:=7) (v:=.int .i64 j) (by simp only [List.getElem?_toArray,List.getElem?_cons_succ,List.getElem?_cons_zero];exact rfl) (by kernel_rfl) (by kernel_rfl) (by kernel_rfl) (.inl ⟨rfl,fun wx hx=>?_⟩) hS ?_
 ·skip
  refine ⟨by go_simp,Aside.refl _ _,fun e he=>?_⟩
  have hm:=mem_listed he
  simp [go_sem, *] at hm
  try (subst hm;exact evD_read1 _ _ (by simp <;> omega) (by simp <;> omega) (by simp <;> omega) (‹ShyD _ _ _ _›.own _ _ (by simp <;> omega) (by simp <;> omega) (by simp <;> omega)))
 simp only [Act.put,List.setIfInBounds_toArray,List.set_cons_succ,List.set_cons_zero]
 refine anyCH_take (termsCD N) hSR hQR (i:=8) (v:=.slice B lb cb) (by simp only [List.getElem?_toArray,List.getElem?_cons_succ,List.getElem?_cons_zero];exact rfl) (by kernel_rfl) (by kernel_rfl) (by kernel_rfl) (.inl ⟨rfl,fun wx hx=>?_⟩) hS ?_
 ·have f1:=hx.bv
  refine ⟨by go_simp,Aside.refl _ _,fun e he=>?_⟩
  have hm:=mem_listed he
  simp [go_sem, *] at hm
  try (subst hm;exact evD_read1 _ _ (by simp <;> omega) (by simp <;> omega) (by simp <;> omega) (‹ShyD _ _ _ _›.own _ _ (by simp <;> omega) (by simp <;> omega) (by simp <;> omega)))
 simp only [Act.put,List.setIfInBounds_toArray,List.set_cons_succ,List.set_cons_zero]
 refine anyCH_take (termsCD N) hSR hQR (i:=9) (v:=.int .i64 lb) (by simp only [List.getElem?_toArray,List.getElem?_cons_succ,List.getElem?_cons_zero];exact rfl) (by kernel_rfl) (by kernel_rfl) (by kernel_rfl) (.inl ⟨rfl,fun wx hx=>?_⟩) hS ?_
 ·skip
  refine ⟨by go_simp,Aside.refl _ _,fun e he=>?_⟩
  have hm:=mem_listed he
  simp [go_sem, *] at hm
  try (subst hm;exact evD_read1 _ _ (by simp <;> omega) (by simp <;> omega) (by simp <;> omega) (‹ShyD _ _ _ _›.own _ _ (by simp <;> omega) (by simp <;> omega) (by simp <;> omega)))
 simp only [Act.put,List.setIfInBounds_toArray,List.set_cons_succ,List.set_cons_zero]
 refine anyCH_take (termsCD N) hSR hQR (i:=10) (v:=.bool true) (by simp only [List.getElem?_toArray,List.getElem?_cons_succ,List.getElem?_cons_zero];exact rfl) (by kernel_rfl) (by kernel_rfl) (by kernel_rfl) (.inl ⟨rfl,fun wx hx=>?_⟩) hS ?_
 ·skip
  refine ⟨by go_simp,Aside.refl _ _,fun e he=>?_⟩
  have hm:=mem_listed he
  simp [go_sem, *] at hm
  try (subst hm;exact evD_read1 _ _ (by simp <;> omega) (by simp <;> omega) (by simp <;> omega) (‹ShyD _ _ _ _›.own _ _ (by simp <;> omega) (by simp <;> omega) (by simp <;> omega)))
 simp only [Act.put,List.setIfInBounds_toArray,List.set_cons_succ,List.set_cons_zero]
 refine anyCH_take (termsCD N) hSR hQR (i:=11) (v:=.bool true) (by simp only [List.getElem?_toArray,List.getElem?_cons_succ,List.getElem?_cons_zero];exact rfl) (by kernel_rfl) (by kernel_rfl) (by kernel_rfl) (.inl ⟨rfl,fun wx hx=>?_⟩) hS ?_
 ·skip
  refine ⟨by go_simp,Aside.refl _ _,fun e he=>?_⟩
  have hm:=mem_listed he
  simp [go_sem, *] at hm
  try (subst hm;exact evD_read1 _ _ (by simp <;> omega) (by simp <;> omega) (by simp <;> omega) (‹ShyD _ _ _ _›.own _ _ (by simp <;> omega) (by simp <;> omega) (by simp <;> omega)))
 simp only [Act.put,List.setIfInBounds_toArray,List.set_cons_succ,List.set_cons_zero]
 refine anyCH_take (termsCD N) hSR hQR (i:=12) (v:=.bool true) (by simp only [List.getElem?_toArray,List.getElem?_cons_succ,List.getElem?_cons_zero];exact rfl) (by kernel_rfl) (by kernel_rfl) (by kernel_rfl) (.inl ⟨rfl,fun wx hx=>?_⟩) hS ?_
 ·skip
  refine ⟨by go_simp,Aside.refl _ _,fun e he=>?_⟩
  have hm:=mem_listed he
  simp [go_sem, *] at hm
  try (subst hm;exact evD_read1 _ _ (by simp <;> omega) (by simp <;> omega) (by simp <;> omega) (‹ShyD _ _ _ _›.own _ _ (by simp <;> omega) (by simp <;> omega) (by simp <;> omega)))
 simp only [Act.put,List.setIfInBounds_toArray,List.set_cons_succ,List.set_cons_zero]
 refine anyCH_take (termsCD N) hSR hQR (i:=13) (v:=undef) (by simp only [List.getElem?_toArray,List.getElem?_cons_succ,List.getElem?_cons_zero];exact rfl) (by kernel_rfl) (by kernel_rfl) (by kernel_rfl) (.inr ⟨by kernel_rfl,rfl⟩) hS ?_
 simp only [Act.put,List.setIfInBounds_toArray,List.set_cons_succ,List.set_cons_zero]
 refine anyCH_take (termsCD N) hSR hQR (i:=14) (v:=undef) (by simp only [List.getElem?_toArray,List.getElem?_cons_succ,List.getElem?_cons_zero];exact rfl) (by kernel_rfl) (by kernel_rfl) (by kernel_rfl) (.inr ⟨by kernel_rfl,rfl⟩) hS ?_
 simp only [Act.put,List.setIfInBounds_toArray,List.set_cons_succ,List.set_cons_zero]
 refine anyCH_take (termsCD N) hSR hQR (i:=15) (v:=undef) (by simp only [List.getElem?_toArray,List.getElem?_cons_succ,List.getElem?_cons_zero];exact rfl) (by kernel_rfl) (by kernel_rfl) (by kernel_rfl) (.inr ⟨by kernel_rfl,rfl⟩) hS ?_
 simp only [Act.put,List.setIfInBounds_toArray,List.set_cons_succ,List.set_cons_zero]
 refine anyCH_take (termsCD N) hSR hQR (i:=16) (v:=undef) (by simp only [List.getElem?_toArray,List.getElem?_cons_succ,List.getElem?_cons_zero];exact rfl) (by kernel_rfl) (by kernel_rfl) (by kernel_rfl) (.inr ⟨by kernel_rfl,rfl⟩) hS ?_
 simp only [Act.put,List.setIfInBounds_toArray,List.set_cons_succ,List.set_cons_zero]
 refine anyCH_take (termsCD N) hSR hQR (i:=17) (v:=undef) (by simp only [List.getElem?_toArray,List.getElem?_cons_succ,List.getElem?_cons_zero];exact rfl) (by kernel_rfl) (by kernel_rfl) (by kernel_rfl) (.inr ⟨by kernel_rfl,rfl⟩) hS ?_
 simp only [Act.put,List.setIfInBounds_toArray,List.set_cons_succ,List.set_cons_zero]
 refine anyCH_take (termsCD N) hSR hQR (i:=18) (v:=undef) (by simp only [List.getElem?_toArray,List.getElem?_cons_succ,List.getElem?_cons_zero];exact rfl) (by kernel_rfl) (by kernel_rfl) (by kernel_rfl) (.inr ⟨by kernel_rfl,rfl⟩) hS ?_
 simp only [Act.put,List.setIfInBounds_toArray,List.set_cons_succ,List.set_cons_zero]
 refine anyCH_take (termsCD N) hSR hQR (i:=19) (v:=undef) (by simp only [List.getElem?_toArray,List.getElem?_cons_succ,List.getElem?_cons_zero];exact rfl) (by kernel_rfl) (by kernel_rfl) (by kernel_rfl) (.inr ⟨by kernel_rfl,rfl⟩) hS ?_
 simp only [Act.put,List.setIfInBounds_toArray,List.set_cons_succ,List.set_cons_zero]
 refine anyCH_take (termsCD N) hSR hQR (i:=20) (v:=undef) (by simp only [List.getElem?_toArray,List.getElem?_cons_succ,List.getElem?_cons_zero];exact rfl) (by kernel_rfl) (by kernel_rfl) (by kernel_rfl) (.inr ⟨by kernel_rfl,rfl⟩) hS ?_
 simp only [Act.put,List.setIfInBounds_toArray,List.set_cons_succ,List.set_cons_zero]
 refine anyCH_take (termsCD N) hSR hQR (i:=21) (v:=undef) (by simp only [List.getElem?_toArray,List.getElem?_cons_succ,List.getElem?_cons_zero];exact rfl) (by kernel_rfl) (by kernel_rfl) (by kernel_rfl) (.inr ⟨by kernel_rfl,rfl⟩) hS ?_
 simp only [Act.put,List.setIfInBounds_toArray,List.set_cons_succ,List.set_cons_zero]
 refine anyCH_take (termsCD N) hSR hQR (i:=22) (v:=.bool true) (by simp only [List.getElem?_toArray,List.getElem?_cons_succ,List.getElem?_cons_zero];exact rfl) (by kernel_rfl) (by kernel_rfl) (by kernel_rfl) (.inl ⟨rfl,fun wx hx=>?_⟩) hS ?_
 ·skip
  refine ⟨by go_simp,Aside.refl _ _,fun e he=>?_⟩
  have hm:=mem_listed he
  simp [go_sem, *] at hm
  try (subst hm;exact evD_read1 _ _ (by simp <;> omega) (by simp <;> omega) (by simp <;> omega) (‹ShyD _ _ _ _›.own _ _ (by simp <;> omega) (by simp <;> omega) (by simp <;> omega)))
 simp only [Act.put,List.setIfInBounds_toArray,List.set_cons_succ,List.set_cons_zero]
 refine anyCH_take (termsCD N) hSR hQR (i:=23) (v:=.pointer (some ⟨N+2,j,none⟩)) (by simp only [List.getElem?_toArray,List.getElem?_cons_succ,List.getElem?_cons_zero];exact rfl) (by kernel_rfl) (by kernel_rfl) (by kernel_rfl) (.inl ⟨rfl,fun wx hx=>?_⟩) hS ?_
 ·skip
  refine ⟨by go_simp,Aside.refl _ _,fun e he=>?_⟩
  have hm:=mem_listed he
  simp [go_sem, *] at hm
  try (subst hm;exact evD_read1 _ _ (by simp <;> omega) (by simp <;> omega) (by simp <;> omega) (‹ShyD _ _ _ _›.own _ _ (by simp <;> omega) (by simp <;> omega) (by simp <;> omega)))
 simp only [Act.put,List.setIfInBounds_toArray,List.set_cons_succ,List.set_cons_zero]
 refine anyCH_all (rs:=[24]) (by kernel_rfl) (by simp) fun i hi=>?_
 have hi24:i=24:=List.mem_singleton.1 hi
 clear hi
 subst hi24
 refine opC_store (o:=op24) (by kernel_rfl) op24_op op24_dst op24_guard rfl rfl loudC fun w3 r3=>?_
 have hx:=hS.rely hb r3
 have hnew:=hx.store hb hj
 rw [show difV la lb zs ws j=.bool true by simp [difV,difB,hlb]] at hnew
 exact ⟨hx.cellAt hj,⟨aside_setCell _ ⟨N+2,j,none⟩ _,fun e he=>(by rw [Array.mem_singleton] at he;subst he;exact evD_theirs j)⟩,hnew.less,anyCH_done (by kernel_rfl) ⟨rfl,⟨_,rfl,rfl,rfl,rfl,rfl,rfl,rfl,rfl⟩,hnew⟩ 0⟩
set_option maxRecDepth 100000 in
set_option maxHeartbeats 4000000 in
theorem region_near {ad bd:Addr} (hb:∀ ad,0<min la lb→(A=some ad∨B=some ad)→ad.block<N) (hj:j<n) (hla:j<la) (hlb:j<lb) (hA:A=some ad) (hB:B=some bd) (hF:CKD N A B la ca lb cb n zs ws j w) (ds:List Deferred)
  (v6 v7 v8 v9 v10 v11 v12 v13 v14 v15 v16 v17 v18 v19 v20 v21 v22 v23 v24 v25 v26 v27 v28 v29 v30 v31 v32 v33 v34 v35 v36 v37 v38 v39:Value) :
  regC.wpC Tryz.prog false (RCa 138 (N+4) (N+6)) (DCs (MineD N) (N+4) (N+2)) bC.fn 27 (PostC N A B la ca lb cb n zs ws j ds)
   ⟨#[ptr (N+4),ptr (N+5),ptr (N+3),ptr N,ptr (N+1),.int .i64 j,v6,v7,v8,v9,v10,v11,v12,v13,v14,v15,v16,v17,v18,v19,v20,v21,v22,v23,v24,v25,v26,v27,v28,v29,v30,v31,v32,v33,v34,v35,v36,v37,v38,v39],ds⟩ w:=by
 subst hA hB
 have hSR:∀ x y,CKD N (some ad) (some bd) la ca lb cb n zs ws j x→RCa 138 (N+4) (N+6) x y→CKD N (some ad) (some bd) la ca lb cb n zs ws j y:=fun _ _ h r=>h.rely hb r
 have hQR:∀ a x y,PostC N (some ad) (some bd) la ca lb cb n zs ws j ds .normal a x→RCa 138 (N+4) (N+6) x y→PostC N (some ad) (some bd) la ca lb cb n zs ws j ds .normal a y:=fun _ _ _ h r=>⟨rfl,h.2.1,h.2.2.rely hb r⟩
 have hge:¬ (la:Int)≤(j:Int):=by omega
 have hge2:¬ (lb:Int)≤(j:Int):=by omega
 have hjn:(j:Int)<(n:Int):=by omega
 have hja:(j:Int)<(la:Int):=by omega
 have hjb:(j:Int)<(lb:Int):=by omega
 have hba:=hb ad (by omega) (.inl rfl)
 have hbb:=hb bd (by omega) (.inr rfl)
 simp only [regC,LC,bodyC,Tryz.f95,Option.getD_some,ptr]
 refine wpC_region_held (S:=CKD N (some ad) (some bd) la ca lb cb n zs ws j) (termsCD N) (fun _=>⟨⟨rfl,rfl,rfl,rfl,fun _ _=>rfl⟩,by simp⟩) (by kernel_rfl) fun w₁ r₁=>?_
 have hS:=(hF.rely hb r₁).drawn
 generalize ({ w₁ with drawn:=w₁.drawn+1 }:World)=w2 at hS ⊢
 clear r₁ hF
 refine anyCH_take (termsCD N) hSR hQR (i:=0) (v:=.slice (some ⟨N+2,0,none⟩) n n) (by simp only [List.getElem?_toArray,List.getElem?_cons_succ,List.getElem?_cons_zero];exact rfl) (by kernel_rfl) (by kernel_rfl) (by kernel_rfl) (.inl ⟨rfl,fun wx hx=>?_⟩) hS ?_
 ·have f1:=hx.outv
  refine ⟨by go_simp,Aside.refl _ _,fun e he=>?_⟩
  have hm:=mem_listed he
  simp [go_sem, *] at hm
  try (subst hm;exact evD_read1 _ _ (by simp <;> omega) (by simp <;> omega) (by simp <;> omega) (‹ShyD _ _ _ _›.own _ _ (by simp <;> omega) (by simp <;> omega) (by simp <;> omega)))
 simp only [Act.put,List.setIfInBounds_toArray,List.set_cons_succ,List.set_cons_zero]
 refine anyCH_take (termsCD N) hSR hQR (i:=1) (v:=.int .i64 j) (by simp only [List.getElem?_toArray,List.getElem?_cons_succ,List.getElem?_cons_zero];exact rfl) (by kernel_rfl) (by kernel_rfl) (by kernel_rfl) (.inl ⟨rfl,fun wx hx=>?_⟩) hS ?_
 ·skip
  refine ⟨by go_simp,Aside.refl _ _,fun e he=>?_⟩
  have hm:=mem_listed he
  simp [go_sem, *] at hm
  try (subst hm;exact evD_read1 _ _ (by simp <;> omega) (by simp <;> omega) (by simp <;> omega) (‹ShyD _ _ _ _›.own _ _ (by simp <;> omega) (by simp <;> omega) (by simp <;> omega)))
 simp only [Act.put,List.setIfInBounds_toArray,List.set_cons_succ,List.set_cons_zero]
 refine anyCH_take (termsCD N) hSR hQR (i:=2) (v:=.int .i64 j) (by simp only [List.getElem?_toArray,List.getElem?_cons_succ,List.getElem?_cons_zero];exact rfl) (by kernel_rfl) (by kernel_rfl) (by kernel_rfl) (.inl ⟨rfl,fun wx hx=>?_⟩) hS ?_
 ·skip
  refine ⟨by go_simp,Aside.refl _ _,fun e he=>?_⟩
  have hm:=mem_listed he
  simp [go_sem, *] at hm
  try (subst hm;exact evD_read1 _ _ (by simp <;> omega) (by simp <;> omega) (by simp <;> omega) (‹ShyD _ _ _ _›.own _ _ (by simp <;> omega) (by simp <;> omega) (by simp <;> omega)))
 simp only [Act.put,List.setIfInBounds_toArray,List.set_cons_succ,List.set_cons_zero]
 refine anyCH_take (termsCD N) hSR hQR (i:=3) (v:=.slice (some ad) la ca) (by simp only [List.getElem?_toArray,List.getElem?_cons_succ,List.getElem?_cons_zero];exact rfl) (by kernel_rfl) (by kernel_rfl) (by kernel_rfl) (.inl ⟨rfl,fun wx hx=>?_⟩) hS ?_
 ·have f1:=hx.av
  refine ⟨by go_simp,Aside.refl _ _,fun e he=>?_⟩
  have hm:=mem_listed he
  simp [go_sem, *] at hm
  try (subst hm;exact evD_read1 _ _ (by simp <;> omega) (by simp <;> omega) (by simp <;> omega) (‹ShyD _ _ _ _›.own _ _ (by simp <;> omega) (by simp <;> omega) (by simp <;> omega)))
 simp only [Act.put,List.setIfInBounds_toArray,List.set_cons_succ,List.set_cons_zero]
 refine anyCH_take (termsCD N) hSR hQR (i:=4) (v:=.int .i64 la) (by simp only [List.getElem?_toArray,List.getElem?_cons_succ,List.getElem?_cons_zero];exact rfl) (by kernel_rfl) (by kernel_rfl) (by kernel_rfl) (.inl ⟨rfl,fun wx hx=>?_⟩) hS ?_
 ·skip
  refine ⟨by go_simp,Aside.refl _ _,fun e he=>?_⟩
  have hm:=mem_listed he
  simp [go_sem, *] at hm
  try (subst hm;exact evD_read1 _ _ (by simp <;> omega) (by simp <;> omega) (by simp <;> omega) (‹ShyD _ _ _ _›.own _ _ (by simp <;> omega) (by simp <;> omega) (by simp <;> omega)))
 simp only [Act.put,List.setIfInBounds_toArray,List.set_cons_succ,List.set_cons_zero]
 refine anyCH_take (termsCD N) hSR hQR (i:=5) (v:=.bool false) (by simp only [List.getElem?_toArray,List.getElem?_cons_succ,List.getElem?_cons_zero];exact rfl) (by kernel_rfl) (by kernel_rfl) (by kernel_rfl) (.inl ⟨rfl,fun wx hx=>?_⟩) hS ?_
 ·skip
  refine ⟨by go_simp,Aside.refl _ _,fun e he=>?_⟩
  have hm:=mem_listed he
  simp [go_sem, *] at hm
  try (subst hm;exact evD_read1 _ _ (by simp <;> omega) (by simp <;> omega) (by simp <;> omega) (‹ShyD _ _ _ _›.own _ _ (by simp <;> omega) (by simp <;> omega) (by simp <;> omega)))
 simp only [Act.put,List.setIfInBounds_toArray,List.set_cons_succ,List.set_cons_zero]
 refine anyCH_take (termsCD N) hSR hQR (i:=6) (v:=.bool false) (by simp only [List.getElem?_toArray,List.getElem?_cons_succ,List.getElem?_cons_zero];exact rfl) (by kernel_rfl) (by kernel_rfl) (by kernel_rfl) (.inl ⟨rfl,fun wx hx=>?_⟩) hS ?_
 ·skip
  refine ⟨by go_simp,Aside.refl _ _,fun e he=>?_⟩
  have hm:=mem_listed he
  simp [go_sem, *] at hm
  try (subst hm;exact evD_read1 _ _ (by simp <;> omega) (by simp <;> omega) (by simp <;> omega) (‹ShyD _ _ _ _›.own _ _ (by simp <;> omega) (by simp <;> omega) (by simp <;> omega)))
 simp only [Act.put,List.setIfInBounds_toArray,List.set_cons_succ,List.set_cons_zero]
 refine anyCH_take (termsCD N) hSR hQR (i:=7) (v:=.int .i64 j) (by simp only [List.getElem?_toArray,List.getElem?_cons_succ,List.getElem?_cons_zero];exact rfl) (by kernel_rfl) (by kernel_rfl) (by kernel_rfl) (.inl ⟨rfl,fun wx hx=>?_⟩) hS ?_
 ·skip
  refine ⟨by go_simp,Aside.refl _ _,fun e he=>?_⟩
  have hm:=mem_listed he
  simp [go_sem, *] at hm
  try (subst hm;exact evD_read1 _ _ (by simp <;> omega) (by simp <;> omega) (by simp <;> omega) (‹ShyD _ _ _ _›.own _ _ (by simp <;> omega) (by simp <;> omega) (by simp <;> omega)))
 simp only [Act.put,List.setIfInBounds_toArray,List.set_cons_succ,List.set_cons_zero]
 refine anyCH_take (termsCD N) hSR hQR (i:=8) (v:=.slice (some bd) lb cb) (by simp only [List.getElem?_toArray,List.getElem?_cons_succ,List.getElem?_cons_zero];exact rfl) (by kernel_rfl) (by kernel_rfl) (by kernel_rfl) (.inl ⟨rfl,fun wx hx=>?_⟩) hS ?_
 ·have f1:=hx.bv
  refine ⟨by go_simp,Aside.refl _ _,fun e he=>?_⟩
  have hm:=mem_listed he
  simp [go_sem, *] at hm
  try (subst hm;exact evD_read1 _ _ (by simp <;> omega) (by simp <;> omega) (by simp <;> omega) (‹ShyD _ _ _ _›.own _ _ (by simp <;> omega) (by simp <;> omega) (by simp <;> omega)))
 simp only [Act.put,List.setIfInBounds_toArray,List.set_cons_succ,List.set_cons_zero]
 refine anyCH_take (termsCD N) hSR hQR (i:=9) (v:=.int .i64 lb) (by simp only [List.getElem?_toArray,List.getElem?_cons_succ,List.getElem?_cons_zero];exact rfl) (by kernel_rfl) (by kernel_rfl) (by kernel_rfl) (.inl ⟨rfl,fun wx hx=>?_⟩) hS ?_
 ·skip
  refine ⟨by go_simp,Aside.refl _ _,fun e he=>?_⟩
  have hm:=mem_listed he
  simp [go_sem, *] at hm
  try (subst hm;exact evD_read1 _ _ (by simp <;> omega) (by simp <;> omega) (by simp <;> omega) (‹ShyD _ _ _ _›.own _ _ (by simp <;> omega) (by simp <;> omega) (by simp <;> omega)))
 simp only [Act.put,List.setIfInBounds_toArray,List.set_cons_succ,List.set_cons_zero]
 refine anyCH_take (termsCD N) hSR hQR (i:=10) (v:=.bool false) (by simp only [List.getElem?_toArray,List.getElem?_cons_succ,List.getElem?_cons_zero];exact rfl) (by kernel_rfl) (by kernel_rfl) (by kernel_rfl) (.inl ⟨rfl,fun wx hx=>?_⟩) hS ?_
 ·skip
  refine ⟨by go_simp,Aside.refl _ _,fun e he=>?_⟩
  have hm:=mem_listed he
  simp [go_sem, *] at hm
  try (subst hm;exact evD_read1 _ _ (by simp <;> omega) (by simp <;> omega) (by simp <;> omega) (‹ShyD _ _ _ _›.own _ _ (by simp <;> omega) (by simp <;> omega) (by simp <;> omega)))
 simp only [Act.put,List.setIfInBounds_toArray,List.set_cons_succ,List.set_cons_zero]
 refine anyCH_take (termsCD N) hSR hQR (i:=11) (v:=.bool false) (by simp only [List.getElem?_toArray,List.getElem?_cons_succ,List.getElem?_cons_zero];exact rfl) (by kernel_rfl) (by kernel_rfl) (by kernel_rfl) (.inl ⟨rfl,fun wx hx=>?_⟩) hS ?_
 ·skip
  refine ⟨by go_simp,Aside.refl _ _,fun e he=>?_⟩
  have hm:=mem_listed he
  simp [go_sem, *] at hm
  try (subst hm;exact evD_read1 _ _ (by simp <;> omega) (by simp <;> omega) (by simp <;> omega) (‹ShyD _ _ _ _›.own _ _ (by simp <;> omega) (by simp <;> omega) (by simp <;> omega)))
 simp only [Act.put,List.setIfInBounds_toArray,List.set_cons_succ,List.set_cons_zero]
 refine anyCH_take (termsCD N) hSR hQR (i:=12) (v:=.bool false) (by simp only [List.getElem?_toArray,List.getElem?_cons_succ,List.getElem?_cons_zero];exact rfl) (by kernel_rfl) (by kernel_rfl) (by kernel_rfl) (.inl ⟨rfl,fun wx hx=>?_⟩) hS ?_
 ·skip
  refine ⟨by go_simp,Aside.refl _ _,fun e he=>?_⟩
  have hm:=mem_listed he
  simp [go_sem, *] at hm
  try (subst hm;exact evD_read1 _ _ (by simp <;> omega) (by simp <;> omega) (by simp <;> omega) (‹ShyD _ _ _ _›.own _ _ (by simp <;> omega) (by simp <;> omega) (by simp <;> omega)))
 simp only [Act.put,List.setIfInBounds_toArray,List.set_cons_succ,List.set_cons_zero]
 refine anyCH_take (termsCD N) hSR hQR (i:=13) (v:=.slice (some ad) la ca) (by simp only [List.getElem?_toArray,List.getElem?_cons_succ,List.getElem?_cons_zero];exact rfl) (by kernel_rfl) (by kernel_rfl) (by kernel_rfl) (.inl ⟨rfl,fun wx hx=>?_⟩) hS ?_
 ·have f1:=hx.av
  refine ⟨by go_simp,Aside.refl _ _,fun e he=>?_⟩
  have hm:=mem_listed he
  simp [go_sem, *] at hm
  try (subst hm;exact evD_read1 _ _ (by simp <;> omega) (by simp <;> omega) (by simp <;> omega) (‹ShyD _ _ _ _›.own _ _ (by simp <;> omega) (by simp <;> omega) (by simp <;> omega)))
 simp only [Act.put,List.setIfInBounds_toArray,List.set_cons_succ,List.set_cons_zero]
 refine anyCH_take (termsCD N) hSR hQR (i:=14) (v:=.int .i64 j) (by simp only [List.getElem?_toArray,List.getElem?_cons_succ,List.getElem?_cons_zero];exact rfl) (by kernel_rfl) (by kernel_rfl) (by kernel_rfl) (.inl ⟨rfl,fun wx hx=>?_⟩) hS ?_
 ·skip
  refine ⟨by go_simp,Aside.refl _ _,fun e he=>?_⟩
  have hm:=mem_listed he
  simp [go_sem, *] at hm
  try (subst hm;exact evD_read1 _ _ (by simp <;> omega) (by simp <;> omega) (by simp <;> omega) (‹ShyD _ _ _ _›.own _ _ (by simp <;> omega) (by simp <;> omega) (by simp <;> omega)))
 simp only [Act.put,List.setIfInBounds_toArray,List.set_cons_succ,List.set_cons_zero]
 refine anyCH_take (termsCD N) hSR hQR (i:=15) (v:=.pointer (some (ad.add j))) (by simp only [List.getElem?_toArray,List.getElem?_cons_succ,List.getElem?_cons_zero];exact rfl) (by kernel_rfl) (by kernel_rfl) (by kernel_rfl) (.inl ⟨rfl,fun wx hx=>?_⟩) hS ?_
 ·skip
  refine ⟨by go_simp,Aside.refl _ _,fun e he=>?_⟩
  have hm:=mem_listed he
  simp [go_sem, *] at hm
  try (subst hm;exact evD_read1 _ _ (by simp <;> omega) (by simp <;> omega) (by simp <;> omega) (‹ShyD _ _ _ _›.own _ _ (by simp <;> omega) (by simp <;> omega) (by simp <;> omega)))
 simp only [Act.put,List.setIfInBounds_toArray,List.set_cons_succ,List.set_cons_zero]
 refine anyCH_take (termsCD N) hSR hQR (i:=16) (v:=.int .i64 (zs.getD j 0)) (by simp only [List.getElem?_toArray,List.getElem?_cons_succ,List.getElem?_cons_zero];exact rfl) (by kernel_rfl) (by kernel_rfl) (by kernel_rfl) (.inl ⟨rfl,fun wx hx=>?_⟩) hS ?_
 ·have f1:=hx.ela j ad hla hlb rfl
  refine ⟨by go_simp,Aside.refl _ _,fun e he=>?_⟩
  have hm:=mem_listed he
  simp [go_sem, *] at hm
  subst hm
  exact evD_read1 _ _ (by rw [add_block];omega) (by rw [add_block];omega) (by rw [add_block];omega) (‹ShyD _ _ _ _›.src _ _ (by omega) (.inl rfl))
 simp only [Act.put,List.setIfInBounds_toArray,List.set_cons_succ,List.set_cons_zero]
 refine anyCH_take (termsCD N) hSR hQR (i:=17) (v:=.slice (some bd) lb cb) (by simp only [List.getElem?_toArray,List.getElem?_cons_succ,List.getElem?_cons_zero];exact rfl) (by kernel_rfl) (by kernel_rfl) (by kernel_rfl) (.inl ⟨rfl,fun wx hx=>?_⟩) hS ?_
 ·have f1:=hx.bv
  refine ⟨by go_simp,Aside.refl _ _,fun e he=>?_⟩
  have hm:=mem_listed he
  simp [go_sem, *] at hm
  try (subst hm;exact evD_read1 _ _ (by simp <;> omega) (by simp <;> omega) (by simp <;> omega) (‹ShyD _ _ _ _›.own _ _ (by simp <;> omega) (by simp <;> omega) (by simp <;> omega)))
 simp only [Act.put,List.setIfInBounds_toArray,List.set_cons_succ,List.set_cons_zero]
 refine anyCH_take (termsCD N) hSR hQR (i:=18) (v:=.int .i64 j) (by simp only [List.getElem?_toArray,List.getElem?_cons_succ,List.getElem?_cons_zero];exact rfl) (by kernel_rfl) (by kernel_rfl) (by kernel_rfl) (.inl ⟨rfl,fun wx hx=>?_⟩) hS ?_
 ·skip
  refine ⟨by go_simp,Aside.refl _ _,fun e he=>?_⟩
  have hm:=mem_listed he
  simp [go_sem, *] at hm
  try (subst hm;exact evD_read1 _ _ (by simp <;> omega) (by simp <;> omega) (by simp <;> omega) (‹ShyD _ _ _ _›.own _ _ (by simp <;> omega) (by simp <;> omega) (by simp <;> omega)))
 simp only [Act.put,List.setIfInBounds_toArray,List.set_cons_succ,List.set_cons_zero]
 refine anyCH_take (termsCD N) hSR hQR (i:=19) (v:=.pointer (some (bd.add j))) (by simp only [List.getElem?_toArray,List.getElem?_cons_succ,List.getElem?_cons_zero];exact rfl) (by kernel_rfl) (by kernel_rfl) (by kernel_rfl) (.inl ⟨rfl,fun wx hx=>?_⟩) hS ?_
 ·skip
  refine ⟨by go_simp,Aside.refl _ _,fun e he=>?_⟩
  have hm:=mem_listed he
  simp [go_sem, *] at hm
  try (subst hm;exact evD_read1 _ _ (by simp <;> omega) (by simp <;> omega) (by simp <;> omega) (‹ShyD _ _ _ _›.own _ _ (by simp <;> omega) (by simp <;> omega) (by simp <;> omega)))
 simp only [Act.put,List.setIfInBounds_toArray,List.set_cons_succ,List.set_cons_zero]
 refine anyCH_take (termsCD N) hSR hQR (i:=20) (v:=.int .i64 (ws.getD j 0)) (by simp only [List.getElem?_toArray,List.getElem?_cons_succ,List.getElem?_cons_zero];exact rfl) (by kernel_rfl) (by kernel_rfl) (by kernel_rfl) (.inl ⟨rfl,fun wx hx=>?_⟩) hS ?_
 ·have f1:=hx.elb j bd hla hlb rfl
  refine ⟨by go_simp,Aside.refl _ _,fun e he=>?_⟩
  have hm:=mem_listed he
  simp [go_sem, *] at hm
  subst hm
  exact evD_read1 _ _ (by rw [add_block];omega) (by rw [add_block];omega) (by rw [add_block];omega) (‹ShyD _ _ _ _›.src _ _ (by omega) (.inr rfl))
 simp only [Act.put,List.setIfInBounds_toArray,List.set_cons_succ,List.set_cons_zero]
 refine anyCH_take (termsCD N) hSR hQR (i:=21) (v:=.bool (zs.getD j 0 != ws.getD j 0)) (by simp only [List.getElem?_toArray,List.getElem?_cons_succ,List.getElem?_cons_zero];exact rfl) (by kernel_rfl) (by kernel_rfl) (by kernel_rfl) (.inl ⟨rfl,fun wx hx=>?_⟩) hS ?_
 ·skip
  refine ⟨by go_simp,Aside.refl _ _,fun e he=>?_⟩
  have hm:=mem_listed he
  simp [go_sem, *] at hm
  try (subst hm;exact evD_read1 _ _ (by simp <;> omega) (by simp <;> omega) (by simp <;> omega) (‹ShyD _ _ _ _›.own _ _ (by simp <;> omega) (by simp <;> omega) (by simp <;> omega)))
 simp only [Act.put,List.setIfInBounds_toArray,List.set_cons_succ,List.set_cons_zero]
 refine anyCH_take (termsCD N) hSR hQR (i:=22) (v:=.bool (zs.getD j 0 != ws.getD j 0)) (by simp only [List.getElem?_toArray,List.getElem?_cons_succ,List.getElem?_cons_zero];exact rfl) (by kernel_rfl) (by kernel_rfl) (by kernel_rfl) (.inl ⟨rfl,fun wx hx=>?_⟩) hS ?_
 ·skip
  refine ⟨by go_simp,Aside.refl _ _,fun e he=>?_⟩
  have hm:=mem_listed he
  simp [go_sem, *] at hm
  try (subst hm;exact evD_read1 _ _ (by simp <;> omega) (by simp <;> omega) (by simp <;> omega) (‹ShyD _ _ _ _›.own _ _ (by simp <;> omega) (by simp <;> omega) (by simp <;> omega)))
 simp only [Act.put,List.setIfInBounds_toArray,List.set_cons_succ,List.set_cons_zero]
 refine anyCH_take (termsCD N) hSR hQR (i:=23) (v:=.pointer (some ⟨N+2,j,none⟩)) (by simp only [List.getElem?_toArray,List.getElem?_cons_succ,List.getElem?_cons_zero];exact rfl) (by kernel_rfl) (by kernel_rfl) (by kernel_rfl) (.inl ⟨rfl,fun wx hx=>?_⟩) hS ?_
 ·skip
  refine ⟨by go_simp,Aside.refl _ _,fun e he=>?_⟩
  have hm:=mem_listed he
  simp [go_sem, *] at hm
  try (subst hm;exact evD_read1 _ _ (by simp <;> omega) (by simp <;> omega) (by simp <;> omega) (‹ShyD _ _ _ _›.own _ _ (by simp <;> omega) (by simp <;> omega) (by simp <;> omega)))
 simp only [Act.put,List.setIfInBounds_toArray,List.set_cons_succ,List.set_cons_zero]
 refine anyCH_all (rs:=[24]) (by kernel_rfl) (by simp) fun i hi=>?_
 have hi24:i=24:=List.mem_singleton.1 hi
 clear hi
 subst hi24
 refine opC_store (o:=op24) (by kernel_rfl) op24_op op24_dst op24_guard rfl rfl loudC fun w3 r3=>?_
 have hx:=hS.rely hb r3
 have hnew:=hx.store hb hj
 rw [show difV la lb zs ws j=.bool (zs.getD j 0 != ws.getD j 0) by simp [difV,difB,Nat.not_le.2 hla,Nat.not_le.2 hlb]] at hnew
 exact ⟨hx.cellAt hj,⟨aside_setCell _ ⟨N+2,j,none⟩ _,fun e he=>(by rw [Array.mem_singleton] at he;subst he;exact evD_theirs j)⟩,hnew.less,anyCH_done (by kernel_rfl) ⟨rfl,⟨_,rfl,rfl,rfl,rfl,rfl,rfl,rfl,rfl⟩,hnew⟩ 0⟩
end
end Go.Proofs.YtpcjdalgebgofaaGreatDoor

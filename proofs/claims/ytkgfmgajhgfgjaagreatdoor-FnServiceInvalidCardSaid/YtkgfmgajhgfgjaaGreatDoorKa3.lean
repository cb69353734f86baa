/-
  Lemmas and contracts: Mem Dr Fb Rd Bs. No condition.
-/
import Derived.Laws.OwnMore
import Derived.Maps.AppendAt
import Derived.Deep.AppendLies
import Derived.RegionTactic
import Derived.OwnWalk
import Derived.Deep.LoopGhost
import Derived.Deep.Cut
import Derived.Deep.CutRange
import Derived.Deep.DeepCutAuto
import Derived.Deep.RegionLaw
import Derived.Laws.BitsAllLaws
import Derived.Laws.BitsLemmas
import Derived.Deep.Slices
import Derived.Test.YtkgfmgajhgfgjaaGreatDoorKa1
import Derived.Test.YtkgfmgajhgfgjaaGreatDoorKa2
set_option linter.unusedSimpArgs false
set_option linter.unusedVariables false
set_option linter.unusedSectionVars false
namespace Go.Proofs.YtkgfmgajhgfgjaaGreatDoor
open Go.RowKit Go.Sort
def Only (g:Nat) (w w':World):Prop:=w.grownBy w' (some g)
section
variable {g:Nat} {a b c w w':World}
theorem Only.refl (g:Nat) (w:World):Only g w w:=World.grownBy.refl w _
theorem Only.size (h:Only g a b):a.heap.size≤b.heap.size:=World.grownBy.size h
theorem Only.trans (h:Only g a b) (k:Only g b c):Only g a c :=
 ⟨k.os.trans h.os,k.tape.trans h.tape,k.output.trans h.output,Nat.le_trans h.size k.size,fun i hi hne=>(k.block i (Nat.lt_of_lt_of_le hi h.size) hne).trans (h.block i hi hne)⟩
theorem Only.of_below (h:Below a.heap.size a b) (g:Nat):Only g a b:=⟨h.os,h.tape,h.output,h.size,fun i hi _=>h.block i hi⟩
theorem Only.below {B:Nat} (h:Only g a b) (hg:B≤g) (hB:B≤a.heap.size):Below B a b:=⟨h.os,h.tape,h.output,h.size,fun k hk=>h.block k (by omega) (by intro e;injection e with e;omega)⟩
theorem Only.next (h:Only g a b) (k:Below b.heap.size b c):Only g a c:=h.trans (Only.of_below k g)
theorem Only.set_ {p:Addr} (h:Only g a b) (hp:p.block=g∨a.heap.size≤p.block) (u:Value):Only g a (b.setCell p u) :=
 ⟨h.os,h.tape,h.output,by simpa [World.setCell] using h.size,fun i hi hne=>(Below.heap_setCell b p u i (by
  rintro rfl
  rcases hp with hp|hp
  ·exact hne (by rw [hp])
  ·omega)).trans (h.block i hi hne)⟩
theorem Only.drewN (h:Only g a b) (n:Nat):Only g a (b.drewN n):=⟨h.os,h.tape,h.output,h.size,h.block⟩
theorem Only.cell {x:Nat} (h:Only g w w') (hx:x<w.heap.size) (hne:x≠g) (o:Nat):w'.cell? ⟨x,o,none⟩=w.cell? ⟨x,o,none⟩:=World.cell?_of_block (w:=w) (h.block x hx (by intro e;injection e with e;exact hne e))
theorem Blk.only {x T:Nat} {cs:Array Value} (hb:Blk w x T cs) (h:Only g w w') (hne:x≠g):Blk w' x T cs:=(h.block x hb.lt (by intro e;injection e with e;exact hne e)).trans hb
theorem Blk.ne_ {g' T T':Nat} {cs cs':Array Value} (h:Blk w g T cs) (h':Blk w g' T' cs') (hne:T≠T'):g≠g':=by
 rintro rfl
 unfold Blk at h h'
 rw [h] at h'
 injection h' with h'
 injection h' with _ ht
 exact hne ht
end
theorem own_form {w:World} {base e size n:Nat} {v:Value} {xs:List Value} (h:w.ownsRow base e size v n xs):∃ A c,v=.slice A n c:=by
 rcases h.2 with ⟨rfl,h0⟩|⟨g,cap,cur,rfl,_⟩
 ·exact ⟨none,0,by rw [h0]⟩
 ·exact ⟨_,_,rfl⟩
def Src (w:World) (size:Nat) (A:Option Addr) (m:Nat) (news:List Value):Prop :=
 news.length=m * size∧(0<m→∃ ad,A=some ad∧∀ j u,news[j]?=some u→w.cell? (ad.add j)=some u)
theorem Src.keep {w w':World} {size m:Nat} {A:Option Addr} {news:List Value} (h:Src w size A m news) (hk:∀ p:Addr,p.block<w.heap.size→w'.cell? p=w.cell? p):Src w' size A m news :=
 ⟨h.1,fun hm=>by
  obtain ⟨ad,e,hc⟩:=h.2 hm
  refine ⟨ad,e,fun j u hu=>?_⟩
  have h1:=hc j u hu
  rw [hk _ (World.block_lt_of_cell? _ _ h1)]
  exact h1⟩
theorem Src.below {w w':World} {size m:Nat} {A:Option Addr} {news:List Value} (h:Src w size A m news) (hb:Below w.heap.size w w'):Src w' size A m news:=h.keep fun _ hp=>hb.cell hp
theorem Src.ents {w:World} {A:Option Addr} {n:Nat} {es:List Ent} (h:RdE w A n es):Src w 2 A n (cellsE es):=by
 refine ⟨by rw [cellsE_length,h.1],fun hn=>?_⟩
 obtain ⟨b,off,hA,hb,hc⟩:=h.2 hn
 refine ⟨_,hA,fun j u hu=>?_⟩
 rw [Addr.add_lit]
 have hj:j<(cellsE es).length:=(List.getElem?_eq_some_iff.1 hu).1
 rw [cellsE_length] at hj
 have he:es[j / 2]?=some es[j / 2]:=List.getElem?_eq_getElem (by omega)
 obtain ⟨d0,d1⟩:=cellsE_get es _ _ he
 obtain ⟨c0,c1⟩:=hc _ _ he
 rcases Nat.mod_two_eq_zero_or_one j with h2|h2
 ·have e2:j=j / 2 * 2:=by omega
  rw [e2] at hu ⊢
  rw [d0] at hu
  injection hu with hu
  rw [c0,hu]
 ·have e2:j=j / 2 * 2+1:=by omega
  rw [e2] at hu ⊢
  rw [d1] at hu
  injection hu with hu
  rw [← Nat.add_assoc,c1,hu]
theorem Src.blk {w:World} {g T size m:Nat} {news:List Value} (h:Blk w g T news.toArray) (hl:news.length=m * size):Src w size (some ⟨g,0,none⟩) m news :=
 ⟨hl,fun _=>⟨_,rfl,fun j u hu=>by rw [Addr.add_lit,Nat.zero_add,h.cell];simpa using hu⟩⟩
section
variable {P:Program} (w:World)
theorem run_append_of_nil (base:Nat) (t ty e:TypeId) (i:TypeInfo) (size:Nat) (ht:P.underlying t=some (.slice e)) (hi:P.info? e=some i)
  (v:Value) (n:Nat) (xs:List Value) (hown:w.ownsRow base e size v n xs) (c:Nat):(Builtin.append_ #[t,t] ty #[v,.slice none 0 c]).run P w=.ok v w:=by
 rcases hown.2 with ⟨rfl,rfl⟩|⟨g,cap,cur,rfl,_,_,hnc,_⟩
 ·simp [Builtin.append_,run_underlying ht,sizeOf,typeInfo,hi,Builtin.lenOf,Builtin.firstCells]
 ·simp [Builtin.append_,run_underlying ht,sizeOf,typeInfo,hi,Builtin.lenOf,Builtin.firstCells,hnc,storeCells]
theorem run_append_any (base:Nat) (t ty e:TypeId) (i:TypeInfo) (z:Value) (size bytes:Nat) (ht:P.underlying t=some (.slice e)) (hi:P.info? e=some i) (hz:i.zero=some z)
  (hsize:i.size=size) (hby:i.bytes=bytes) (hzs:z.cells.size=size) (hsz:0<size)
  (v:Value) (n:Nat) (xs:List Value) (hown:w.ownsRow base e size v n xs)
  (A:Option Addr) (m c:Nat) (news:List Value) (hr:Src w size A m news) (h1:∀ u ∈ news,u.oneCell'=true)
  (h63:n+m≤maxLen) (hbytes:(n+m) * bytes≤140737488355328) (hbase:base≤w.heap.size) (hA:A=none→m=0) :
  ∃ v' w',(Builtin.append_ #[t,t] ty #[v,.slice A m c]).run P w=.ok v' w'∧w'.ownsRow base e size v' (n+m) (xs ++ news)∧w.grownBy w' v.ownBlock ∧
   (v'.ownBlock=v.ownBlock∨v'.ownBlock=some w.heap.size):=by
 rcases A with _|ad
 ·obtain rfl:=hA rfl
  obtain rfl:news=[]:=List.eq_nil_of_length_eq_zero (by simpa using hr.1)
  exact ⟨v,w,run_append_of_nil w base t ty e i size ht hi v n xs hown c,by simpa using hown,World.grownBy.refl w _,.inl rfl⟩
 ·have hcells:∀ j u,news[j]?=some u→w.cell? (ad.add j)=some u:=by
   intro j u hu
   rcases Nat.eq_zero_or_pos m with h0|h0
   ·subst h0
    obtain rfl:news=[]:=List.eq_nil_of_length_eq_zero (by simpa using hr.1)
    simp at hu
   ·obtain ⟨ad',h,hc⟩:=hr.2 h0
    injection h with h
    subst h
    exact hc j u hu
  obtain ⟨v',w',hrun,h2,h3,_,h5⟩:=run_append_own_at (P:=P) w base t ty e i z size bytes ht hi hz hsize hby hzs hsz v n xs hown ad m c news hr.1 hcells h1 h63 hbytes hbase
  exact ⟨v',w',hrun,h2,h3,h5⟩
end
def Ow (B:Nat) (w:World) (T size:Nat) (A:Option Addr) (n c:Nat) (xs:List Value):Prop :=
 (n=0∧c=0∧xs=[])∨(0<c∧w.ownsRow B T size (.slice A n c) n xs)
theorem Ow.of_own {B:Nat} {w:World} {T size n c:Nat} {A:Option Addr} {xs:List Value} (h:w.ownsRow B T size (.slice A n c) n xs):Ow B w T size A n c xs:=by
 rcases Nat.eq_zero_or_pos c with hc|hc
 ·left
  have hn:n=0:=by
   rcases h.2 with ⟨_,h0⟩|⟨g,cap,cur,hv,_,_,hnc,_⟩
   ·exact h0
   ·injection hv with _ _ h3;omega
  exact ⟨hn,hc,List.eq_nil_of_length_eq_zero (by rw [h.1,hn];simp)⟩
 ·exact .inr ⟨hc,h⟩
def ownB (A:Option Addr) (c:Nat):Option Nat:=if c=0 then none else A.map (·.block)
section
variable {P:Program} (w:World)
theorem run_append_bare (t ty e:TypeId) (i:TypeInfo) (ht:P.underlying t=some (.slice e)) (hi:P.info? e=some i) (a:Addr) (m c:Nat) (A:Option Addr) (hm:0<m) (hm63:m≤maxLen) (hb:m * i.bytes≤140737488355328) :
  (Builtin.append_ #[t,t] ty #[.slice (some a) 0 0,.slice A m c]).run P w=(Builtin.append_ #[t,t] ty #[.slice none 0 0,.slice A m c]).run P w:=by
 have h0:¬ m=0:=by omega
 have h1:¬ (9223372036854775807<(m:Int)∧i.bytes=0):=by unfold maxLen at hm63;omega
 have h2:Builtin.nextslicecap m 0=m:=by unfold Builtin.nextslicecap;rw [if_pos (by omega)]
 have h3:¬ 281474976710656<m * i.bytes:=by omega
 simp [Builtin.append_,run_underlying ht,sizeOf,typeInfo,hi,Builtin.lenOf,h0,Builtin.firstCells,loadCells,loadCellsFrom,h1,h2,h3]
theorem run_append_none_ (t ty e:TypeId) (i:TypeInfo) (ht:P.underlying t=some (.slice e)) (hi:P.info? e=some i) (A A':Option Addr) (c:Nat) :
  (Builtin.append_ #[t,t] ty #[.slice A 0 0,.slice A' 0 c]).run P w=.ok (.slice A 0 0) w:=by
 cases A <;> cases A' <;> simp [Builtin.append_,run_underlying ht,sizeOf,typeInfo,hi,Builtin.lenOf,Builtin.firstCells,loadCells,loadCellsFrom,storeCells]
theorem run_append_ow (base:Nat) (t ty e:TypeId) (i:TypeInfo) (z:Value) (size bytes:Nat) (ht:P.underlying t=some (.slice e)) (hi:P.info? e=some i) (hz:i.zero=some z)
  (hsize:i.size=size) (hby:i.bytes=bytes) (hzs:z.cells.size=size) (hsz:0<size)
  (A:Option Addr) (n c:Nat) (xs:List Value) (hown:Ow base w e size A n c xs)
  (A2:Option Addr) (m c2:Nat) (news:List Value) (hr:Src w size A2 m news) (h1:∀ u ∈ news,u.oneCell'=true)
  (h63:n+m≤maxLen) (hbytes:(n+m) * bytes≤140737488355328) (hbase:base≤w.heap.size) :
  ∃ A' c' w',(Builtin.append_ #[t,t] ty #[.slice A n c,.slice A2 m c2]).run P w=.ok (.slice A' (n+m) c') w'∧Ow base w' e size A' (n+m) c' (xs ++ news)∧w.grownBy w' (ownB A c) ∧
   (∀ g,A'.map (·.block)=some g→0<c'→ownB A c=some g∨g=w.heap.size):=by
 have hA:A2=none→m=0:=by
  intro h
  rcases Nat.eq_zero_or_pos m with h0|h0
  ·exact h0
  ·obtain ⟨ad,h2,_⟩:=hr.2 h0
   rw [h] at h2;cases h2
 have key:∀ v:Value,∀ (n:Nat) (xs:List Value),w.ownsRow base e size v n xs→n+m≤maxLen→(n+m) * bytes≤140737488355328→∃ A' c' w',(Builtin.append_ #[t,t] ty #[v,.slice A2 m c2]).run P w=.ok (.slice A' (n+m) c') w'∧w'.ownsRow base e size (.slice A' (n+m) c') (n+m) (xs ++ news)∧w.grownBy w' v.ownBlock ∧
   ((Value.slice A' (n+m) c').ownBlock=v.ownBlock∨(Value.slice A' (n+m) c').ownBlock=some w.heap.size):=by
  intro v n xs ho g1 g2
  obtain ⟨v',w',r1,r2,r3,r4⟩:=run_append_any (P:=P) w base t ty e i z size bytes ht hi hz hsize hby hzs hsz v n xs ho A2 m c2 news hr h1 g1 g2 hbase hA
  obtain ⟨A',c',rfl⟩:=own_form r2
  exact ⟨A',c',w',r1,r2,r3,r4⟩
 have out:∀ (A':Option Addr) (k c':Nat) (b:Option Nat),((Value.slice A' k c').ownBlock=b∨(Value.slice A' k c').ownBlock=some w.heap.size)→∀ g,A'.map (·.block)=some g→b=some g∨g=w.heap.size:=by
  intro A' k c' b h g hg
  cases A' with
  | none=>cases hg
  | some a =>
   simp [Value.ownBlock] at h hg
   subst hg
   rcases h with h|h
   ·exact .inl h.symm
   ·exact .inr h
 rcases hown with ⟨rfl,rfl,rfl⟩|⟨hc,hown⟩
 ·rcases Nat.eq_zero_or_pos m with h0|h0
  ·subst h0
   obtain rfl:news=[]:=List.eq_nil_of_length_eq_zero (by simpa using hr.1)
   exact ⟨A,0,w,run_append_none_ w t ty e i ht hi A A2 c2,.inl ⟨rfl,rfl,rfl⟩,World.grownBy.refl w _,fun g _ h=>absurd h (by omega)⟩
  ·obtain ⟨A',c',w',r1,r2,r3,r4⟩:=key (.slice none 0 0) 0 [] (World.ownsRow_nil _ _ _ _) h63 hbytes
   refine ⟨A',c',w',?_,Ow.of_own r2,by simpa [ownB,Value.ownBlock] using r3,fun g hg _=>by simpa [ownB,Value.ownBlock] using out A' _ c' _ r4 g hg⟩
   rw [← r1]
   cases A with
   | none=>rfl
   | some a=>exact run_append_bare w t ty e i ht hi a m c2 A2 h0 (by omega) (by rw [hby];rwa [Nat.zero_add] at hbytes)
 ·obtain ⟨A',c',w',r1,r2,r3,r4⟩:=key _ n xs hown h63 hbytes
  have hob:(Value.slice A n c).ownBlock=ownB A c:=by
   unfold ownB Value.ownBlock
   rw [if_neg (by omega)]
   cases A <;> rfl
  rw [hob] at r3 r4
  exact ⟨A',c',w',r1,Ow.of_own r2,r3,fun g hg _=>out A' _ c' _ r4 g hg⟩
theorem wp_append_ow {o:Oper} {a:Act} {K:Act→World→Prop} {Q:Exit→Act→World→Prop} (s x:Operand) (t:TypeId)
  (ho:o.op=.call { callee:=.builtin .append,args:=#[s,x],argTypes:=#[t,t] })
  (base:Nat) (e:TypeId) (i:TypeInfo) (z:Value) (size bytes:Nat) (ht:P.underlying t=some (.slice e)) (hi:P.info? e=some i) (hz:i.zero=some z)
  (hsize:i.size=size) (hby:i.bytes=bytes) (hzs:z.cells.size=size) (hsz:0<size)
  (A:Option Addr) (n c:Nat) (xs:List Value) (hs:a.eval s=.slice A n c) (hown:Ow base w e size A n c xs)
  (A2:Option Addr) (m c2:Nat) (news:List Value) (hx:a.eval x=.slice A2 m c2) (hr:Src w size A2 m news) (h1:∀ u ∈ news,u.oneCell'=true)
  (h63:n+m≤maxLen) (hbytes:(n+m) * bytes≤140737488355328) (hbase:base≤w.heap.size)
  (h:∀ A' c' w',Ow base w' e size A' (n+m) c' (xs ++ news)→w.grownBy w' (ownB A c)→(∀ g,A'.map (·.block)=some g→0<c'→ownB A c=some g∨g=w.heap.size)→K (a.put o.dst (.slice A' (n+m) c')) w'):o.wp P a w K Q:=by
 obtain ⟨A',c',w',hrun,h2,h3,h4⟩:=run_append_ow (P:=P) w base t o.type e i z size bytes ht hi hz hsize hby hzs hsz A n c xs hown A2 m c2 news hr h1 h63 hbytes hbase
 unfold Oper.wp execOp
 simp only [ho,resolve,invoke,builtin,Sem.run_bind,Sem.run_pure,Result.andThen_ok,List.map_toArray,List.map_cons,List.map_nil,hs,hx,hrun]
 exact h A' c' w' h2 h3 h4
theorem wpList_append_ow {ops:Array Oper} {rest:List Oper} {o:Oper} {a:Act} {Q:Exit→Act→World→Prop} (hgd:o.guard=none) (s x:Operand) (t:TypeId)
  (ho:o.op=.call { callee:=.builtin .append,args:=#[s,x],argTypes:=#[t,t] })
  (base:Nat) (e:TypeId) (i:TypeInfo) (z:Value) (size bytes:Nat) (ht:P.underlying t=some (.slice e)) (hi:P.info? e=some i) (hz:i.zero=some z)
  (hsize:i.size=size) (hby:i.bytes=bytes) (hzs:z.cells.size=size) (hsz:0<size)
  (A:Option Addr) (n c:Nat) (xs:List Value) (hs:a.eval s=.slice A n c) (hown:Ow base w e size A n c xs)
  (A2:Option Addr) (m c2:Nat) (news:List Value) (hx:a.eval x=.slice A2 m c2) (hr:Src w size A2 m news) (h1:∀ u ∈ news,u.oneCell'=true)
  (h63:n+m≤maxLen) (hbytes:(n+m) * bytes≤140737488355328) (hbase:base≤w.heap.size)
  (h:∀ A' c' w',Ow base w' e size A' (n+m) c' (xs ++ news)→w.grownBy w' (ownB A c)→(∀ g,A'.map (·.block)=some g→0<c'→ownB A c=some g∨g=w.heap.size)→wpList P ops Q rest (a.put o.dst (.slice A' (n+m) c')) w'):wpList P ops Q (o :: rest) a w :=
 wpList_plain hgd fun _ hK=>wp_append_ow w s x t ho base e i z size bytes ht hi hz hsize hby hzs hsz A n c xs hs hown A2 m c2 news hx hr h1 h63 hbytes hbase fun A' c' w' h2 h3 h4=>hK _ _ (h A' c' w' h2 h3 h4)
theorem step_append_ow {ops:Array Oper} {o:Oper} {a:Act} {K:Act→World→Prop} {Q:Exit→Act→World→Prop} {E:Prop} (hgd:o.guard=none) (s x:Operand) (t:TypeId)
  (ho:o.op=.call { callee:=.builtin .append,args:=#[s,x],argTypes:=#[t,t] })
  (base:Nat) (e:TypeId) (i:TypeInfo) (z:Value) (size bytes:Nat) (ht:P.underlying t=some (.slice e)) (hi:P.info? e=some i) (hz:i.zero=some z)
  (hsize:i.size=size) (hby:i.bytes=bytes) (hzs:z.cells.size=size) (hsz:0<size)
  (A:Option Addr) (n c:Nat) (xs:List Value) (hs:a.eval s=.slice A n c) (hown:Ow base w e size A n c xs)
  (A2:Option Addr) (m c2:Nat) (news:List Value) (hx:a.eval x=.slice A2 m c2) (hr:Src w size A2 m news) (h1:∀ u ∈ news,u.oneCell'=true)
  (h63:n+m≤maxLen) (hbytes:(n+m) * bytes≤140737488355328) (hbase:base≤w.heap.size)
  (h:∀ A' c' w',Ow base w' e size A' (n+m) c' (xs ++ news)→w.grownBy w' (ownB A c)→(∀ g,A'.map (·.block)=some g→0<c'→ownB A c=some g∨g=w.heap.size)→K (a.put o.dst (.slice A' (n+m) c')) w') :
  if Region.wanted o (yielded ops a.tmps)=true then Oper.wp P o a w K Q else E:=by
 have hw:Region.wanted o (yielded ops a.tmps)=true:=by simp [Region.wanted,hgd]
 rw [if_pos hw]
 exact wp_append_ow w s x t ho base e i z size bytes ht hi hz hsize hby hzs hsz A n c xs hs hown A2 m c2 news hx hr h1 h63 hbytes hbase h
end
section
variable {B:Nat} {w w':World} {T size n c:Nat} {A:Option Addr} {xs:List Value}
theorem Ow.bare (B:Nat) (w:World) (T size:Nat) (A:Option Addr):Ow B w T size A 0 0 []:=.inl ⟨rfl,rfl,rfl⟩
theorem Ow.len (h:Ow B w T size A n c xs):xs.length=n * size:=by
 rcases h with ⟨rfl,_,rfl⟩|⟨_,h⟩
 ·simp
 ·exact h.1
theorem Ow.blk (h:Ow B w T size A n c xs) (hc:0<c):∃ g cur,A=some ⟨g,0,none⟩∧B≤g∧Blk w g T cur∧n≤c∧c≤maxLen∧cur.size=c * size∧cur.toList.take (n * size)=xs:=by
 rcases h with ⟨_,rfl,_⟩|⟨_,h⟩
 ·omega
 ·rcases h.2 with ⟨h1,_⟩|⟨g,cap,cur,hv,hg,hb,r⟩
  ·injection h1 with _ _ h3;omega
  ·injection hv with h1 _ h3
   subst h3
   exact ⟨g,cur,h1,hg,hb,r⟩
theorem Ow.mk_ {g:Nat} {cur:Array Value} (hx:xs.length=n * size) (hB:B≤g) (hb:Blk w g T cur) (hn:n≤c) (hm:c≤maxLen) (hs:cur.size=c * size) (ht:cur.toList.take (n * size)=xs):Ow B w T size (some ⟨g,0,none⟩) n c xs :=
 Ow.of_own ⟨hx,.inr ⟨g,c,cur,rfl,hB,hb,hn,hm,hs,ht⟩⟩
theorem Ow.le (h:Ow B w T size A n c xs):n≤c:=by
 rcases Nat.eq_zero_or_pos c with h0|h0
 ·rcases h with ⟨rfl,_⟩|⟨h1,_⟩
  ·omega
  ·omega
 ·obtain ⟨_,_,_,_,_,h1,_⟩:=h.blk h0
  exact h1
theorem Ow.keep (h:Ow B w T size A n c xs) (hk:∀ g,A.map (·.block)=some g→0<c→w'.heap[g]?=w.heap[g]?):Ow B w' T size A n c xs:=by
 rcases Nat.eq_zero_or_pos c with h0|h0
 ·rcases h with h|⟨h1,_⟩
  ·exact .inl h
  ·omega
 ·obtain ⟨g,cur,rfl,hB,hb,hn,hm,hs,ht⟩:=h.blk h0
  exact Ow.mk_ h.len hB ((hk g rfl h0).trans hb) hn hm hs ht
theorem Ow.lt (h:Ow B w T size A n c xs) {g:Nat} (hg:A.map (·.block)=some g) (hc:0<c):B≤g∧g<w.heap.size:=by
 obtain ⟨g',cur,rfl,hB,hb,_⟩:=h.blk hc
 injection hg with hg
 subst hg
 exact ⟨hB,hb.lt⟩
theorem Ow.next (h:Ow B w T size A n c xs) (hb:Below w.heap.size w w'):Ow B w' T size A n c xs:=h.keep fun g hg hc=>hb.block g (h.lt hg hc).2
theorem Ow.alloc (h:Ow B w T size A n c xs) (o:Obj):Ow B (w.alloc o) T size A n c xs:=h.next ((Below.refl _ _).alloc (Nat.le_refl _) _)
theorem Ow.drew (h:Ow B w T size A n c xs):Ow B w.drew T size A n c xs:=h
theorem Ow.only {g:Nat} (h:Ow B w T size A n c xs) (ho:Only g w w') (hne:A.map (·.block)=some g→c=0):Ow B w' T size A n c xs :=
 h.keep fun k hk hc=>ho.block k (h.lt hk hc).2 (by
  intro e;injection e with e;subst e
  have:=hne hk
  omega)
theorem Ow.onlyB {g:Nat} (h:Ow B w T size A n c xs) (ho:Only g w w') (hg:g<B):Ow B w' T size A n c xs :=
 h.only ho fun hA=>by
  rcases Nat.eq_zero_or_pos c with h0|h0
  ·exact h0
  ·have:=(h.lt hA h0).1
   omega
theorem Ow.mono {B':Nat} (h:Ow B w T size A n c xs) (hB:B'≤B):Ow B' w T size A n c xs:=by
 rcases Nat.eq_zero_or_pos c with h0|h0
 ·rcases h with h|⟨h1,_⟩
  ·exact .inl h
  ·omega
 ·obtain ⟨g,cur,rfl,hB',hb,hn,hm,hs,ht⟩:=h.blk h0
  exact Ow.mk_ h.len (by omega) hb hn hm hs ht
theorem Ow.src (h:Ow B w T size A n c xs):Src w size A n xs:=by
 refine ⟨h.len,fun hn=>?_⟩
 have hc:0<c:=Nat.lt_of_lt_of_le hn h.le
 obtain ⟨g,cur,rfl,hB,hb,_,_,hs,ht⟩:=h.blk hc
 refine ⟨_,rfl,fun j u hu=>?_⟩
 rw [Addr.add_lit,Nat.zero_add,hb.cell]
 rw [← ht,List.getElem?_take] at hu
 split at hu
 ·simpa using hu
 ·cases hu
theorem Ow.grown {w0:World} {C:Nat} (h:Ow B w T size A n c xs) (hg:w.grownBy w' (ownB A c)) (hb:Below C w0 w) (hC:C≤B) (hs:C≤w.heap.size):Below C w0 w' :=
 hb.grown hg hs fun k hk=>by
  unfold ownB at hk
  split at hk
  ·cases hk
  ·exact Nat.le_trans hC (h.lt hk (by omega)).1
end
theorem Blk.newAt (w:World) (T:Nat) (cs:Array Value) (b:Nat) (hb:w.heap.size=b):Blk (w.alloc (.cells cs T)) b T cs:=by subst hb;exact Blk.new _ _ _
theorem Blk.drew {w:World} {g T:Nat} {cs:Array Value} (h:Blk w g T cs):Blk w.drew g T cs:=h
theorem Blk.bare {w w':World} {g T:Nat} {cs:Array Value} {A:Option Addr} (h:Blk w g T cs) (hg:w.grownBy w' (ownB A 0)):Blk w' g T cs:=(hg.block g h.lt (by simp [ownB])).trans h
theorem Ow.rdE {B:Nat} {w:World} {T:Nat} {A:Option Addr} {n c:Nat} {es:List Ent} (h:Ow B w T 2 A n c (cellsE es)):RdE w A n es:=by
 have hl:=h.len
 rw [cellsE_length] at hl
 refine ⟨by omega,fun hn=>?_⟩
 obtain ⟨ad,hA,hc⟩:=h.src.2 hn
 have hcp:0<c:=Nat.lt_of_lt_of_le hn h.le
 obtain ⟨g,cur,rfl,hB,hb,_,_,hs,ht⟩:=h.blk hcp
 injection hA with hA
 subst hA
 refine ⟨g,0,rfl,hb.lt,fun k e he=>?_⟩
 obtain ⟨c1,c2⟩:=cellsE_get es k e he
 have d1:=hc _ _ c1
 have d2:=hc _ _ c2
 rw [Addr.add_lit] at d1 d2
 exact ⟨d1,by rw [Nat.add_assoc];exact d2⟩
end Go.Proofs.YtkgfmgajhgfgjaaGreatDoor
namespace Go.Proofs.YtkgfmgajhgfgjaaGreatDoor
open Go.RowKit Go.Sort
def RdI (k:IntKind) (w:World) (A:Option Addr) (n:Nat) (zs:List Int):Prop :=
 zs.length=n∧(0<n→∃ b off,A=some ⟨b,off,none⟩∧b<w.heap.size∧∀ j z,zs[j]?=some z→w.cell? ⟨b,off+j,none⟩=some (.int k z))
section
variable {k:IntKind} {w w':World} {A:Option Addr} {n:Nat} {zs:List Int}
theorem RdI.len (h:RdI k w A n zs):zs.length=n:=h.1
theorem RdI.at_ (h:RdI k w A n zs) {j:Nat} (hj:j<n):∃ b off z,A=some ⟨b,off,none⟩∧b<w.heap.size∧zs[j]?=some z∧w.cell? ⟨b,off+j,none⟩=some (.int k z):=by
 obtain ⟨b,off,hA,hb,hc⟩:=h.2 (by omega)
 have hl:j<zs.length:=by rw [h.1];exact hj
 exact ⟨b,off,zs[j],hA,hb,List.getElem?_eq_getElem hl,hc j _ (List.getElem?_eq_getElem hl)⟩
theorem RdI.keep (h:RdI k w A n zs) (hs:w.heap.size≤w'.heap.size) (hk:∀ b o,0<n→A.map (·.block)=some b→b<w.heap.size→w'.cell? ⟨b,o,none⟩=w.cell? ⟨b,o,none⟩):RdI k w' A n zs:=by
 refine ⟨h.1,fun hn=>?_⟩
 obtain ⟨b,off,hA,hlt,hc⟩:=h.2 hn
 exact ⟨b,off,hA,Nat.lt_of_lt_of_le hlt hs,fun j z hz=>by rw [hk b _ hn (by rw [hA];rfl) hlt];exact hc j z hz⟩
theorem RdI.below (h:RdI k w A n zs) (hb:Below w.heap.size w w'):RdI k w' A n zs:=h.keep hb.size fun b o _ _ hlt=>(bcell hb).1 b o hlt
theorem RdI.only {g:Nat} (h:RdI k w A n zs) (ho:Only g w w') (hg:0<n→A.map (·.block)≠some g):RdI k w' A n zs:=h.keep ho.size fun b o h0 hb hlt=>ho.cell hlt (by rintro rfl;exact hg h0 hb) o
theorem RdI.take (h:RdI k w A n zs) {m:Nat} (hm:m≤n):RdI k w A m (zs.take m):=by
 refine ⟨by rw [List.length_take,h.1];omega,fun hn=>?_⟩
 obtain ⟨b,off,hA,hlt,hc⟩:=h.2 (by omega)
 exact ⟨b,off,hA,hlt,fun j e he=>hc j e (by
  rw [List.getElem?_take] at he
  split at he
  ·exact he
  ·cases he)⟩
end
theorem ofInt_i64 (a:Nat) (ha:a<9223372036854775808):(BitVec.ofInt 64 (a:Int)).toNat=a:=by
 rw [BitVec.ofInt_natCast,BitVec.toNat_ofNat];exact Nat.mod_eq_of_lt (by omega)
theorem i64_xor_nat (a b:Nat) (ha:a<9223372036854775808) (hb:b<9223372036854775808):bits .xor .i64 (a:Int) (b:Int)=((a ^^^ b:Nat):Int):=by
 have hx:a ^^^ b<2 ^ 63:=Nat.xor_lt_two_pow (by omega) (by omega)
 show IntKind.i64.wrap ((BitVec.ofInt 64 (a:Int) ^^^ BitVec.ofInt 64 (b:Int)).toNat:Int)=_
 rw [BitVec.toNat_xor,ofInt_i64 a ha,ofInt_i64 b hb,IntKind.wrap_i64]
 omega
def Rdr (w:World) (g p:Nat):Prop :=
 ∃ (A:Option Addr) (n c:Nat) (zs:List Int),Blk w g 156 #[.slice A n c,.int .i64 p]∧RdI .u8 w A n zs∧(∀ z ∈ zs,0≤z∧z≤255)∧n≤2000∧(0<n→∀ b,A.map (·.block)=some b→b<g)
theorem Rdr.lt {w:World} {g p:Nat} (h:Rdr w g p):g<w.heap.size:=by
 obtain ⟨A,n,c,zs,hb,_⟩:=h
 exact hb.lt
theorem Rdr.next {w w':World} {g p:Nat} (h:Rdr w g p) (hb:Below w.heap.size w w'):Rdr w' g p:=by
 obtain ⟨A,n,c,zs,h1,h2,h3,h4,h5⟩:=h
 exact ⟨A,n,c,zs,h1.next hb,h2.below hb,h3,h4,h5⟩
theorem Rdr.set_ {w:World} {g p:Nat} (h:Rdr w g p) {a:Addr} (ha:g<a.block) (u:Value):Rdr (w.setCell a u) g p:=by
 obtain ⟨A,n,c,zs,h1,h2,h3,h4,h5⟩:=h
 exact ⟨A,n,c,zs,h1.far (by omega) u,h2.only (g:=a.block) ((Only.refl _ _).set_ (.inl rfl) u) (fun h0 hb=>by have:=h5 h0 _ hb;omega),h3,h4,h5⟩
theorem Rdr.grown {w w':World} {g p:Nat} (h:Rdr w g p) {row:Option Nat} (ho:w.grownBy w' row) (hg:∀ b,row=some b→g<b):Rdr w' g p:=by
 obtain ⟨A,n,c,zs,h1,h2,h3,h4,h5⟩:=h
 refine ⟨A,n,c,zs,(ho.block g h1.lt (fun e=>by have:=hg g e.symm;omega)).trans h1,h2.keep ho.size (fun b o h0 hb hlt=>World.cell?_of_block (w:=w) (ho.block b hlt (fun e=>by have:=hg b e.symm;have:=h5 h0 _ hb;omega))),h3,h4,h5⟩
def PickPost (g p:Nat) (n:Int) (w:World) (e:Ending) (w':World):Prop :=
 ∃ v:Int,e=.returned (.int .i64 v)∧0≤v∧(1≤n→v<n)∧Rdr w' g (p+1)∧Only g w w'
theorem l6Open_any (A:Option Addr) (n c:Nat) (zs:List Int) (w:World) (hr:RdI .u8 w A n zs) (hz:∀ z ∈ zs,0≤z∧z≤255) (hn:n≤c) (hc:c≤maxLen) :
  Calls Tryz.prog 44 #[.slice A n c] w fun e w'=>∃ g,e=.returned (.pointer (some ⟨g,0,none⟩))∧w.heap.size≤g∧Rdr w' g 0∧Below w.heap.size w w':=by
 have HR:=Lib.hid hr
 have HZ:=Lib.hid hz
 unfold maxLen at hc
 clear hr hz
 by_cases h2:2000<n
 ·obtain ⟨b,off,z,rfl,hb,_,_⟩:=HR.out.at_ (j:=0) (by omega)
  have h2':(2000:Int)<n:=by omega
  have h3:¬ c=0:=by omega
  go_enter Tryz.func44,Tryz.ntmps44
  go_wp2
  go_ret
  refine ⟨_,rfl,Nat.le_refl _,⟨_,_,_,_,Blk.new _ _ _,(HR.out.take (m:=2000) (by omega)).below ((Below.refl _ _).alloc (Nat.le_refl _) _),fun z hz=>HZ.out z (List.mem_of_mem_take hz),Nat.le_refl _,fun _ b' hb'=>by simp at hb';omega⟩,by go_grown⟩
 ·have h2':¬ (2000:Int)<n:=by omega
  have hA:0<n→∀ b,A.map (·.block)=some b→b<w.heap.size:=fun h0=>by
   obtain ⟨b,off,z,rfl,hb,_,_⟩:=HR.out.at_ (j:=0) h0
   intro b' hb'
   simp at hb'
   omega
  have HA:=Lib.hid hA;clear hA
  go_enter Tryz.func44,Tryz.ntmps44
  go_wp2
  go_ret
  exact ⟨_,rfl,Nat.le_refl _,⟨_,_,_,_,Blk.new _ _ _,HR.out.below ((Below.refl _ _).alloc (Nat.le_refl _) _),HZ.out,by omega,HA.out⟩,by go_grown⟩
theorem xor_bd (x:Int) (h0:0≤x) (h1:x≤1152921504606846976):∃ y:Int,bits .xor .i64 x (x / 64)=y∧0≤y∧y≤2305843009213693952:=by
 obtain ⟨a,rfl⟩:=Int.eq_ofNat_of_zero_le h0
 have e:((a:Int) / 64)=((a / 64:Nat):Int):=by omega
 refine ⟨((a ^^^ (a / 64):Nat):Int),by rw [e];exact i64_xor_nat _ _ (by omega) (by omega),by omega,?_⟩
 have hx:a ^^^ (a / 64)<2 ^ 61:=Nat.xor_lt_two_pow (by omega) (by omega)
 omega
set_option maxHeartbeats 2000000 in
theorem pick_any (g:Nat) (n:Int) (p:Nat) (w:World) (h:Rdr w g p) (hp:p≤1099511627776) :
  Calls Tryz.prog 48 #[.pointer (some ⟨g,0,none⟩),.int .i64 n] w (PickPost g p n w):=by
 obtain ⟨A,m,c,zs,hb,hr,hz,hm,hA⟩:=h
 have hb0:w.cell? ⟨g,0,none⟩=some (.slice A m c):=hb.cell 0
 have hb1:w.cell? ⟨g,1,none⟩=some (.int .i64 p):=hb.cell 1
 have hf1:=hb.frozen 1
 have HB:=Lib.hid hb
 have HR:=Lib.hid hr
 have HZ:=Lib.hid hz
 have HA:=Lib.hid hA
 have hg:=hb.lt
 have hend:∀ v:Int,0≤v→(1≤n→v<n)→∀ k,PickPost g p n w (.returned (.int .i64 v)) ((w.setCell ⟨g,1,none⟩ (.int .i64 ((p:Int)+1))).drewN k):=by
  intro v h0 h1 k
  have ho:Only g w ((w.setCell ⟨g,1,none⟩ (.int .i64 ((p:Int)+1))).drewN k):=((Only.refl g w).set_ (p:=⟨g,1,none⟩) (.inl rfl) _).drewN k
  exact ⟨v,rfl,h0,h1,⟨A,m,c,zs,HB.out.set_ 1 _,HR.out.only ho (fun h0 hb=>by have:=HA.out h0 _ hb;omega),HZ.out,hm,HA.out⟩,ho⟩
 have HE:=Lib.hid hend
 clear hb hr hz hA hend
 have k0:(w.setCell ⟨g,1,none⟩ (.int .i64 ((p:Int)+1))).cell? ⟨g,0,none⟩=some (.slice A m c):=(HB.out.set_ 1 _).cell 0
 have k1:(w.setCell ⟨g,1,none⟩ (.int .i64 ((p:Int)+1))).cell? ⟨g,1,none⟩=some (.int .i64 ((p:Int)+1)):=(HB.out.set_ 1 _).cell 1
 by_cases hn:n<1
 ·go_enter Tryz.func48,Tryz.ntmps48
  go_wp2
  go_ret
  exact HE.out 0 (Int.le_refl _) (by omega) 0
 ·by_cases hm0:m=0
  ·subst hm0
   go_enter Tryz.func48,Tryz.ntmps48
   go_wp2
   go_ret
   exact HE.out 0 (Int.le_refl _) (by omega) 0
  ·have hm1:((m:Int) == 0)=false:=by simp;omega
   have hcell:∀ j,j<m→∃ b off z,A=some ⟨b,off,none⟩∧b<w.heap.size∧b≠g∧zs[j]?=some z∧(w.setCell ⟨g,1,none⟩ (.int .i64 ((p:Int)+1))).cell? ⟨b,off+j,none⟩=some (.int .u8 z):=by
    intro j hj
    obtain ⟨b,off,z,hA,hb,hz,hc⟩:=HR.out.at_ hj
    have hne:b≠g:=by
     intro hbg
     have:=HA.out (by omega) b (by rw [hA];rfl)
     omega
    exact ⟨b,off,z,hA,hb,hne,hz,by rw [World.cell?_setCell_other _ _ _ _ (by simp)];exact hc⟩
   by_cases hpm:p<m
   ·obtain ⟨b,off,z,rfl,hb,hne,hz,hc⟩:=hcell p hpm
    have hzb:=HZ.out z (List.mem_of_getElem? hz)
    have hz0:0≤z:=hzb.1
    have hz1:z≤255:=hzb.2
    clear hz hzb hb0 hcell
    go_enter Tryz.func48,Tryz.ntmps48
    go_wp2
    go_ret
    exact HE.out _ (Int.emod_nonneg _ (by omega)) (fun _=>Int.emod_lt_of_pos _ (by omega)) 0
   ·have hj1:p % m<m:=Nat.mod_lt _ (by omega)
    have hj2:(p * 7+3) % m<m:=Nat.mod_lt _ (by omega)
    obtain ⟨b,off,z,rfl,hb,hne,hz,hc⟩:=hcell (p % m) hj1
    obtain ⟨b',off',z',hA',hb',hne',hz',hc'⟩:=hcell ((p * 7+3) % m) hj2
    obtain ⟨rfl,rfl⟩:b=b'∧off=off':=by simpa using hA'
    have hzb:=HZ.out z (List.mem_of_getElem? hz)
    have hz0:0≤z:=hzb.1
    have hz1:z≤255:=hzb.2
    have hzb':=HZ.out z' (List.mem_of_getElem? hz')
    have hz0':0≤z':=hzb'.1
    have hz1':z'≤255:=hzb'.2
    have hi1:(0:Int)≤(p:Int) % m:=by omega
    have hi2:(p:Int) % m<m:=by omega
    have hi3:(0:Int)≤((p:Int) * 7+3) % m:=Int.emod_nonneg _ (by omega)
    have hi4:((p:Int) * 7+3) % m<m:=Int.emod_lt_of_pos _ (by omega)
    have hi5:((p:Int) % m).toNat=p % m:=by omega
    have hi6:(((p:Int) * 7+3) % m).toNat=(p * 7+3) % m:=by
     rw [show ((p:Int) * 7+3) % m=(((p * 7+3) % m:Nat):Int) by push_cast;rfl]
     rfl
    have hq0:(0:Int)≤(p:Int) / m:=Int.ediv_nonneg (by omega) (by omega)
    have hq1:(p:Int) / m≤p:=Int.ediv_le_self _ (by omega)
    obtain ⟨y,hy,hy0,hy1⟩:=xor_bd (z * 131+z' * 1117+p * 29+(p:Int) / m * 53) (by omega) (by omega)
    clear hz hzb hz' hzb' hb0 hcell hA'
    go_enter Tryz.func48,Tryz.ntmps48
    go_wp2
    go_quiet (fail)
    go_wp2
    go_ret
    exact HE.out _ (Int.emod_nonneg _ (by omega)) (fun _=>Int.emod_lt_of_pos _ (by omega)) _
end Go.Proofs.YtkgfmgajhgfgjaaGreatDoor
namespace Go.Proofs.YtkgfmgajhgfgjaaGreatDoor
open Go.RowKit Go.ChangeShapes Go.WideShapes Go.ChangeAt Go.Joins Go.Deep
def IntsOf (k:IntKind) (w:World) (A:Option Addr) (n c:Nat) (zs:List Int):Prop:=RdI k w A n zs∧n≤c∧c≤maxLen∧∀ z ∈ zs,(Lit.int k z).wf=true
abbrev BytesIn:=IntsOf .u8
theorem BytesIn.bd {w:World} {A:Option Addr} {n c:Nat} {zs:List Int} (h:BytesIn w A n c zs):∀ z ∈ zs,0≤z∧z≤255:=by
 intro z hz
 have:=h.2.2.2 z hz
 simp only [Lit.wf,Bool.and_eq_true,decide_eq_true_eq] at this
 have h0:IntKind.u8.min=0:=by decide
 have h1:IntKind.u8.max=255:=by decide
 omega
theorem open_IntsOf {k:IntKind} {H:Type} {enc:TypeId × Value→H} {P:Program} {w:World} {t e:TypeId} {fuel:Nat} {A:Option Addr} {n c:Nat} {x:DataW H × List MemPlace}
  (ht:P.underlying t=some (.slice e)) (he:P.underlying e=some (.int k)) (ce:P.cellsOf e=1)
  (h:DataW.trod enc P w 0 (fun _=>true) true fuel t [.slice A n c]=some x) :
  ∃ zs:List Int,IntsOf k w A n c zs:=by
 rcases open_slice1 ht ce h with ⟨hcs,_⟩|⟨a,len,cap,m,n',V,D,Pl,hcs,_,hl,hm,hmm,_,hx⟩
 ·simp at hcs
  obtain ⟨rfl,rfl,rfl⟩:=hcs
  exact ⟨[],⟨rfl,fun h=>absurd h (by omega)⟩,Nat.le_refl _,by simp [maxLen],fun e he=>by cases he⟩
 ·simp at hcs
  obtain ⟨rfl,rfl,rfl⟩:=hcs
  have hmn:n≤m:=by rw [hmm];simp;exact hl
  have hv:∀ i,i<n→V i=.int k (numOf_ (V i))∧(Lit.int k (numOf_ (V i))).wf=true:=by
   intro i hi
   obtain ⟨_,t0⟩:=hx i (by omega)
   obtain ⟨q0,e0,_,w0⟩:=DataW.trod_int he t0
   have e0':V i=.int k q0:=by simpa using e0
   rw [e0']
   exact ⟨rfl,w0⟩
  refine ⟨(List.range n).map fun i=>numOf_ (V i),⟨by simp,fun hn=>?_⟩,hl,hm,fun e he=>?_⟩
  ·obtain ⟨b,off,spot⟩:=a
   have hs:spot=none:=by
    have:=World.cell?_spot (hx 0 (by omega)).1
    simpa [Addr.add] using this
   subst hs
   refine ⟨b,off,rfl,?_,fun k' e he=>?_⟩
   ·have:=World.block_lt_of_cell? _ _ (hx 0 (by omega)).1
    simpa [Addr.add] using this
   ·have hk:k'<n:=by
     have:=(List.getElem?_eq_some_iff.1 he).1
     simpa using this
    obtain ⟨g0,_⟩:=hx k' (by omega)
    obtain ⟨v0,_⟩:=hv k' hk
    have hee:e=numOf_ (V k'):=by
     have:=he
     simp [hk] at this
     exact this.symm
    rw [Addr.add_lit] at g0
    subst hee
    rw [g0,v0];rfl
  ·obtain ⟨i,hi,rfl⟩:=List.mem_map.1 he
   exact (hv i (List.mem_range.1 hi)).2
theorem open_BytesIn {H:Type} {enc:TypeId × Value→H} {P:Program} {w:World} {t e:TypeId} {fuel:Nat} {A:Option Addr} {n c:Nat} {x:DataW H × List MemPlace}
  (ht:P.underlying t=some (.slice e)) (he:P.underlying e=some (.int .u8)) (ce:P.cellsOf e=1)
  (h:DataW.trod enc P w 0 (fun _=>true) true fuel t [.slice A n c]=some x) :
  ∃ zs:List Int,BytesIn w A n c zs:=open_IntsOf ht he ce h
end Go.Proofs.YtkgfmgajhgfgjaaGreatDoor
namespace Go.Proofs.YtkgfmgajhgfgjaaGreatDoor
open Go.RowKit Go.Sort
section
variable {α:Type} {enc:α→List Value} {sz:Nat}
def cellsX (enc:α→List Value) (xs:List α):List Value:=xs.flatMap enc
theorem cellsX_cons (x:α) (r:List α):cellsX enc (x :: r)=enc x ++ cellsX enc r:=rfl
theorem cellsX_append (a b:List α):cellsX enc (a ++ b)=cellsX enc a ++ cellsX enc b:=by simp [cellsX]
theorem cellsX_one (x:α):cellsX enc [x]=enc x:=by simp [cellsX]
theorem cellsX_length (he:∀ x,(enc x).length=sz) (xs:List α):(cellsX enc xs).length=xs.length * sz:=by
 induction xs with
 | nil=>simp [cellsX]
 | cons x r ih=>rw [cellsX_cons,List.length_append,he,ih,List.length_cons,Nat.add_mul,Nat.one_mul,Nat.add_comm]
theorem cellsX_get (he:∀ x,(enc x).length=sz) (xs:List α):∀ (k:Nat) (x:α),xs[k]?=some x→∀ j v,(enc x)[j]?=some v→(cellsX enc xs)[k * sz+j]?=some v:=by
 induction xs with
 | nil=>intro k x h;simp at h
 | cons y r ih =>
  intro k x h j v hv
  have hj:j<sz:=by
   have:=(List.getElem?_eq_some_iff.1 hv).1
   rw [he] at this
   exact this
  cases k with
  | zero =>
   simp at h
   subst h
   rw [cellsX_cons,Nat.zero_mul,Nat.zero_add,List.getElem?_append_left (by rw [he];exact hj)]
   exact hv
  | succ k =>
   have h':r[k]?=some x:=by simpa using h
   rw [cellsX_cons,List.getElem?_append_right (by rw [he,Nat.add_mul];omega),he,show (k+1) * sz+j - sz=k * sz+j by rw [Nat.add_mul];omega]
   exact ih k x h' j v hv
theorem cellsX_take (he:∀ x,(enc x).length=sz) (xs:List α):∀ k,(cellsX enc xs).take (k * sz)=cellsX enc (xs.take k):=by
 induction xs with
 | nil=>intro k;simp [cellsX]
 | cons x r ih =>
  intro k
  cases k with
  | zero=>simp [cellsX]
  | succ k =>
   rw [cellsX_cons,List.take_append,he,List.take_of_length_le (by rw [he,Nat.add_mul];omega),show (k+1) * sz - sz=k * sz by rw [Nat.add_mul];omega,ih,List.take_succ_cons,cellsX_cons]
theorem cellsX_drop (he:∀ x,(enc x).length=sz) (xs:List α):∀ k,(cellsX enc xs).drop (k * sz)=cellsX enc (xs.drop k):=by
 induction xs with
 | nil=>intro k;simp [cellsX]
 | cons x r ih =>
  intro k
  cases k with
  | zero=>simp
  | succ k =>
   rw [cellsX_cons,List.drop_append,he,List.drop_of_length_le (by rw [he,Nat.add_mul];omega),show (k+1) * sz - sz=k * sz by rw [Nat.add_mul];omega,ih,List.drop_succ_cons,List.nil_append]
theorem cellsX_oneCell (h:∀ x,∀ u ∈ enc x,u.oneCell'=true) (xs:List α):∀ u ∈ cellsX enc xs,u.oneCell'=true:=by
 intro u hu
 simp only [cellsX,List.mem_flatMap] at hu
 obtain ⟨e,_,h'⟩:=hu
 exact h e u h'
theorem cellsX_set (he:∀ x,(enc x).length=sz) (xs:List α):∀ (k:Nat) (x y:α) (j:Nat) (v:Value),xs[k]?=some x→enc y=(enc x).set j v→j<sz→cellsX enc (xs.set k y)=(cellsX enc xs).set (k * sz+j) v:=by
 induction xs with
 | nil=>intro k x y j v h;simp at h
 | cons z r ih =>
  intro k x y j v h hy hj
  cases k with
  | zero =>
   simp at h
   subst h
   rw [List.set_cons_zero,cellsX_cons,cellsX_cons,Nat.zero_mul,Nat.zero_add,List.set_append_left _ _ (by rw [he];exact hj),hy]
  | succ k =>
   rw [List.set_cons_succ,cellsX_cons,cellsX_cons,List.set_append_right _ _ (by rw [he,Nat.add_mul];omega),he,show (k+1) * sz+j - sz=k * sz+j by rw [Nat.add_mul];omega,ih k x y j v (by simpa using h) hy hj]
def Rd (enc:α→List Value) (sz:Nat) (w:World) (A:Option Addr) (n:Nat) (xs:List α):Prop :=
 xs.length=n∧(0<n→∃ b off,A=some ⟨b,off,none⟩∧b<w.heap.size∧∀ k x,xs[k]?=some x→∀ j v,(enc x)[j]?=some v→w.cell? ⟨b,off+k * sz+j,none⟩=some v)
variable {w w':World} {A:Option Addr} {n:Nat} {xs:List α}
theorem Rd.len (h:Rd enc sz w A n xs):xs.length=n:=h.1
theorem Rd.at_ (h:Rd enc sz w A n xs) {k:Nat} (hk:k<n):∃ b off x,A=some ⟨b,off,none⟩∧b<w.heap.size∧xs[k]?=some x∧∀ j v,(enc x)[j]?=some v→w.cell? ⟨b,off+k * sz+j,none⟩=some v:=by
 obtain ⟨b,off,hA,hb,hc⟩:=h.2 (by omega)
 have hl:k<xs.length:=by rw [h.1];exact hk
 exact ⟨b,off,xs[k],hA,hb,List.getElem?_eq_getElem hl,hc k _ (List.getElem?_eq_getElem hl)⟩
theorem Rd.keep (h:Rd enc sz w A n xs) (hs:w.heap.size≤w'.heap.size) (hk:∀ b o,0<n→A.map (·.block)=some b→b<w.heap.size→w'.cell? ⟨b,o,none⟩=w.cell? ⟨b,o,none⟩):Rd enc sz w' A n xs:=by
 refine ⟨h.1,fun hn=>?_⟩
 obtain ⟨b,off,hA,hlt,hc⟩:=h.2 hn
 exact ⟨b,off,hA,Nat.lt_of_lt_of_le hlt hs,fun k e he j v hv=>by rw [hk b _ hn (by rw [hA];rfl) hlt];exact hc k e he j v hv⟩
theorem Rd.below (h:Rd enc sz w A n xs) (hb:Below w.heap.size w w'):Rd enc sz w' A n xs:=h.keep hb.size fun b o _ _ hlt=>(bcell hb).1 b o hlt
theorem Rd.take (h:Rd enc sz w A n xs) {k:Nat} (hk:k≤n):Rd enc sz w A k (xs.take k):=by
 refine ⟨by rw [List.length_take,h.1];omega,fun hn=>?_⟩
 obtain ⟨b,off,hA,hlt,hc⟩:=h.2 (by omega)
 exact ⟨b,off,hA,hlt,fun j e he=>hc j e (by
  rw [List.getElem?_take] at he
  split at he
  ·exact he
  ·cases he)⟩
theorem Rd.blk {g T:Nat} (he:∀ x,(enc x).length=sz) (h:Blk w g T (cellsX enc xs).toArray):Rd enc sz w (some ⟨g,0,none⟩) xs.length xs:=by
 refine ⟨rfl,fun _=>⟨g,0,rfl,h.lt,fun k e hk j v hv=>?_⟩⟩
 have:=cellsX_get he xs k e hk j v hv
 rw [Nat.zero_add,h.cell]
 simpa using this
theorem Src.rd (he:∀ x,(enc x).length=sz) (h:Rd enc sz w A n xs):Src w sz A n (cellsX enc xs):=by
 refine ⟨by rw [cellsX_length he,h.1],fun hn=>?_⟩
 obtain ⟨b,off,hA,hb,hc⟩:=h.2 hn
 refine ⟨_,hA,fun j u hu=>?_⟩
 rw [Addr.add_lit]
 have hj:j<(cellsX enc xs).length:=(List.getElem?_eq_some_iff.1 hu).1
 rw [cellsX_length he] at hj
 have hsz:0<sz:=by
  rcases Nat.eq_zero_or_pos sz with h0|h0
  ·rw [h0] at hj;omega
  ·exact h0
 have hk:j / sz<xs.length:=Nat.div_lt_of_lt_mul (by rw [Nat.mul_comm];exact hj)
 have hm:j % sz<sz:=Nat.mod_lt _ hsz
 have hdm:j=j / sz * sz+j % sz:=by rw [Nat.mul_comm];exact (Nat.div_add_mod j sz).symm
 have hv:(enc xs[j / sz])[j % sz]?=some ((enc xs[j / sz])[j % sz]'(by rw [he];exact hm)):=List.getElem?_eq_getElem _
 have h1:=cellsX_get he xs _ _ (List.getElem?_eq_getElem hk) _ _ hv
 have h2:=hc _ _ (List.getElem?_eq_getElem hk) _ _ hv
 rw [← hdm] at h1
 rw [hu] at h1
 injection h1 with h1
 rw [h1]
 have h3:off+j=off+j / sz * sz+j % sz:=by omega
 rw [h3]
 exact h2
theorem Rd.src (he:∀ x,(enc x).length=sz) (hl:xs.length=n) (hw:∀ ad,0<n→A=some ad→ad.spot=none) (h:Src w sz A n (cellsX enc xs)) (hsz:0<sz):Rd enc sz w A n xs:=by
 refine ⟨hl,fun hn=>?_⟩
 obtain ⟨ad,hA,hc⟩:=h.2 hn
 obtain ⟨b,off,sp⟩:=ad
 obtain rfl:sp=none:=hw _ hn hA
 have hx:xs[0]?=some (xs[0]'(by omega)):=List.getElem?_eq_getElem _
 have hx0:(enc (xs[0]'(by omega)))[0]?=some ((enc (xs[0]'(by omega)))[0]'(by rw [he];exact hsz)):=List.getElem?_eq_getElem _
 have h0:=hc _ _ (cellsX_get he xs _ _ hx _ _ hx0)
 rw [Addr.add_lit] at h0
 refine ⟨b,off,hA,World.block_lt_of_cell? _ _ h0,fun k x hk j v hv=>?_⟩
 have:=hc _ _ (cellsX_get he xs k x hk j v hv)
 rw [Addr.add_lit] at this
 rw [Nat.add_assoc]
 exact this
theorem Ow.rd {B T c:Nat} (he:∀ x,(enc x).length=sz) (hsz:0<sz) (h:Ow B w T sz A n c (cellsX enc xs)):Rd enc sz w A n xs:=by
 have hl:=h.len
 rw [cellsX_length he] at hl
 refine Rd.src he (Nat.eq_of_mul_eq_mul_right hsz hl) (fun ad hn hA=>?_) h.src hsz
 obtain ⟨g,cur,hg,_⟩:=h.blk (Nat.lt_of_lt_of_le hn h.le)
 rw [hg] at hA
 injection hA with hA
 rw [← hA]
end
structure Frm (lo hi:Nat) (a b:World):Prop where
 os:b.os=a.os
 tape:b.tape=a.tape
 output:b.output=a.output
 size:a.heap.size≤b.heap.size
 block:∀ i,i<a.heap.size→(i<lo∨hi≤i)→b.heap[i]?=a.heap[i]?
section
variable {lo hi:Nat} {a b c w w':World}
theorem Frm.refl (lo hi:Nat) (w:World):Frm lo hi w w:=⟨rfl,rfl,rfl,Nat.le_refl _,fun _ _ _=>rfl⟩
theorem Frm.trans (h:Frm lo hi a b) (k:Frm lo hi b c):Frm lo hi a c :=
 ⟨k.os.trans h.os,k.tape.trans h.tape,k.output.trans h.output,Nat.le_trans h.size k.size,fun i hi ho=>(k.block i (Nat.lt_of_lt_of_le hi h.size) ho).trans (h.block i hi ho)⟩
theorem Frm.of_below (h:Below a.heap.size a b) (lo hi:Nat):Frm lo hi a b:=⟨h.os,h.tape,h.output,h.size,fun i hi _=>h.block i hi⟩
theorem Frm.of_only {g:Nat} (h:Only g a b) (h1:lo≤g) (h2:g<hi):Frm lo hi a b:=⟨h.os,h.tape,h.output,h.size,fun i hi ho=>h.block i hi (by intro e;injection e with e;omega)⟩
theorem Frm.below {B:Nat} (h:Frm lo hi a b) (hB:B≤lo) (hs:B≤a.heap.size):Below B a b:=⟨h.os,h.tape,h.output,h.size,fun k hk=>h.block k (by omega) (.inl (by omega))⟩
theorem Frm.cell {x:Nat} (h:Frm lo hi w w') (hx:x<w.heap.size) (hne:x<lo∨hi≤x) (o:Nat):w'.cell? ⟨x,o,none⟩=w.cell? ⟨x,o,none⟩:=World.cell?_of_block (w:=w) (h.block x hx hne)
theorem Blk.frm {x T:Nat} {cs:Array Value} (hb:Blk w x T cs) (h:Frm lo hi w w') (hne:x<lo∨hi≤x):Blk w' x T cs:=(h.block x hb.lt hne).trans hb
end
def OwI (lo hi:Nat) (w:World) (T size:Nat) (A:Option Addr) (n c:Nat) (xs:List Value):Prop :=
 Ow lo w T size A n c xs∧(0<c→∀ g,A.map (·.block)=some g→g<hi)
section
variable {lo hi:Nat} {w w':World} {T size n c:Nat} {A:Option Addr} {xs:List Value}
theorem OwI.of (h:Ow lo w T size A n c xs):OwI lo w.heap.size w T size A n c xs:=⟨h,fun hc _ hg=>(h.lt hg hc).2⟩
theorem OwI.ow (h:OwI lo hi w T size A n c xs):Ow lo w T size A n c xs:=h.1
theorem OwI.bare (lo hi:Nat) (w:World) (T size:Nat) (A:Option Addr):OwI lo hi w T size A 0 0 []:=⟨Ow.bare _ _ _ _ _,fun h=>absurd h (by omega)⟩
theorem OwI.mono {lo' hi':Nat} (h:OwI lo hi w T size A n c xs) (h1:lo'≤lo) (h2:hi≤hi'):OwI lo' hi' w T size A n c xs:=⟨h.1.mono h1,fun hc g hg=>Nat.lt_of_lt_of_le (h.2 hc g hg) h2⟩
theorem OwI.lt (h:OwI lo hi w T size A n c xs) {g:Nat} (hg:A.map (·.block)=some g) (hc:0<c):lo≤g∧g<hi∧g<w.heap.size:=⟨(h.1.lt hg hc).1,h.2 hc g hg,(h.1.lt hg hc).2⟩
theorem OwI.next (h:OwI lo hi w T size A n c xs) (hb:Below w.heap.size w w'):OwI lo hi w' T size A n c xs:=⟨h.1.next hb,h.2⟩
theorem OwI.keep (h:OwI lo hi w T size A n c xs) (hk:∀ g,A.map (·.block)=some g→0<c→w'.heap[g]?=w.heap[g]?):OwI lo hi w' T size A n c xs:=⟨h.1.keep hk,h.2⟩
theorem OwI.frm {lo' hi':Nat} (h:OwI lo hi w T size A n c xs) (hf:Frm lo' hi' w w') (hd:hi≤lo'∨hi'≤lo):OwI lo hi w' T size A n c xs :=
 h.keep fun g hg hc=>hf.block g (h.lt hg hc).2.2 (by have:=h.lt hg hc;omega)
end
theorem Frm.set_ {lo hi:Nat} {a b:World} {p:Addr} (h:Frm lo hi a b) (h1:lo≤p.block) (h2:p.block<hi) (u:Value):Frm lo hi a (b.setCell p u) :=
 ⟨h.os,h.tape,h.output,by simpa [World.setCell] using h.size,fun i hi' ho=>(Below.heap_setCell b p u i (by omega)).trans (h.block i hi' ho)⟩
theorem Frm.next {lo hi:Nat} {a b c:World} (h:Frm lo hi a b) (k:Below b.heap.size b c):Frm lo hi a c:=h.trans (Frm.of_below k lo hi)
theorem into_world {P:Program} {c:Code} {Q:Exit→Act→World→Prop} {a:Act} {w:World} (R:World→Prop) (h:R w) (k:∀ w',R w'→Code.wp P c Q a w'):Code.wp P c Q a w:=k w h
theorem ba {w w':World} {o:Obj} (h:Below (w.alloc o).heap.size (w.alloc o) w'):Below w.heap.size w w':=((Below.refl _ _).alloc (Nat.le_refl _) _).trans (h.mono (by simp))
end Go.Proofs.YtkgfmgajhgfgjaaGreatDoor
namespace Go.Proofs.YtkgfmgajhgfgjaaGreatDoor
open Go.RowKit Go.Sort
set_option maxHeartbeats 400000 in
theorem l6In_any (n lo hi:Int) (w:World) :
  Calls Tryz.prog 57 #[.int .i64 n,.int .i64 lo,.int .i64 hi] w fun e w'=>e=.returned (.bool (inR n lo hi))∧w=w':=by
 go_enter Tryz.func57,Tryz.ntmps57
 go_wp2
 all_goals go_ret
 all_goals exact ⟨ret_bool (by simp [inR];omega),rfl⟩
set_option maxHeartbeats 400000 in
theorem l32Entry_any (x:Ent) (w:World) :
  Calls Tryz.prog 162 #[.agg #[.int .i64 x.1,.int .i64 x.2]] w fun e w'=>e=.returned (.bool (okE x))∧Below w.heap.size w w':=by
 go_enter Tryz.func162,Tryz.ntmps162
 go_wp2_with (first|(go_at_call 57;refine (l6In_any _ _ _ _).mono ?_;rintro e w' ⟨rfl,rfl⟩))
 all_goals go_ret
 all_goals exact ⟨ret_bool (by simp [okE, *]),(Below.refl _ _).alloc (Nat.le_refl _) _⟩
set_option maxHeartbeats 400000 in
theorem l32Find_any (A:Option Addr) (n c:Nat) (es:List Ent) (p:Int) (w:World) (hr:RdE w A n es) (hn:n≤1099511627776) :
  Calls Tryz.prog 163 #[.slice A n c,.int .i64 p] w fun e w'=>e=.returned (.int .i64 (findE p es 0))∧w=w':=by
 have HR:=Lib.hid hr;clear hr
 go_enter Tryz.func163,Tryz.ntmps163
 go_wp2
 go_loop [5] (fun i=>∃ k:Nat,k≤n∧i=.int .i64 k∧Hid (findE p es 0=findE p (es.drop k) k)) (fun i=>n - (intOf i).toNat)
 case atStart=>exact ⟨0,Nat.zero_le _,rfl,rfl⟩
 case round =>
  obtain ⟨k,hk,rfl,HF⟩:=hrel
  by_cases hlt:k<n
  ·obtain ⟨b,off,e,rfl,hb,he,h0,h1⟩:=HR.out.at_ hlt
   have HS:=Lib.hid (findE_step p es k e he)
   clear he
   by_cases hp:e.1=p
   ·have hq:(e.1 == p)=true:=by simpa using hp
    have HP:=Lib.hid hp;clear hp
    go_wp2
    go_ret
    exact ⟨ret_int (by rw [HF.out,HS.out,if_pos HP.out]),rfl⟩
   ·have hq:(e.1 == p)=false:=by simpa using hp
    go_wp2
    exact ⟨⟨k+1,by omega,by go_num,by show Hid _;unfold Hid;rw [HF.out,HS.out,if_neg hp]⟩,by simp [intOf];omega⟩
  ·go_wp2
   go_ret
   have:k=n:=by omega
   exact ⟨ret_int (by rw [HF.out,List.drop_of_length_le (by rw [HR.out.len];omega)];rfl),rfl⟩
set_option maxHeartbeats 1000000 in
theorem specBoardValid_any (A:Option Addr) (n c:Nat) (es:List Ent) (w:World) (hr:RdE w A n es) (hn:n≤1099511627776) :
  Calls Tryz.prog 85 #[.slice A n c] w fun e w'=>e=.returned (.bool (vallE es && decide ((n:Int)≤4)))∧Below w.heap.size w w':=by
 have HR:=Lib.hid hr;clear hr
 go_enter Tryz.func85,Tryz.ntmps85
 go_wp2
 go_loopw [3] (fun i wr=>∃ k:Nat,k≤n∧i=.int .i64 k∧Hid (Below w.heap.size w wr∧∀ j,j<k→vrE es j=true)) (fun i _=>n - (intOf i).toNat)
 case atStart=>exact ⟨0,Nat.zero_le _,rfl,Below.refl _ _,fun j hj=>absurd hj (by omega)⟩
 case round =>
  obtain ⟨k,hk,rfl,HB⟩:=hrel
  by_cases hlt:k<n
  ·obtain ⟨b,off,e,hA,hb,he,h0,h1⟩:=(HR.out.below HB.out.1).at_ hlt
   have h0':=fun d os=>cell_regrown h0 d os
   have h1':=fun d os=>cell_regrown h1 d os
   have hrd:=HR.out.below HB.out.1
   have hv:vrE es k=(okE e && !(decide (0<k) && decide (e.2<prevE es k)) && !(decide (findE e.1 es 0<k))):=by simp [vrE,he]
   have hlen:=HR.out.len
   subst hA
   have HL:=Lib.hid hlen
   have HV:=Lib.hid hv
   have HRD:=Lib.hid hrd
   clear he h0 h1 hv hrd hlen
   cases hok:okE e with
   | false =>
    go_wp2
    refine wp_region_qb (by kernel_rfl) (by kernel_rfl) ?_
    repeat (go_big_quiet_step (first|(go_at_call 162;exact Calls.regrown_of (l32Entry_any _ _))))
    refine wpQuiet_nil ?_
    intro w1 hb1
    go_wp2
    go_ret
    exact ⟨ret_bool (by rw [vallE_false (k:=k) (by rw [HL.out];exact hlt) (by rw [HV.out,hok];rfl)]),below_next HB.out.1 hb1⟩
   | true =>
    by_cases hk0:0<k
    ·obtain ⟨b',off',e',hA',hb',he',h2,h3⟩:=HRD.out.at_ (k:=k - 1) (by omega)
     obtain ⟨rfl,rfl⟩:b=b'∧off=off':=by simpa using hA'
     have hpv:prevE es k=e'.2:=by simp [prevE,he']
     rw [hpv] at HV
     have h3':=fun d os=>cell_regrown h3 d os
     clear hA' hb' he' h2 h3 hpv
     by_cases hs:e.2<e'.2
     ·go_wp2
      refine wp_region_qb (by kernel_rfl) (by kernel_rfl) ?_
      repeat (go_big_quiet_step (first|(go_at_call 162;exact Calls.regrown_of (l32Entry_any _ _))|(go_at_call 163;exact Calls.regrown_of ((l32Find_any _ _ _ _ _ _ (HRD.out.below (below_regrown _ _ _)) hn).mono fun _ _ ⟨h1,h2⟩=>⟨h1,h2 ▸ Below.refl _ _⟩))))
      refine wpQuiet_nil ?_
      intro w1 hb1
      go_wp2
      go_ret
      exact ⟨ret_bool (by rw [vallE_false (k:=k) (by rw [HL.out];exact hlt) (by rw [HV.out];simp [hok,hk0,hs])]),below_next HB.out.1 hb1⟩
     ·have hsb:decide (e.2<e'.2)=false:=by simpa using hs
      by_cases hf:findE e.1 es 0<k
      ·go_wp2
       refine wp_region_qb (by kernel_rfl) (by kernel_rfl) ?_
       repeat (go_big_quiet_step (first|(go_at_call 162;exact Calls.regrown_of (l32Entry_any _ _))|(go_at_call 163;exact Calls.regrown_of ((l32Find_any _ _ _ _ _ _ (HRD.out.below (below_regrown _ _ _)) hn).mono fun _ _ ⟨h1,h2⟩=>⟨h1,h2 ▸ Below.refl _ _⟩))))
       refine wpQuiet_nil ?_
       intro w1 hb1
       go_wp2
       go_ret
       exact ⟨ret_bool (by rw [vallE_false (k:=k) (by rw [HL.out];exact hlt) (by rw [HV.out];simp [hok,hk0,hf])]),below_next HB.out.1 hb1⟩
      ·have hfb:decide (findE e.1 es 0<k)=false:=by simpa using hf
       go_wp2
       refine wp_region_qb (by kernel_rfl) (by kernel_rfl) ?_
       repeat (go_big_quiet_step (first|(go_at_call 162;exact Calls.regrown_of (l32Entry_any _ _))|(go_at_call 163;exact Calls.regrown_of ((l32Find_any _ _ _ _ _ _ (HRD.out.below (below_regrown _ _ _)) hn).mono fun _ _ ⟨h1,h2⟩=>⟨h1,h2 ▸ Below.refl _ _⟩))))
       refine wpQuiet_nil ?_
       intro w1 hb1
       go_wp2
       exact ⟨⟨k+1,by omega,by go_num,below_next HB.out.1 hb1,fun j hj=>by
        by_cases hjk:j=k
        ·subst hjk;rw [HV.out];simp [hok,hs,hf]
        ·exact HB.out.2 j (by omega)⟩,by simp [intOf];omega⟩
    ·by_cases hf:findE e.1 es 0<k
     ·go_wp2
      refine wp_region_qb (by kernel_rfl) (by kernel_rfl) ?_
      repeat (go_big_quiet_step (first|(go_at_call 162;exact Calls.regrown_of (l32Entry_any _ _))|(go_at_call 163;exact Calls.regrown_of ((l32Find_any _ _ _ _ _ _ (HRD.out.below (below_regrown _ _ _)) hn).mono fun _ _ ⟨h1,h2⟩=>⟨h1,h2 ▸ Below.refl _ _⟩))))
      refine wpQuiet_nil ?_
      intro w1 hb1
      go_wp2
      go_ret
      exact ⟨ret_bool (by rw [vallE_false (k:=k) (by rw [HL.out];exact hlt) (by rw [HV.out];simp [hok,hk0,hf])]),below_next HB.out.1 hb1⟩
     ·have hfb:decide (findE e.1 es 0<k)=false:=by simpa using hf
      go_wp2
      refine wp_region_qb (by kernel_rfl) (by kernel_rfl) ?_
      repeat (go_big_quiet_step (first|(go_at_call 162;exact Calls.regrown_of (l32Entry_any _ _))|(go_at_call 163;exact Calls.regrown_of ((l32Find_any _ _ _ _ _ _ (HRD.out.below (below_regrown _ _ _)) hn).mono fun _ _ ⟨h1,h2⟩=>⟨h1,h2 ▸ Below.refl _ _⟩))))
      refine wpQuiet_nil ?_
      intro w1 hb1
      go_wp2
      exact ⟨⟨k+1,by omega,by go_num,below_next HB.out.1 hb1,fun j hj=>by
       by_cases hjk:j=k
       ·subst hjk;rw [HV.out];simp [hok,hk0,hf]
       ·exact HB.out.2 j (by omega)⟩,by simp [intOf];omega⟩
  ·go_wp2
   go_ret
   have hkn:k=n:=by omega
   exact ⟨ret_bool (by rw [vallE_true (fun j hj=>HB.out.2 j (by rw [HR.out.len] at hj;omega)),Bool.true_and]),HB.out.1⟩
theorem specBoardValid_v (A:Option Addr) (n c:Nat) (es:List Ent) (w:World) (hr:RdE w A n es) (hn:n≤1099511627776) :
  Calls Tryz.prog 85 #[.slice A n c] w fun e w'=>e=.returned (.bool (validE es))∧Below w.heap.size w w':=by
 have h:=specBoardValid_any A n c es w hr hn
 rw [show (vallE es && decide ((n:Int)≤4))=validE es by rw [← hr.len];exact validE_spec es] at h
 exact h
end Go.Proofs.YtkgfmgajhgfgjaaGreatDoor

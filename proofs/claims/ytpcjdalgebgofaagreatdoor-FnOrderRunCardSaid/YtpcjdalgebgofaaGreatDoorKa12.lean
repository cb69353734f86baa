/-
  Lemmas and contracts: YMem YDr YVa YVb YVc. No condition.
-/
import Derived.Laws.OwnMore
import Derived.Maps.AppendAt
import Derived.Deep.AppendLies
import Derived.RegionTactic
import Derived.OwnWalk
import Derived.Deep.LoopGhost
import Derived.Deep.Cut
import Derived.Deep.CutRange
import Derived.Deep.DeepCutAuto
import Derived.Deep.RegionLaw
import Derived.Laws.BitsAllLaws
import Derived.Laws.BitsLemmas
import Derived.Lib.SliceRun
import Derived.Test.YtpcjdalgebgofaaGreatDoorKa8
import Derived.Test.YtpcjdalgebgofaaGreatDoorKa9
import Derived.Test.YtpcjdalgebgofaaGreatDoorKa11
set_option linter.unusedSimpArgs false
set_option linter.unusedVariables false
set_option linter.unusedSectionVars false
namespace Go.Proofs.YtpcjdalgebgofaaGreatDoorY
open Go.RowKit Go.Sort
def Only (g:Nat) (w w':World):Prop:=w.grownBy w' (some g)
section
variable {g:Nat} {a b c w w':World}
theorem Only.refl (g:Nat) (w:World):Only g w w:=World.grownBy.refl w _
theorem Only.size (h:Only g a b):a.heap.size≤b.heap.size:=World.grownBy.size h
theorem Only.trans (h:Only g a b) (k:Only g b c):Only g a c :=
 ⟨k.os.trans h.os,k.tape.trans h.tape,k.output.trans h.output,Nat.le_trans h.size k.size,fun i hi hne=>(k.block i (Nat.lt_of_lt_of_le hi h.size) hne).trans (h.block i hi hne)⟩
theorem Only.of_below (h:Below a.heap.size a b) (g:Nat):Only g a b:=⟨h.os,h.tape,h.output,h.size,fun i hi _=>h.block i hi⟩
theorem Only.below {B:Nat} (h:Only g a b) (hg:B≤g) (hB:B≤a.heap.size):Below B a b:=⟨h.os,h.tape,h.output,h.size,fun k hk=>h.block k (by omega) (by intro e;injection e with e;omega)⟩
theorem Only.next (h:Only g a b) (k:Below b.heap.size b c):Only g a c:=h.trans (Only.of_below k g)
theorem Only.set_ {p:Addr} (h:Only g a b) (hp:p.block=g∨a.heap.size≤p.block) (u:Value):Only g a (b.setCell p u) :=
 ⟨h.os,h.tape,h.output,by simpa [World.setCell] using h.size,fun i hi hne=>(Below.heap_setCell b p u i (by
  rintro rfl
  rcases hp with hp|hp
  ·exact hne (by rw [hp])
  ·omega)).trans (h.block i hi hne)⟩
theorem Only.drewN (h:Only g a b) (n:Nat):Only g a (b.drewN n):=⟨h.os,h.tape,h.output,h.size,h.block⟩
theorem Only.cell {x:Nat} (h:Only g w w') (hx:x<w.heap.size) (hne:x≠g) (o:Nat):w'.cell? ⟨x,o,none⟩=w.cell? ⟨x,o,none⟩:=World.cell?_of_block (w:=w) (h.block x hx (by intro e;injection e with e;exact hne e))
theorem Blk.only {x T:Nat} {cs:Array Value} (hb:Blk w x T cs) (h:Only g w w') (hne:x≠g):Blk w' x T cs:=(h.block x hb.lt (by intro e;injection e with e;exact hne e)).trans hb
theorem Blk.ne_ {g' T T':Nat} {cs cs':Array Value} (h:Blk w g T cs) (h':Blk w g' T' cs') (hne:T≠T'):g≠g':=by
 rintro rfl
 unfold Blk at h h'
 rw [h] at h'
 injection h' with h'
 injection h' with _ ht
 exact hne ht
end
theorem own_form {w:World} {base e size n:Nat} {v:Value} {xs:List Value} (h:w.ownsRow base e size v n xs):∃ A c,v=.slice A n c:=by
 rcases h.2 with ⟨rfl,h0⟩|⟨g,cap,cur,rfl,_⟩
 ·exact ⟨none,0,by rw [h0]⟩
 ·exact ⟨_,_,rfl⟩
def Src (w:World) (size:Nat) (A:Option Addr) (m:Nat) (news:List Value):Prop :=
 news.length=m * size∧(0<m→∃ ad,A=some ad∧∀ j u,news[j]?=some u→w.cell? (ad.add j)=some u)
theorem Src.blk {w:World} {g T size m:Nat} {news:List Value} (h:Blk w g T news.toArray) (hl:news.length=m * size):Src w size (some ⟨g,0,none⟩) m news :=
 ⟨hl,fun _=>⟨_,rfl,fun j u hu=>by rw [Addr.add_lit,Nat.zero_add,h.cell];simpa using hu⟩⟩
section
variable {P:Program} (w:World)
theorem run_append_of_nil (base:Nat) (t ty e:TypeId) (i:TypeInfo) (size:Nat) (ht:P.underlying t=some (.slice e)) (hi:P.info? e=some i)
  (v:Value) (n:Nat) (xs:List Value) (hown:w.ownsRow base e size v n xs) (c:Nat):(Builtin.append_ #[t,t] ty #[v,.slice none 0 c]).run P w=.ok v w:=by
 rcases hown.2 with ⟨rfl,rfl⟩|⟨g,cap,cur,rfl,_,_,hnc,_⟩
 ·simp [Builtin.append_,run_underlying ht,sizeOf,typeInfo,hi,Builtin.lenOf,Builtin.firstCells]
 ·simp [Builtin.append_,run_underlying ht,sizeOf,typeInfo,hi,Builtin.lenOf,Builtin.firstCells,hnc,storeCells]
theorem run_append_any (base:Nat) (t ty e:TypeId) (i:TypeInfo) (z:Value) (size bytes:Nat) (ht:P.underlying t=some (.slice e)) (hi:P.info? e=some i) (hz:i.zero=some z)
  (hsize:i.size=size) (hby:i.bytes=bytes) (hzs:z.cells.size=size) (hsz:0<size)
  (v:Value) (n:Nat) (xs:List Value) (hown:w.ownsRow base e size v n xs)
  (A:Option Addr) (m c:Nat) (news:List Value) (hr:Src w size A m news) (h1:∀ u ∈ news,u.oneCell'=true)
  (h63:n+m≤maxLen) (hbytes:(n+m) * bytes≤140737488355328) (hbase:base≤w.heap.size) (hA:A=none→m=0) :
  ∃ v' w',(Builtin.append_ #[t,t] ty #[v,.slice A m c]).run P w=.ok v' w'∧w'.ownsRow base e size v' (n+m) (xs ++ news)∧w.grownBy w' v.ownBlock ∧
   (v'.ownBlock=v.ownBlock∨v'.ownBlock=some w.heap.size):=by
 rcases A with _|ad
 ·obtain rfl:=hA rfl
  obtain rfl:news=[]:=List.eq_nil_of_length_eq_zero (by simpa using hr.1)
  exact ⟨v,w,run_append_of_nil w base t ty e i size ht hi v n xs hown c,by simpa using hown,World.grownBy.refl w _,.inl rfl⟩
 ·have hcells:∀ j u,news[j]?=some u→w.cell? (ad.add j)=some u:=by
   intro j u hu
   rcases Nat.eq_zero_or_pos m with h0|h0
   ·subst h0
    obtain rfl:news=[]:=List.eq_nil_of_length_eq_zero (by simpa using hr.1)
    simp at hu
   ·obtain ⟨ad',h,hc⟩:=hr.2 h0
    injection h with h
    subst h
    exact hc j u hu
  obtain ⟨v',w',hrun,h2,h3,_,h5⟩:=run_append_own_at (P:=P) w base t ty e i z size bytes ht hi hz hsize hby hzs hsz v n xs hown ad m c news hr.1 hcells h1 h63 hbytes hbase
  exact ⟨v',w',hrun,h2,h3,h5⟩
end
def Ow (B:Nat) (w:World) (T size:Nat) (A:Option Addr) (n c:Nat) (xs:List Value):Prop :=
 (n=0∧c=0∧xs=[])∨(0<c∧w.ownsRow B T size (.slice A n c) n xs)
theorem Ow.of_own {B:Nat} {w:World} {T size n c:Nat} {A:Option Addr} {xs:List Value} (h:w.ownsRow B T size (.slice A n c) n xs):Ow B w T size A n c xs:=by
 rcases Nat.eq_zero_or_pos c with hc|hc
 ·left
  have hn:n=0:=by
   rcases h.2 with ⟨_,h0⟩|⟨g,cap,cur,hv,_,_,hnc,_⟩
   ·exact h0
   ·injection hv with _ _ h3;omega
  exact ⟨hn,hc,List.eq_nil_of_length_eq_zero (by rw [h.1,hn];simp)⟩
 ·exact .inr ⟨hc,h⟩
def ownB (A:Option Addr) (c:Nat):Option Nat:=if c=0 then none else A.map (·.block)
section
variable {P:Program} (w:World)
theorem run_append_bare (t ty e:TypeId) (i:TypeInfo) (ht:P.underlying t=some (.slice e)) (hi:P.info? e=some i) (a:Addr) (m c:Nat) (A:Option Addr) (hm:0<m) (hm63:m≤maxLen) (hb:m * i.bytes≤140737488355328) :
  (Builtin.append_ #[t,t] ty #[.slice (some a) 0 0,.slice A m c]).run P w=(Builtin.append_ #[t,t] ty #[.slice none 0 0,.slice A m c]).run P w:=by
 have h0:¬ m=0:=by omega
 have h1:¬ (9223372036854775807<(m:Int)∧i.bytes=0):=by unfold maxLen at hm63;omega
 have h2:Builtin.nextslicecap m 0=m:=by unfold Builtin.nextslicecap;rw [if_pos (by omega)]
 have h3:¬ 281474976710656<m * i.bytes:=by omega
 simp [Builtin.append_,run_underlying ht,sizeOf,typeInfo,hi,Builtin.lenOf,h0,Builtin.firstCells,loadCells,loadCellsFrom,h1,h2,h3]
theorem run_append_none_ (t ty e:TypeId) (i:TypeInfo) (ht:P.underlying t=some (.slice e)) (hi:P.info? e=some i) (A A':Option Addr) (c:Nat) :
  (Builtin.append_ #[t,t] ty #[.slice A 0 0,.slice A' 0 c]).run P w=.ok (.slice A 0 0) w:=by
 cases A <;> cases A' <;> simp [Builtin.append_,run_underlying ht,sizeOf,typeInfo,hi,Builtin.lenOf,Builtin.firstCells,loadCells,loadCellsFrom,storeCells]
theorem run_append_ow (base:Nat) (t ty e:TypeId) (i:TypeInfo) (z:Value) (size bytes:Nat) (ht:P.underlying t=some (.slice e)) (hi:P.info? e=some i) (hz:i.zero=some z)
  (hsize:i.size=size) (hby:i.bytes=bytes) (hzs:z.cells.size=size) (hsz:0<size)
  (A:Option Addr) (n c:Nat) (xs:List Value) (hown:Ow base w e size A n c xs)
  (A2:Option Addr) (m c2:Nat) (news:List Value) (hr:Src w size A2 m news) (h1:∀ u ∈ news,u.oneCell'=true)
  (h63:n+m≤maxLen) (hbytes:(n+m) * bytes≤140737488355328) (hbase:base≤w.heap.size) :
  ∃ A' c' w',(Builtin.append_ #[t,t] ty #[.slice A n c,.slice A2 m c2]).run P w=.ok (.slice A' (n+m) c') w'∧Ow base w' e size A' (n+m) c' (xs ++ news)∧w.grownBy w' (ownB A c) ∧
   (∀ g,A'.map (·.block)=some g→0<c'→ownB A c=some g∨g=w.heap.size):=by
 have hA:A2=none→m=0:=by
  intro h
  rcases Nat.eq_zero_or_pos m with h0|h0
  ·exact h0
  ·obtain ⟨ad,h2,_⟩:=hr.2 h0
   rw [h] at h2;cases h2
 have key:∀ v:Value,∀ (n:Nat) (xs:List Value),w.ownsRow base e size v n xs→n+m≤maxLen→(n+m) * bytes≤140737488355328→∃ A' c' w',(Builtin.append_ #[t,t] ty #[v,.slice A2 m c2]).run P w=.ok (.slice A' (n+m) c') w'∧w'.ownsRow base e size (.slice A' (n+m) c') (n+m) (xs ++ news)∧w.grownBy w' v.ownBlock ∧
   ((Value.slice A' (n+m) c').ownBlock=v.ownBlock∨(Value.slice A' (n+m) c').ownBlock=some w.heap.size):=by
  intro v n xs ho g1 g2
  obtain ⟨v',w',r1,r2,r3,r4⟩:=run_append_any (P:=P) w base t ty e i z size bytes ht hi hz hsize hby hzs hsz v n xs ho A2 m c2 news hr h1 g1 g2 hbase hA
  obtain ⟨A',c',rfl⟩:=own_form r2
  exact ⟨A',c',w',r1,r2,r3,r4⟩
 have out:∀ (A':Option Addr) (k c':Nat) (b:Option Nat),((Value.slice A' k c').ownBlock=b∨(Value.slice A' k c').ownBlock=some w.heap.size)→∀ g,A'.map (·.block)=some g→b=some g∨g=w.heap.size:=by
  intro A' k c' b h g hg
  cases A' with
  | none=>cases hg
  | some a =>
   simp [Value.ownBlock] at h hg
   subst hg
   rcases h with h|h
   ·exact .inl h.symm
   ·exact .inr h
 rcases hown with ⟨rfl,rfl,rfl⟩|⟨hc,hown⟩
 ·rcases Nat.eq_zero_or_pos m with h0|h0
  ·subst h0
   obtain rfl:news=[]:=List.eq_nil_of_length_eq_zero (by simpa using hr.1)
   exact ⟨A,0,w,run_append_none_ w t ty e i ht hi A A2 c2,.inl ⟨rfl,rfl,rfl⟩,World.grownBy.refl w _,fun g _ h=>absurd h (by omega)⟩
  ·obtain ⟨A',c',w',r1,r2,r3,r4⟩:=key (.slice none 0 0) 0 [] (World.ownsRow_nil _ _ _ _) h63 hbytes
   refine ⟨A',c',w',?_,Ow.of_own r2,by simpa [ownB,Value.ownBlock] using r3,fun g hg _=>by simpa [ownB,Value.ownBlock] using out A' _ c' _ r4 g hg⟩
   rw [← r1]
   cases A with
   | none=>rfl
   | some a=>exact run_append_bare w t ty e i ht hi a m c2 A2 h0 (by omega) (by rw [hby];rwa [Nat.zero_add] at hbytes)
 ·obtain ⟨A',c',w',r1,r2,r3,r4⟩:=key _ n xs hown h63 hbytes
  have hob:(Value.slice A n c).ownBlock=ownB A c:=by
   unfold ownB Value.ownBlock
   rw [if_neg (by omega)]
   cases A <;> rfl
  rw [hob] at r3 r4
  exact ⟨A',c',w',r1,Ow.of_own r2,r3,fun g hg _=>out A' _ c' _ r4 g hg⟩
theorem wp_append_ow {o:Oper} {a:Act} {K:Act→World→Prop} {Q:Exit→Act→World→Prop} (s x:Operand) (t:TypeId)
  (ho:o.op=.call { callee:=.builtin .append,args:=#[s,x],argTypes:=#[t,t] })
  (base:Nat) (e:TypeId) (i:TypeInfo) (z:Value) (size bytes:Nat) (ht:P.underlying t=some (.slice e)) (hi:P.info? e=some i) (hz:i.zero=some z)
  (hsize:i.size=size) (hby:i.bytes=bytes) (hzs:z.cells.size=size) (hsz:0<size)
  (A:Option Addr) (n c:Nat) (xs:List Value) (hs:a.eval s=.slice A n c) (hown:Ow base w e size A n c xs)
  (A2:Option Addr) (m c2:Nat) (news:List Value) (hx:a.eval x=.slice A2 m c2) (hr:Src w size A2 m news) (h1:∀ u ∈ news,u.oneCell'=true)
  (h63:n+m≤maxLen) (hbytes:(n+m) * bytes≤140737488355328) (hbase:base≤w.heap.size)
  (h:∀ A' c' w',Ow base w' e size A' (n+m) c' (xs ++ news)→w.grownBy w' (ownB A c)→(∀ g,A'.map (·.block)=some g→0<c'→ownB A c=some g∨g=w.heap.size)→K (a.put o.dst (.slice A' (n+m) c')) w'):o.wp P a w K Q:=by
 obtain ⟨A',c',w',hrun,h2,h3,h4⟩:=run_append_ow (P:=P) w base t o.type e i z size bytes ht hi hz hsize hby hzs hsz A n c xs hown A2 m c2 news hr h1 h63 hbytes hbase
 unfold Oper.wp execOp
 simp only [ho,resolve,invoke,builtin,Sem.run_bind,Sem.run_pure,Result.andThen_ok,List.map_toArray,List.map_cons,List.map_nil,hs,hx,hrun]
 exact h A' c' w' h2 h3 h4
theorem wpList_append_ow {ops:Array Oper} {rest:List Oper} {o:Oper} {a:Act} {Q:Exit→Act→World→Prop} (hgd:o.guard=none) (s x:Operand) (t:TypeId)
  (ho:o.op=.call { callee:=.builtin .append,args:=#[s,x],argTypes:=#[t,t] })
  (base:Nat) (e:TypeId) (i:TypeInfo) (z:Value) (size bytes:Nat) (ht:P.underlying t=some (.slice e)) (hi:P.info? e=some i) (hz:i.zero=some z)
  (hsize:i.size=size) (hby:i.bytes=bytes) (hzs:z.cells.size=size) (hsz:0<size)
  (A:Option Addr) (n c:Nat) (xs:List Value) (hs:a.eval s=.slice A n c) (hown:Ow base w e size A n c xs)
  (A2:Option Addr) (m c2:Nat) (news:List Value) (hx:a.eval x=.slice A2 m c2) (hr:Src w size A2 m news) (h1:∀ u ∈ news,u.oneCell'=true)
  (h63:n+m≤maxLen) (hbytes:(n+m) * bytes≤140737488355328) (hbase:base≤w.heap.size)
  (h:∀ A' c' w',Ow base w' e size A' (n+m) c' (xs ++ news)→w.grownBy w' (ownB A c)→(∀ g,A'.map (·.block)=some g→0<c'→ownB A c=some g∨g=w.heap.size)→wpList P ops Q rest (a.put o.dst (.slice A' (n+m) c')) w'):wpList P ops Q (o :: rest) a w :=
 wpList_plain hgd fun _ hK=>wp_append_ow w s x t ho base e i z size bytes ht hi hz hsize hby hzs hsz A n c xs hs hown A2 m c2 news hx hr h1 h63 hbytes hbase fun A' c' w' h2 h3 h4=>hK _ _ (h A' c' w' h2 h3 h4)
theorem step_append_ow {ops:Array Oper} {o:Oper} {a:Act} {K:Act→World→Prop} {Q:Exit→Act→World→Prop} {E:Prop} (hgd:o.guard=none) (s x:Operand) (t:TypeId)
  (ho:o.op=.call { callee:=.builtin .append,args:=#[s,x],argTypes:=#[t,t] })
  (base:Nat) (e:TypeId) (i:TypeInfo) (z:Value) (size bytes:Nat) (ht:P.underlying t=some (.slice e)) (hi:P.info? e=some i) (hz:i.zero=some z)
  (hsize:i.size=size) (hby:i.bytes=bytes) (hzs:z.cells.size=size) (hsz:0<size)
  (A:Option Addr) (n c:Nat) (xs:List Value) (hs:a.eval s=.slice A n c) (hown:Ow base w e size A n c xs)
  (A2:Option Addr) (m c2:Nat) (news:List Value) (hx:a.eval x=.slice A2 m c2) (hr:Src w size A2 m news) (h1:∀ u ∈ news,u.oneCell'=true)
  (h63:n+m≤maxLen) (hbytes:(n+m) * bytes≤140737488355328) (hbase:base≤w.heap.size)
  (h:∀ A' c' w',Ow base w' e size A' (n+m) c' (xs ++ news)→w.grownBy w' (ownB A c)→(∀ g,A'.map (·.block)=some g→0<c'→ownB A c=some g∨g=w.heap.size)→K (a.put o.dst (.slice A' (n+m) c')) w') :
  if Region.wanted o (yielded ops a.tmps)=true then Oper.wp P o a w K Q else E:=by
 have hw:Region.wanted o (yielded ops a.tmps)=true:=by simp [Region.wanted,hgd]
 rw [if_pos hw]
 exact wp_append_ow w s x t ho base e i z size bytes ht hi hz hsize hby hzs hsz A n c xs hs hown A2 m c2 news hx hr h1 h63 hbytes hbase h
end
section
variable {B:Nat} {w w':World} {T size n c:Nat} {A:Option Addr} {xs:List Value}
theorem Ow.bare (B:Nat) (w:World) (T size:Nat) (A:Option Addr):Ow B w T size A 0 0 []:=.inl ⟨rfl,rfl,rfl⟩
theorem Ow.len (h:Ow B w T size A n c xs):xs.length=n * size:=by
 rcases h with ⟨rfl,_,rfl⟩|⟨_,h⟩
 ·simp
 ·exact h.1
theorem Ow.blk (h:Ow B w T size A n c xs) (hc:0<c):∃ g cur,A=some ⟨g,0,none⟩∧B≤g∧Blk w g T cur∧n≤c∧c≤maxLen∧cur.size=c * size∧cur.toList.take (n * size)=xs:=by
 rcases h with ⟨_,rfl,_⟩|⟨_,h⟩
 ·omega
 ·rcases h.2 with ⟨h1,_⟩|⟨g,cap,cur,hv,hg,hb,r⟩
  ·injection h1 with _ _ h3;omega
  ·injection hv with h1 _ h3
   subst h3
   exact ⟨g,cur,h1,hg,hb,r⟩
theorem Ow.mk_ {g:Nat} {cur:Array Value} (hx:xs.length=n * size) (hB:B≤g) (hb:Blk w g T cur) (hn:n≤c) (hm:c≤maxLen) (hs:cur.size=c * size) (ht:cur.toList.take (n * size)=xs):Ow B w T size (some ⟨g,0,none⟩) n c xs :=
 Ow.of_own ⟨hx,.inr ⟨g,c,cur,rfl,hB,hb,hn,hm,hs,ht⟩⟩
theorem Ow.le (h:Ow B w T size A n c xs):n≤c:=by
 rcases Nat.eq_zero_or_pos c with h0|h0
 ·rcases h with ⟨rfl,_⟩|⟨h1,_⟩
  ·omega
  ·omega
 ·obtain ⟨_,_,_,_,_,h1,_⟩:=h.blk h0
  exact h1
theorem Ow.keep (h:Ow B w T size A n c xs) (hk:∀ g,A.map (·.block)=some g→0<c→w'.heap[g]?=w.heap[g]?):Ow B w' T size A n c xs:=by
 rcases Nat.eq_zero_or_pos c with h0|h0
 ·rcases h with h|⟨h1,_⟩
  ·exact .inl h
  ·omega
 ·obtain ⟨g,cur,rfl,hB,hb,hn,hm,hs,ht⟩:=h.blk h0
  exact Ow.mk_ h.len hB ((hk g rfl h0).trans hb) hn hm hs ht
theorem Ow.lt (h:Ow B w T size A n c xs) {g:Nat} (hg:A.map (·.block)=some g) (hc:0<c):B≤g∧g<w.heap.size:=by
 obtain ⟨g',cur,rfl,hB,hb,_⟩:=h.blk hc
 injection hg with hg
 subst hg
 exact ⟨hB,hb.lt⟩
theorem Ow.next (h:Ow B w T size A n c xs) (hb:Below w.heap.size w w'):Ow B w' T size A n c xs:=h.keep fun g hg hc=>hb.block g (h.lt hg hc).2
theorem Ow.alloc (h:Ow B w T size A n c xs) (o:Obj):Ow B (w.alloc o) T size A n c xs:=h.next ((Below.refl _ _).alloc (Nat.le_refl _) _)
theorem Ow.only {g:Nat} (h:Ow B w T size A n c xs) (ho:Only g w w') (hne:A.map (·.block)=some g→c=0):Ow B w' T size A n c xs :=
 h.keep fun k hk hc=>ho.block k (h.lt hk hc).2 (by
  intro e;injection e with e;subst e
  have:=hne hk
  omega)
theorem Ow.onlyB {g:Nat} (h:Ow B w T size A n c xs) (ho:Only g w w') (hg:g<B):Ow B w' T size A n c xs :=
 h.only ho fun hA=>by
  rcases Nat.eq_zero_or_pos c with h0|h0
  ·exact h0
  ·have:=(h.lt hA h0).1
   omega
theorem Ow.mono {B':Nat} (h:Ow B w T size A n c xs) (hB:B'≤B):Ow B' w T size A n c xs:=by
 rcases Nat.eq_zero_or_pos c with h0|h0
 ·rcases h with h|⟨h1,_⟩
  ·exact .inl h
  ·omega
 ·obtain ⟨g,cur,rfl,hB',hb,hn,hm,hs,ht⟩:=h.blk h0
  exact Ow.mk_ h.len (by omega) hb hn hm hs ht
theorem Ow.src (h:Ow B w T size A n c xs):Src w size A n xs:=by
 refine ⟨h.len,fun hn=>?_⟩
 have hc:0<c:=Nat.lt_of_lt_of_le hn h.le
 obtain ⟨g,cur,rfl,hB,hb,_,_,hs,ht⟩:=h.blk hc
 refine ⟨_,rfl,fun j u hu=>?_⟩
 rw [Addr.add_lit,Nat.zero_add,hb.cell]
 rw [← ht,List.getElem?_take] at hu
 split at hu
 ·simpa using hu
 ·cases hu
theorem Ow.grown {w0:World} {C:Nat} (h:Ow B w T size A n c xs) (hg:w.grownBy w' (ownB A c)) (hb:Below C w0 w) (hC:C≤B) (hs:C≤w.heap.size):Below C w0 w' :=
 hb.grown hg hs fun k hk=>by
  unfold ownB at hk
  split at hk
  ·cases hk
  ·exact Nat.le_trans hC (h.lt hk (by omega)).1
end
theorem Blk.newAt (w:World) (T:Nat) (cs:Array Value) (b:Nat) (hb:w.heap.size=b):Blk (w.alloc (.cells cs T)) b T cs:=by subst hb;exact Blk.new _ _ _
theorem Blk.drew {w:World} {g T:Nat} {cs:Array Value} (h:Blk w g T cs):Blk w.drew g T cs:=h
end Go.Proofs.YtpcjdalgebgofaaGreatDoorY
namespace Go.Proofs.YtpcjdalgebgofaaGreatDoorY
open Go.RowKit Go.Sort
def RdI (k:IntKind) (w:World) (A:Option Addr) (n:Nat) (zs:List Int):Prop :=
 zs.length=n∧(0<n→∃ b off,A=some ⟨b,off,none⟩∧b<w.heap.size∧∀ j z,zs[j]?=some z→w.cell? ⟨b,off+j,none⟩=some (.int k z))
section
variable {k:IntKind} {w w':World} {A:Option Addr} {n:Nat} {zs:List Int}
theorem RdI.len (h:RdI k w A n zs):zs.length=n:=h.1
theorem RdI.at_ (h:RdI k w A n zs) {j:Nat} (hj:j<n):∃ b off z,A=some ⟨b,off,none⟩∧b<w.heap.size∧zs[j]?=some z∧w.cell? ⟨b,off+j,none⟩=some (.int k z):=by
 obtain ⟨b,off,hA,hb,hc⟩:=h.2 (by omega)
 have hl:j<zs.length:=by rw [h.1];exact hj
 exact ⟨b,off,zs[j],hA,hb,List.getElem?_eq_getElem hl,hc j _ (List.getElem?_eq_getElem hl)⟩
theorem RdI.keep (h:RdI k w A n zs) (hs:w.heap.size≤w'.heap.size) (hk:∀ b o,0<n→A.map (·.block)=some b→b<w.heap.size→w'.cell? ⟨b,o,none⟩=w.cell? ⟨b,o,none⟩):RdI k w' A n zs:=by
 refine ⟨h.1,fun hn=>?_⟩
 obtain ⟨b,off,hA,hlt,hc⟩:=h.2 hn
 exact ⟨b,off,hA,Nat.lt_of_lt_of_le hlt hs,fun j z hz=>by rw [hk b _ hn (by rw [hA];rfl) hlt];exact hc j z hz⟩
theorem RdI.below (h:RdI k w A n zs) (hb:Below w.heap.size w w'):RdI k w' A n zs:=h.keep hb.size fun b o _ _ hlt=>(bcell hb).1 b o hlt
theorem RdI.only {g:Nat} (h:RdI k w A n zs) (ho:Only g w w') (hg:0<n→A.map (·.block)≠some g):RdI k w' A n zs:=h.keep ho.size fun b o h0 hb hlt=>ho.cell hlt (by rintro rfl;exact hg h0 hb) o
theorem RdI.take (h:RdI k w A n zs) {m:Nat} (hm:m≤n):RdI k w A m (zs.take m):=by
 refine ⟨by rw [List.length_take,h.1];omega,fun hn=>?_⟩
 obtain ⟨b,off,hA,hlt,hc⟩:=h.2 (by omega)
 exact ⟨b,off,hA,hlt,fun j e he=>hc j e (by
  rw [List.getElem?_take] at he
  split at he
  ·exact he
  ·cases he)⟩
end
theorem ofInt_i64 (a:Nat) (ha:a<9223372036854775808):(BitVec.ofInt 64 (a:Int)).toNat=a:=by
 rw [BitVec.ofInt_natCast,BitVec.toNat_ofNat];exact Nat.mod_eq_of_lt (by omega)
theorem i64_xor_nat (a b:Nat) (ha:a<9223372036854775808) (hb:b<9223372036854775808):bits .xor .i64 (a:Int) (b:Int)=((a ^^^ b:Nat):Int):=by
 have hx:a ^^^ b<2 ^ 63:=Nat.xor_lt_two_pow (by omega) (by omega)
 show IntKind.i64.wrap ((BitVec.ofInt 64 (a:Int) ^^^ BitVec.ofInt 64 (b:Int)).toNat:Int)=_
 rw [BitVec.toNat_xor,ofInt_i64 a ha,ofInt_i64 b hb,IntKind.wrap_i64]
 omega
def Rdr (w:World) (g p:Nat):Prop :=
 ∃ (A:Option Addr) (n c:Nat) (zs:List Int),Blk w g 92 #[.slice A n c,.int .i64 p]∧RdI .u8 w A n zs∧(∀ z ∈ zs,0≤z∧z≤255)∧n≤2000∧(0<n→∀ b,A.map (·.block)=some b→b<g)
theorem Rdr.lt {w:World} {g p:Nat} (h:Rdr w g p):g<w.heap.size:=by
 obtain ⟨A,n,c,zs,hb,_⟩:=h
 exact hb.lt
theorem Rdr.next {w w':World} {g p:Nat} (h:Rdr w g p) (hb:Below w.heap.size w w'):Rdr w' g p:=by
 obtain ⟨A,n,c,zs,h1,h2,h3,h4,h5⟩:=h
 exact ⟨A,n,c,zs,h1.next hb,h2.below hb,h3,h4,h5⟩
theorem Rdr.set_ {w:World} {g p:Nat} (h:Rdr w g p) {a:Addr} (ha:g<a.block) (u:Value):Rdr (w.setCell a u) g p:=by
 obtain ⟨A,n,c,zs,h1,h2,h3,h4,h5⟩:=h
 exact ⟨A,n,c,zs,h1.far (by omega) u,h2.only (g:=a.block) ((Only.refl _ _).set_ (.inl rfl) u) (fun h0 hb=>by have:=h5 h0 _ hb;omega),h3,h4,h5⟩
theorem Rdr.only {w w':World} {g g' p:Nat} (h:Rdr w g p) (ho:Only g' w w') (hg:g<g'):Rdr w' g p:=by
 obtain ⟨A,n,c,zs,h1,h2,h3,h4,h5⟩:=h
 exact ⟨A,n,c,zs,h1.only ho (by omega),h2.only ho (fun h0 hb=>by have:=h5 h0 _ hb;omega),h3,h4,h5⟩
theorem Rdr.grown {w w':World} {g p:Nat} (h:Rdr w g p) {row:Option Nat} (ho:w.grownBy w' row) (hg:∀ b,row=some b→g<b):Rdr w' g p:=by
 obtain ⟨A,n,c,zs,h1,h2,h3,h4,h5⟩:=h
 refine ⟨A,n,c,zs,(ho.block g h1.lt (fun e=>by have:=hg g e.symm;omega)).trans h1,h2.keep ho.size (fun b o h0 hb hlt=>World.cell?_of_block (w:=w) (ho.block b hlt (fun e=>by have:=hg b e.symm;have:=h5 h0 _ hb;omega))),h3,h4,h5⟩
def PickPost (g p:Nat) (n:Int) (w:World) (e:Ending) (w':World):Prop :=
 ∃ v:Int,e=.returned (.int .i64 v)∧0≤v∧(1≤n→v<n)∧Rdr w' g (p+1)∧Only g w w'
theorem l6Open_any (A:Option Addr) (n c:Nat) (zs:List Int) (w:World) (hr:RdI .u8 w A n zs) (hz:∀ z ∈ zs,0≤z∧z≤255) (hn:n≤c) (hc:c≤maxLen) :
  Calls Qy.prog 24 #[.slice A n c] w fun e w'=>∃ g,e=.returned (.pointer (some ⟨g,0,none⟩))∧w.heap.size≤g∧Rdr w' g 0∧Below w.heap.size w w':=by
 have HR:=Lib.hid hr
 have HZ:=Lib.hid hz
 unfold maxLen at hc
 clear hr hz
 by_cases h2:2000<n
 ·obtain ⟨b,off,z,rfl,hb,_,_⟩:=HR.out.at_ (j:=0) (by omega)
  have h2':(2000:Int)<n:=by omega
  have h3:¬ c=0:=by omega
  go_enter Qy.func24,Tryz.ntmps24
  go_wp2
  go_ret
  refine ⟨_,rfl,Nat.le_refl _,⟨_,_,_,_,Blk.new _ _ _,(HR.out.take (m:=2000) (by omega)).below ((Below.refl _ _).alloc (Nat.le_refl _) _),fun z hz=>HZ.out z (List.mem_of_mem_take hz),Nat.le_refl _,fun _ b' hb'=>by simp at hb';omega⟩,by go_grown⟩
 ·have h2':¬ (2000:Int)<n:=by omega
  have hA:0<n→∀ b,A.map (·.block)=some b→b<w.heap.size:=fun h0=>by
   obtain ⟨b,off,z,rfl,hb,_,_⟩:=HR.out.at_ (j:=0) h0
   intro b' hb'
   simp at hb'
   omega
  have HA:=Lib.hid hA;clear hA
  go_enter Qy.func24,Tryz.ntmps24
  go_wp2
  go_ret
  exact ⟨_,rfl,Nat.le_refl _,⟨_,_,_,_,Blk.new _ _ _,HR.out.below ((Below.refl _ _).alloc (Nat.le_refl _) _),HZ.out,by omega,HA.out⟩,by go_grown⟩
theorem xor_bd (x:Int) (h0:0≤x) (h1:x≤1152921504606846976):∃ y:Int,bits .xor .i64 x (x / 64)=y∧0≤y∧y≤2305843009213693952:=by
 obtain ⟨a,rfl⟩:=Int.eq_ofNat_of_zero_le h0
 have e:((a:Int) / 64)=((a / 64:Nat):Int):=by omega
 refine ⟨((a ^^^ (a / 64):Nat):Int),by rw [e];exact i64_xor_nat _ _ (by omega) (by omega),by omega,?_⟩
 have hx:a ^^^ (a / 64)<2 ^ 61:=Nat.xor_lt_two_pow (by omega) (by omega)
 omega
set_option maxHeartbeats 2000000 in
theorem pick_any (g:Nat) (n:Int) (p:Nat) (w:World) (h:Rdr w g p) (hp:p≤1099511627776) :
  Calls Qy.prog 26 #[.pointer (some ⟨g,0,none⟩),.int .i64 n] w (PickPost g p n w):=by
 obtain ⟨A,m,c,zs,hb,hr,hz,hm,hA⟩:=h
 have hb0:w.cell? ⟨g,0,none⟩=some (.slice A m c):=hb.cell 0
 have hb1:w.cell? ⟨g,1,none⟩=some (.int .i64 p):=hb.cell 1
 have hf1:=hb.frozen 1
 have HB:=Lib.hid hb
 have HR:=Lib.hid hr
 have HZ:=Lib.hid hz
 have HA:=Lib.hid hA
 have hg:=hb.lt
 have hend:∀ v:Int,0≤v→(1≤n→v<n)→∀ k,PickPost g p n w (.returned (.int .i64 v)) ((w.setCell ⟨g,1,none⟩ (.int .i64 ((p:Int)+1))).drewN k):=by
  intro v h0 h1 k
  have ho:Only g w ((w.setCell ⟨g,1,none⟩ (.int .i64 ((p:Int)+1))).drewN k):=((Only.refl g w).set_ (p:=⟨g,1,none⟩) (.inl rfl) _).drewN k
  exact ⟨v,rfl,h0,h1,⟨A,m,c,zs,HB.out.set_ 1 _,HR.out.only ho (fun h0 hb=>by have:=HA.out h0 _ hb;omega),HZ.out,hm,HA.out⟩,ho⟩
 have HE:=Lib.hid hend
 clear hb hr hz hA hend
 have k0:(w.setCell ⟨g,1,none⟩ (.int .i64 ((p:Int)+1))).cell? ⟨g,0,none⟩=some (.slice A m c):=(HB.out.set_ 1 _).cell 0
 have k1:(w.setCell ⟨g,1,none⟩ (.int .i64 ((p:Int)+1))).cell? ⟨g,1,none⟩=some (.int .i64 ((p:Int)+1)):=(HB.out.set_ 1 _).cell 1
 by_cases hn:n<1
 ·go_enter Qy.func26,Tryz.ntmps26
  go_wp2
  go_ret
  exact HE.out 0 (Int.le_refl _) (by omega) 0
 ·by_cases hm0:m=0
  ·subst hm0
   go_enter Qy.func26,Tryz.ntmps26
   go_wp2
   go_ret
   exact HE.out 0 (Int.le_refl _) (by omega) 0
  ·have hm1:((m:Int) == 0)=false:=by simp;omega
   have hcell:∀ j,j<m→∃ b off z,A=some ⟨b,off,none⟩∧b<w.heap.size∧b≠g∧zs[j]?=some z∧(w.setCell ⟨g,1,none⟩ (.int .i64 ((p:Int)+1))).cell? ⟨b,off+j,none⟩=some (.int .u8 z):=by
    intro j hj
    obtain ⟨b,off,z,hA,hb,hz,hc⟩:=HR.out.at_ hj
    have hne:b≠g:=by
     intro hbg
     have:=HA.out (by omega) b (by rw [hA];rfl)
     omega
    exact ⟨b,off,z,hA,hb,hne,hz,by rw [World.cell?_setCell_other _ _ _ _ (by simp)];exact hc⟩
   by_cases hpm:p<m
   ·obtain ⟨b,off,z,rfl,hb,hne,hz,hc⟩:=hcell p hpm
    have hzb:=HZ.out z (List.mem_of_getElem? hz)
    have hz0:0≤z:=hzb.1
    have hz1:z≤255:=hzb.2
    clear hz hzb hb0 hcell
    go_enter Qy.func26,Tryz.ntmps26
    go_wp2
    go_ret
    exact HE.out _ (Int.emod_nonneg _ (by omega)) (fun _=>Int.emod_lt_of_pos _ (by omega)) 0
   ·have hj1:p % m<m:=Nat.mod_lt _ (by omega)
    have hj2:(p * 7+3) % m<m:=Nat.mod_lt _ (by omega)
    obtain ⟨b,off,z,rfl,hb,hne,hz,hc⟩:=hcell (p % m) hj1
    obtain ⟨b',off',z',hA',hb',hne',hz',hc'⟩:=hcell ((p * 7+3) % m) hj2
    obtain ⟨rfl,rfl⟩:b=b'∧off=off':=by simpa using hA'
    have hzb:=HZ.out z (List.mem_of_getElem? hz)
    have hz0:0≤z:=hzb.1
    have hz1:z≤255:=hzb.2
    have hzb':=HZ.out z' (List.mem_of_getElem? hz')
    have hz0':0≤z':=hzb'.1
    have hz1':z'≤255:=hzb'.2
    have hi1:(0:Int)≤(p:Int) % m:=by omega
    have hi2:(p:Int) % m<m:=by omega
    have hi3:(0:Int)≤((p:Int) * 7+3) % m:=Int.emod_nonneg _ (by omega)
    have hi4:((p:Int) * 7+3) % m<m:=Int.emod_lt_of_pos _ (by omega)
    have hi5:((p:Int) % m).toNat=p % m:=by omega
    have hi6:(((p:Int) * 7+3) % m).toNat=(p * 7+3) % m:=by
     rw [show ((p:Int) * 7+3) % m=(((p * 7+3) % m:Nat):Int) by push_cast;rfl]
     rfl
    have hq0:(0:Int)≤(p:Int) / m:=Int.ediv_nonneg (by omega) (by omega)
    have hq1:(p:Int) / m≤p:=Int.ediv_le_self _ (by omega)
    obtain ⟨y,hy,hy0,hy1⟩:=xor_bd (z * 131+z' * 1117+p * 29+(p:Int) / m * 53) (by omega) (by omega)
    clear hz hzb hz' hzb' hb0 hcell hA'
    go_enter Qy.func26,Tryz.ntmps26
    go_wp2
    go_quiet (fail)
    go_wp2
    go_ret
    exact HE.out _ (Int.emod_nonneg _ (by omega)) (fun _=>Int.emod_lt_of_pos _ (by omega)) _
end Go.Proofs.YtpcjdalgebgofaaGreatDoorY
namespace Go.Proofs.YtpcjdalgebgofaaGreatDoorY
open Go.RowKit Go.Sort
open Go.Proofs.YtpcjdalgebgofaaGreatDoor (seqFn FJD difV difB fjP)
theorem shape_of_cell {w:World} {a:Addr} {v:Value} (h:w.cell? a=some v):(w.shape? a.block).isSome=true:=by
 unfold World.cell? at h
 unfold World.shape?
 split at h
 ·rfl
 ·cases h
theorem run_unsafeAdd_zero {P:Program} {w:World} {a:Addr} (h:(w.shape? a.block).isSome=true) (ts:Array TypeId) (t:TypeId):(Builtin.unsafeAdd_ ts t #[.pointer (some a),.int .i64 0]).run P w=.ok (.pointer (some a)) w:=by
 obtain ⟨x,hx⟩:=Option.isSome_iff_exists.1 h
 have hv:(viewAt a.block).run P w=.ok none w:=by simp [viewAt,hx,go_sem]
 have e:Builtin.unsafeAdd_ ts t #[.pointer (some a),.int .i64 0]=(viewAt a.block >>= fun v=>if v.isSome then (unsupported (.unsafePointer "Add: at a place where no cell lies") >>= fun _=>pure (.pointer (some a))) else pure (.pointer (some a))):=rfl
 rw [e]
 simp [hv]
theorem infoTF:(Qy.prog.info? 4).map (fun i=>(i.zero,i.size,i.bytes))=some (some (.bool false),1,1):=by kernel_rfl
theorem run_make_bools (n:Nat) (h:n≤64) (w:World):Sem.run Qy.prog (Instr.makeSlice 81 (.int .i64 n) (.int .i64 n)) w=.ok (.slice (some ⟨w.heap.size,0,none⟩) n n) (w.alloc (.cells (madeCells (Value.bool false).cells n) 4)):=by
 have hi:=infoTF
 cases hi0:Qy.prog.info? 4 with
 | none=>rw [hi0] at hi;cases hi
 | some i =>
  rw [hi0] at hi
  simp only [Option.map_some,Option.some.injEq,Prod.mk.injEq] at hi
  obtain ⟨hz,h1,h2⟩:=hi
  have h:=run_make_rowN (P:=Qy.prog) 81 4 i _ (Qy.un Tryz.underlying81) hi0 hz .i64 .i64 n n (Nat.le_refl _) (by rw [h2];omega) (by omega) w
  rw [h1,Nat.mul_one] at h
  exact h
noncomputable def seqBody:Code:=seqFn.body.getD .skip
structure FQ (v:World) (A:Option Addr) (la ca:Nat) (B:Option Addr) (lb cb n:Nat) (x:Option Int) (zs ws:List Int) (j:Nat) (w:World):Prop where
 fj:FJD v A la ca B lb cb n x w
 b4:w.heap[v.heap.size+4]?=some Go.Proofs.YtpcjdalgebgofaaGreatDoor.poison
 drawn:w.drawn=v.drawn
 fill:∃ arr:Array Value,w.heap[v.heap.size+2]?=some (.cells arr 4)∧arr.size=n∧∀ i,i<j→arr[i]?=some (difV la lb zs ws i)
section
variable {v:World} {A B:Option Addr} {la ca lb cb n j:Nat} {x:Option Int} {zs ws:List Int} {w:World}
theorem FQ.cellAt (h:FQ v A la ca B lb cb n x zs ws j w) (hj:j<n):∃ u,w.cell? ⟨v.heap.size+2,j,none⟩=some u∧w.frozen? ⟨v.heap.size+2,j,none⟩=false:=by
 obtain ⟨arr,h1,h2,_⟩:=h.fill
 exact ⟨arr[j]'(by omega),by simp [World.cell?,h1,h2,hj],by simp [World.frozen?,h1]⟩
theorem FQ.store (h:FQ v A la ca B lb cb n x zs ws j w) (hj:j<n):FQ v A la ca B lb cb n x zs ws (j+1) (w.setCell ⟨v.heap.size+2,j,none⟩ (difV la lb zs ws j)):=by
 have hA:=Go.Conc.aside_setCell w ⟨v.heap.size+2,j,none⟩ (difV la lb zs ws j)
 obtain ⟨arr,h1,h2,h3⟩:=h.fill
 refine ⟨h.fj.aside2 ⟨hA.tape,hA.os,hA.output,hA.size,fun k hk _=>hA.block k hk⟩,(hA.block _ (by simp)).trans h.b4,?_,arr.setIfInBounds j (difV la lb zs ws j),?_,by simpa using h2,fun i hi=>?_⟩
 ·rw [← h.drawn];rfl
 ·rw [Go.setCell_eq_setRow w (v.heap.size+2) j arr 4 (0,0) _ h1,Go.setRow_heap w (v.heap.size+2) _ _ 4 _ h1]
 ·rcases Nat.lt_or_ge i j with hlt|hge
  ·rw [Array.getElem?_setIfInBounds_ne (by omega)];exact h3 i hlt
  ·obtain rfl:i=j:=by omega
   rw [Array.getElem?_setIfInBounds_self_of_lt (by omega)]
end
end Go.Proofs.YtpcjdalgebgofaaGreatDoorY
namespace Go.Proofs.YtpcjdalgebgofaaGreatDoorY
open Go.RowKit Go.Sort
open Go.Proofs.YtpcjdalgebgofaaGreatDoor (seqFn FJD difV difB fjP alloc_setCell)
section
variable (W:World) (A B:Option Addr) (la ca lb cb n:Nat) (zs ws:List Int)
def w4Q:World:=(((W.alloc (.cells #[.slice A la ca] 31)).alloc (.cells #[.slice B lb cb] 31)).alloc (.cells (madeCells #[.bool false] n) 4)).alloc (.cells #[.slice (some ⟨W.heap.size+1+1,0,none⟩) n n] 81)
def w6Q:World:=((w4Q W A B la ca lb cb n).iter ByteArray.empty 0).alloc (.cells #[.int .i64 0] 3)
def w7Q:World:=(w6Q W A B la ca lb cb n).alloc (.cells #[.int .i64 64] 3)
theorem fq6:FQ W A la ca B lb cb n none zs ws 0 (w6Q W A B la ca lb cb n):=by
 have e0:=heap_alloc_new W (.cells #[.slice A la ca] 31)
 have e1:=heap_alloc_new (W.alloc (.cells #[.slice A la ca] 31)) (.cells #[.slice B lb cb] 31)
 have e2:=heap_alloc_new ((W.alloc (.cells #[.slice A la ca] 31)).alloc (.cells #[.slice B lb cb] 31)) (.cells (madeCells #[.bool false] n) 4)
 have e3:=heap_alloc_new (((W.alloc (.cells #[.slice A la ca] 31)).alloc (.cells #[.slice B lb cb] 31)).alloc (.cells (madeCells #[.bool false] n) 4)) (.cells #[.slice (some ⟨W.heap.size+2,0,none⟩) n n] 81)
 have e4:=heap_alloc_new (w4Q W A B la ca lb cb n) (.stringIter ByteArray.empty 0)
 have e5:=heap_alloc_new ((w4Q W A B la ca lb cb n).alloc (.stringIter ByteArray.empty 0)) (.cells #[.int .i64 0] 3)
 unfold w6Q
 change FQ _ _ _ _ _ _ _ _ _ _ _ _ (((w4Q W A B la ca lb cb n).alloc (.stringIter ByteArray.empty 0)).alloc (.cells #[.int .i64 0] 3))
 unfold w4Q at *
 simp only [World.size_alloc] at e0 e1 e2 e3 e4 e5
 refine ⟨⟨((((((Below.refl _ W).alloc (Nat.le_refl _) _).alloc (by simp) _).alloc (by simp;omega) _).alloc (by simp;omega) _).alloc (by simp;omega) _).alloc (by simp;omega) _,?_,?_,?_,?_,?_⟩,?_,rfl,madeCells #[.bool false] n,?_,size_madeCells _ _,fun i hi=>absurd hi (Nat.not_lt_zero _)⟩
 ·rw [Below.heap_alloc _ _ _ (by simp only [World.size_alloc];omega),Below.heap_alloc _ _ _ (by simp only [World.size_alloc];omega),Below.heap_alloc _ _ _ (by simp only [World.size_alloc];omega),Below.heap_alloc _ _ _ (by simp only [World.size_alloc];omega),Below.heap_alloc _ _ _ (by simp only [World.size_alloc];omega)]
  exact e0
 ·rw [Below.heap_alloc _ _ _ (by simp only [World.size_alloc];omega),Below.heap_alloc _ _ _ (by simp only [World.size_alloc];omega),Below.heap_alloc _ _ _ (by simp only [World.size_alloc];omega),Below.heap_alloc _ _ _ (by simp only [World.size_alloc];omega)]
  exact e1
 ·rw [Below.heap_alloc _ _ _ (by simp only [World.size_alloc];omega),Below.heap_alloc _ _ _ (by simp only [World.size_alloc];omega)]
  exact e3
 ·exact e5
 ·simp
 ·rw [Below.heap_alloc _ _ _ (by simp only [World.size_alloc];omega)]
  exact e4
 ·rw [Below.heap_alloc _ _ _ (by simp only [World.size_alloc];omega),Below.heap_alloc _ _ _ (by simp only [World.size_alloc];omega),Below.heap_alloc _ _ _ (by simp only [World.size_alloc];omega)]
  exact e2
theorem fq7:FQ W A la ca B lb cb n (some 64) zs ws 0 (w7Q W A B la ca lb cb n):=by
 have h:=fq6 W A B la ca lb cb n zs ws
 unfold w7Q
 have hs:(w6Q W A B la ca lb cb n).heap.size=W.heap.size+6:=h.fj.tail
 have hb:∀ b,b<W.heap.size+6→((w6Q W A B la ca lb cb n).alloc (.cells #[.int .i64 64] 3)).heap[b]?=(w6Q W A B la ca lb cb n).heap[b]?:=fun b hlt=>Below.heap_alloc _ _ _ (by omega)
 obtain ⟨arr,f1,f2,f3⟩:=h.fill
 refine ⟨⟨h.fj.below.alloc (by omega) _,(hb _ (by omega)).trans h.fj.b0,(hb _ (by omega)).trans h.fj.b1,(hb _ (by omega)).trans h.fj.b3,(hb _ (by omega)).trans h.fj.b5,by simp [hs],?_⟩,(hb _ (by omega)).trans h.b4,h.drawn,arr,(hb _ (by omega)).trans f1,f2,f3⟩
 have:=heap_alloc_new (w6Q W A B la ca lb cb n) (.cells #[.int .i64 64] 3)
 rw [hs] at this
 exact this
end
def PostQ (v:World) (A:Option Addr) (la ca:Nat) (B:Option Addr) (lb cb n:Nat) (x:Option Int) (zs ws:List Int) (e:Exit) (a:Act) (w:World):Prop :=
 e=.ret∧a.defers=[]∧a.tmps[4]?=some (.slice (some ⟨v.heap.size+2,0,none⟩) n n)∧FQ v A la ca B lb cb n x zs ws n w
set_option maxRecDepth 100000 in
set_option maxHeartbeats 4000000 in
theorem seq_wp (A B:Option Addr) (la ca lb cb m n:Nat) (zs ws:List Int) (w:World) (hm:m=min la lb) (hn:n=max la lb) (ha:RdI .i64 w A m zs) (hb:RdI .i64 w B m ws) (h64:la≤64∧lb≤64)
  (x2 x3 x4 x5 x6 x7 x8 x9 x10 x11 x12 x13 x14 x15 x16 x17 x18 x19 x20 x21 x22 x23 x24:Value) (x:Option Int) (hx:x=if n=0 then none else some 64) :
  seqBody.wp Qy.prog (PostQ w A la ca B lb cb n x zs ws) ⟨#[.slice A la ca,.slice B lb cb,x2,x3,x4,x5,x6,x7,x8,x9,x10,x11,x12,x13,x14,x15,x16,x17,x18,x19,x20,x21,x22,x23,x24],[]⟩ w:=by
 have HA:=Lib.hid ha
 have HB:=Lib.hid hb
 have HM:=Lib.hid hm
 have HN:=Lib.hid hn
 have HX:=Lib.hid hx
 clear ha hb hm hx
 obtain ⟨h1,h2⟩:=h64
 have hn64:n≤64:=by omega
 have q31:∀ (w:World) (a:Option Addr) (n c n' c':Nat),(binOp .eql 31 (.slice a n c) (.slice none n' c')).run Qy.prog w=.ok (.bool a.isNone) w:=fun w a n c n' c'=>Lib.run_eql_slice_nil w _ _ a n c n' c' (Qy.un Tryz.underlying31)
 have hmax:(if la<lb then (lb:Int) else (la:Int))=(n:Int):=by split <;> omega
 have hmin2:(if lb<la then (lb:Int) else (la:Int))=(m:Int):=by have:=HM.out;split <;> omega
 have hmin:(if la<lb then (la:Int) else (lb:Int))=(m:Int):=by have:=HM.out;split <;> omega
 have hmk:=fun W=>run_make_bools n hn64 W
 clear hn
 simp only [seqBody,seqFn,Option.getD_some]
 go_wp2_with fail
 go_loopw [9] (fun i wr=>∃ k:Nat,i=.int .i64 k∧k≤m∧wr=w) (fun i _=>m - (intOf i).toNat)
 case atStart=>exact ⟨0,rfl,Nat.zero_le _,rfl⟩
 case round =>
  obtain ⟨k0,rfl,hk,rfl⟩:=hrel
  by_cases hlt:k0<m
  ·obtain ⟨p,o,z,rfl,hp,hz,hc⟩:=HA.out.at_ hlt
   obtain ⟨p2,o2,z2,rfl,hp2,hz2,hc2⟩:=HB.out.at_ hlt
   have kla:k0<la:=by have:=HM.out;omega
   have klb:k0<lb:=by have:=HM.out;omega
   have v1:=fun ts t=>run_unsafeAdd_zero (P:=Qy.prog) (shape_of_cell hc) ts t
   have v2:=fun ts t=>run_unsafeAdd_zero (P:=Qy.prog) (shape_of_cell hc2) ts t
   go_wp2_with fail
   exact ⟨⟨k0+1,rfl,by omega,trivial⟩,by simp [intOf];omega⟩
  ·obtain rfl:k0=m:=by omega
   by_cases h0:0<n
   ·
    have hx:x=some 64:=by have:=HX.out;rw [if_neg (by omega)] at this;exact this
    subst hx
    go_wp2_with fail
    generalize wr=wo at *
    go_loopw [9] (fun i wr=>∃ k:Nat,i=.int .i64 k∧k≤n∧FQ wo A la ca B lb cb n (some 64) zs ws k wr) (fun i _=>n - (intOf i).toNat)
    case atStart=>exact ⟨0,rfl,Nat.zero_le _,fq7 wo A B la ca lb cb n zs ws⟩
    case round =>
     obtain ⟨k,rfl,hk,hF⟩:=hrel
     by_cases hlt:k<n
     ·obtain ⟨u,hcl,hfz⟩:=hF.cellAt hlt
      have hnew:=hF.store hlt
      have hcl2:wr.cell? ⟨wo.heap.size+1+1,k,none⟩=some u:=hcl
      have hfz2:wr.frozen? ⟨wo.heap.size+1+1,k,none⟩=false:=hfz
      by_cases hla:la≤k
      ·rw [show difV la lb zs ws k=.bool true by simp [difV,difB,hla]] at hnew
       go_wp2_with fail
       exact ⟨⟨k+1,rfl,by omega,hnew⟩,by simp [intOf];omega⟩
      by_cases hlb:lb≤k
      ·rw [show difV la lb zs ws k=.bool true by simp [difV,difB,hlb]] at hnew
       go_wp2_with fail
       exact ⟨⟨k+1,rfl,by omega,hnew⟩,by simp [intOf];omega⟩
      ·have hkm:k<k0:=by have:=HM.out;omega
       obtain ⟨p,o,z,rfl,hp,hz,hc⟩:=HA.out.at_ hkm
       obtain ⟨p2,o2,z2,rfl,hp2,hz2,hc2⟩:=HB.out.at_ hkm
       have hc':wr.cell? ⟨p,o+k,none⟩=some (.int .i64 z):=by rw [(bcell hF.fj.below).1 p _ hp];exact hc
       have hc2':wr.cell? ⟨p2,o2+k,none⟩=some (.int .i64 z2):=by rw [(bcell hF.fj.below).1 p2 _ hp2];exact hc2
       have kla:k<la:=by omega
       have klb:k<lb:=by omega
       rw [show difV la lb zs ws k=.bool (z != z2) by simp [difV,difB,hla,hlb,hz,hz2]] at hnew
       clear hc hc2 hcl hfz
       go_wp2_with fail
       exact ⟨⟨k+1,rfl,by omega,hnew⟩,by simp [intOf];omega⟩
     ·obtain rfl:k=n:=by omega
      go_wp2_with fail
      exact ⟨rfl,rfl,rfl,hF⟩
   ·
    have hx:x=none:=by have:=HX.out;rw [if_pos (by omega)] at this;exact this
    subst hx
    go_wp2_with fail
    generalize wr=wo at *
    go_loopw [9] (fun i wr=>∃ k:Nat,i=.int .i64 k∧k≤n∧FQ wo A la ca B lb cb n none zs ws k wr) (fun i _=>n - (intOf i).toNat)
    case atStart=>exact ⟨0,rfl,Nat.zero_le _,fq6 wo A B la ca lb cb n zs ws⟩
    case round =>
     obtain ⟨k,rfl,hk,hF⟩:=hrel
     obtain rfl:k=n:=by omega
     go_wp2_with fail
     exact ⟨rfl,rfl,rfl,hF⟩
end Go.Proofs.YtpcjdalgebgofaaGreatDoorY
namespace Go.Proofs.YtpcjdalgebgofaaGreatDoorY
open Go.RowKit Go.Sort
open Go.Proofs.YtpcjdalgebgofaaGreatDoor (seqFn Dead DeadS deadH dead_left dead_seq dead_cond dead_block dead_loop dead_op oper_dead step_region)
theorem len_dead (x:Value) (h:∀ A n c,x≠.slice A n c) (ts:TypeId) (w:World):(Builtin.len_ #[31] ts #[x]).run Qy.prog w=.halt (.stuck "len: string, array, pointer to array, slice, map or channel expected") w:=by
 cases x <;> first|exact absurd rfl (h _ _ _)|simp [Builtin.len_,go_sem]
theorem mul_dead (u:Value) (h:∀ z,u≠.int .i64 z) (t:TypeId) (w:World):∃ hh,(binOp .mul t u (.int .i64 1)).run Qy.prog w=.halt hh w∧deadH hh:=by
 cases u with
 | int k n =>
  have hk:k≠.i64:=fun e=>h n (by rw [e])
  exact ⟨.stuck "BinOp: operands of different kinds", by simp [binOp,hk,stuck,Sem.run],trivial⟩
 | pointer a=>exact ⟨.unsupported .addressObserved,by simp [binOp,unsupported,Sem.run],trivial⟩
 | _=>exact ⟨.stuck "BinOp: no such operator on these operands", by simp [binOp,stuck,Sem.run],trivial⟩
theorem run_getObj' {P:Program} {w:World} {r:Nat} {o:Obj} (ho:w.heap[r]?=some o) (hc:∀ c e f,o≠.cells c e f):(getObj r).run P w=.ok o w:=by
 cases o <;> first|exact absurd rfl (hc _ _ _)|simp [getObj,Sem.run,ho]
theorem ua_cases (w:World) (a:Addr) (hp:∀ x y,w.heap[a.block]?≠some (.pending x y)) (ts:Array TypeId) (t:TypeId) :
  (∃ h w',(Builtin.unsafeAdd_ ts t #[.pointer (some a),.int .i64 0]).run Qy.prog w=.halt h w'∧deadH h) ∨
  ((Builtin.unsafeAdd_ ts t #[.pointer (some a),.int .i64 0]).run Qy.prog w=.ok (.pointer (some a)) w∧∃ h,w.farLoad Qy.prog a (Mode.plain == Mode.atomic)=.error h∧deadH h):=by
 have e:Builtin.unsafeAdd_ ts t #[.pointer (some a),.int .i64 0]=(viewAt a.block >>= fun v=>if v.isSome then (unsupported (.unsafePointer "Add: at a place where no cell lies") >>= fun _=>pure (.pointer (some a))) else pure (.pointer (some a))):=rfl
 rw [e]
 cases ho:w.heap[a.block]? with
 | none =>
  refine .inl ⟨.stuck "getObj: no such block", w,?_,trivial⟩
  have hs:w.shape? a.block=none:=by simp [World.shape?,ho]
  have hg:(getObj a.block).run Qy.prog w=.halt (.stuck "getObj: no such block") w:=by simp [getObj,Sem.run,ho]
  simp [viewAt,hs,go_sem,hg]
 | some o =>
  cases o with
  | pending x y=>exact absurd ho (hp x y)
  | view b u =>
   refine .inl ⟨.unsupported (.unsafePointer "Add: at a place where no cell lies"),w,?_,trivial⟩
   have hs:w.shape? a.block=none:=by simp [World.shape?,ho]
   have hg:(getObj a.block).run Qy.prog w=.ok (.view b u) w:=by simp [getObj,Sem.run,ho]
   simp [viewAt,hs,go_sem,hg,unsupported]
  | cells c el fz =>
   refine .inr ⟨?_,.stuck "load: no such cell", ?_,trivial⟩
   ·have hs:w.shape? a.block=some (el,c.size):=by simp [World.shape?,ho]
    simp [viewAt,hs,go_sem]
   ·simp [World.farLoad,World.noCell,ho]
  | _ =>
   refine .inr ⟨?_,.stuck "load: no such cell", ?_,trivial⟩
   ·have hs:w.shape? a.block=none:=by simp [World.shape?,ho]
    have hg:=run_getObj' (P:=Qy.prog) ho (by intro _ _ _ h;cases h)
    simp [viewAt,hs,go_sem,hg]
   ·simp [World.farLoad,World.noCell,ho]
def GoodV (x0 x1:Value) (w:World):Prop:=∃ (A:Option Addr) (la ca:Nat) (B:Option Addr) (lb cb:Nat) (zs ws:List Int),x0=.slice A la ca∧x1=.slice B lb cb∧la≤64∧lb≤64∧RdI .i64 w A (min la lb) zs∧RdI .i64 w B (min la lb) ws
def NumAt (w:World) (A:Option Addr) (j:Nat):Prop:=∃ a z,A=some a∧w.cell? (a.add j)=some (.int .i64 z)
theorem rdI_of_nums {w:World} {A:Option Addr} {m:Nat} (h:∀ j,j<m→NumAt w A j):∃ zs,RdI .i64 w A m zs:=by
 have key:∀ k,k≤m→∃ zs:List Int,zs.length=k∧∀ (j:Nat) (z:Int),zs[j]?=some z→∃ a,A=some a∧w.cell? (a.add j)=some (.int .i64 z):=by
  intro k
  induction k with
  | zero=>exact fun _=>⟨[],rfl,fun j z hz=>by simp at hz⟩
  | succ k ih =>
   intro hk
   obtain ⟨zs,h1,h2⟩:=ih (by omega)
   obtain ⟨a,z,ha,hz⟩:=h k (by omega)
   refine ⟨zs ++ [z],by simp [h1],fun j y hy=>?_⟩
   rcases Nat.lt_trichotomy j zs.length with hj|hj|hj
   ·rw [List.getElem?_append_left hj] at hy
    exact h2 j y hy
   ·rw [List.getElem?_append_right (by omega)] at hy
    have:j=k:=by omega
    subst this
    simp [hj] at hy
    subst hy
    exact ⟨a,ha,hz⟩
   ·rw [List.getElem?_append_right (by omega),List.getElem?_eq_none (by simp;omega)] at hy
    cases hy
 obtain ⟨zs,h1,h2⟩:=key m (Nat.le_refl _)
 refine ⟨zs,h1,fun hm=>?_⟩
 obtain ⟨a,z,ha,hz⟩:=h 0 hm
 subst ha
 have hz0:w.cell? a=some (.int .i64 z):=hz
 obtain ⟨b,off,spot⟩:=a
 have hsp:spot=none:=by
  cases spot with
  | none=>rfl
  | some s =>
   unfold World.cell? at hz0
   split at hz0
   ·simp at hz0
   ·cases hz0
 subst hsp
 refine ⟨b,off,rfl,?_,fun j y hy=>?_⟩
 ·unfold World.cell? at hz0
  split at hz0
  ·rename_i heq
   exact (Array.getElem?_eq_some_iff.1 heq).1
  ·cases hz0
 ·obtain ⟨a,ha,hc⟩:=h2 j y hy
  cases ha
  unfold Addr.add at hc
  split at hc
  ·rename_i h0
   subst h0
   exact hc
  ·exact hc
set_option maxRecDepth 100000 in
set_option maxHeartbeats 4000000 in
theorem seq_dead (x0 x1 x2 x3 x4 x5 x6 x7 x8 x9 x10 x11 x12 x13 x14 x15 x16 x17 x18 x19 x20 x21 x22 x23 x24:Value) (w:World) (hp:∀ (b:Nat) x y,w.heap[b]?≠some (.pending x y)) (hbad:¬ GoodV x0 x1 w) :
  Dead Qy.prog seqBody ⟨#[x0,x1,x2,x3,x4,x5,x6,x7,x8,x9,x10,x11,x12,x13,x14,x15,x16,x17,x18,x19,x20,x21,x22,x23,x24],[]⟩ w:=by
 simp only [seqBody,seqFn,Option.getD_some]
 refine dead_seq ?_
 go_wp2_with fail
 by_cases h0:∃ A la ca,x0=.slice A la ca
 rotate_left
 ·have hl:=fun t=>len_dead x0 (fun A n c e=>h0 ⟨A,n,c,e⟩) t w
  refine dead_left (dead_op (h:=.stuck "len: string, array, pointer to array, slice, map or channel expected") (w':=w) rfl ?_ trivial)
  go_simp
 obtain ⟨A,la,ca,rfl⟩:=h0
 refine dead_seq ?_
 go_wp2_with fail
 by_cases h1:∃ B lb cb,x1=.slice B lb cb
 rotate_left
 ·have hl:=fun t=>len_dead x1 (fun A n c e=>h1 ⟨A,n,c,e⟩) t w
  refine dead_left (dead_op (h:=.stuck "len: string, array, pointer to array, slice, map or channel expected") (w':=w) rfl ?_ trivial)
  go_simp
 obtain ⟨B,lb,cb,rfl⟩:=h1
 obtain ⟨n,hn⟩:∃ n:Nat,n=max la lb:=⟨_,rfl⟩
 obtain ⟨m,hm⟩:∃ m:Nat,m=min la lb:=⟨_,rfl⟩
 have hmax:(if la<lb then (lb:Int) else (la:Int))=(n:Int):=by split <;> omega
 have hmin2:(if lb<la then (lb:Int) else (la:Int))=(m:Int):=by split <;> omega
 have HN:=Lib.hid hn
 have HM:=Lib.hid hm
 clear hn hm
 refine dead_seq ?_
 go_wp2_with fail
 refine dead_seq ?_
 go_wp2_with fail
 try simp only [hmax]
 by_cases h64:64<n
 ·have h64i:(64:Int)<(n:Int):=by omega
  refine dead_seq ?_
  go_wp2_with fail
  refine dead_left (dead_cond rfl (dead_op (h:=.stuck "Extract: tuple expected") (w':=w) rfl ?_ trivial))
  go_simp
 have hn64:n≤64:=by omega
 have h64i:¬ (64:Int)<(n:Int):=by omega
 refine dead_seq ?_
 go_wp2_with fail
 refine dead_seq ?_
 go_wp2_with fail
 refine dead_seq ?_
 go_wp2_with fail
 refine dead_seq ?_
 go_wp2_with fail
 refine dead_left (dead_block ?_)
 refine dead_loop (fun a w'=>w'=w∧∃ (k:Nat) (u2 u10 u11 u12 u13 u14 u15 u16 u17 u18:Value),a=⟨#[.slice A la ca,.slice B lb cb,u2,.int .i64 m,x4,.int .i64 la,.int .i64 lb,.int .i64 n,.bool false,.int .i64 k,u10,u11,u12,u13,u14,u15,u16,u17,u18,x19,x20,x21,x22,x23,x24],[]⟩∧k≤m∧∀ j,j<k→NumAt w A j∧NumAt w B j) (fun a _=>m - (intOf (a.tmps.getD 9 undef)).toNat) ⟨rfl,0,_,_,_,_,_,_,_,_,_,_,rfl,Nat.zero_le _,fun j hj=>absurd hj (Nat.not_lt_zero _)⟩ ?_
 rintro a w' ⟨hw,k,u2,u10,u11,u12,u13,u14,u15,u16,u17,u18,rfl,hk,hall⟩
 subst hw
 by_cases hlt:k<m
 rotate_left
 ·exfalso
  obtain rfl:k=m:=by omega
  obtain ⟨zs,hz⟩:=rdI_of_nums (fun j hj=>(hall j hj).1)
  obtain ⟨ws,hv⟩:=rdI_of_nums (fun j hj=>(hall j hj).2)
  have hM:=HM.out
  have hN:=HN.out
  rw [hM] at hz hv
  exact hbad ⟨A,la,ca,B,lb,cb,zs,ws,rfl,rfl,by omega,by omega,hz,hv⟩
 have hki:(k:Int)<(m:Int):=by omega
 have kla:k<la:=by have:=HM.out;omega
 have klb:k<lb:=by have:=HM.out;omega
 have q31:∀ (w:World) (a:Option Addr) (n c n' c':Nat),(binOp .eql 31 (.slice a n c) (.slice none n' c')).run Qy.prog w=.ok (.bool a.isNone) w:=fun w a n c n' c'=>Lib.run_eql_slice_nil w _ _ a n c n' c' (Qy.un Tryz.underlying31)
 by_cases hA:NumAt w' A k
 rotate_left
 ·left
  cases hA:A with
  | none =>
   subst hA
   refine dead_seq ?_
   go_wp2_with fail
   refine dead_seq ?_
   go_wp2_with fail
   refine dead_seq ?_
   go_wp2_with fail
   refine dead_left (dead_cond rfl (dead_op (h:=.stuck "Extract: tuple expected") (w':=w') rfl ?_ trivial))
   go_simp
  | some pA =>
   subst hA
   refine dead_seq ?_
   go_wp2_with fail
   refine dead_seq ?_
   go_wp2_with fail
   refine dead_seq ?_
   go_wp2_with fail
   refine dead_seq ?_
   go_wp2_with fail
   refine dead_seq ?_
   go_wp2_with fail
   rcases ua_cases w' (pA.add k) (fun x y=>hp _ x y) #[0,3] 0 with ⟨h,w2,hr,hd⟩|⟨hr,h,hf,hd⟩
   ·refine dead_left (dead_op (h:=h) (w':=w2) rfl ?_ hd)
    go_simp
   cases hc:w'.cell? (pA.add k) with
   | none =>
    refine dead_seq ?_
    go_wp2_with fail
    refine dead_left (dead_op (h:=h) (w':=w') rfl ?_ hd)
    go_simp
   | some u =>
    refine dead_seq ?_
    go_wp2_with fail
    refine dead_seq ?_
    go_wp2_with fail
    obtain ⟨hh,hm2,hd2⟩:=mul_dead u (fun z e=>hA ⟨pA,z,rfl,e ▸ hc⟩) 3 w'
    refine dead_left (dead_op (h:=hh) (w':=w') rfl ?_ hd2)
    go_simp
 obtain ⟨pa,za,rfl,hca⟩:=hA
 have v1:=fun ts t=>run_unsafeAdd_zero (P:=Qy.prog) (shape_of_cell hca) ts t
 by_cases hB:NumAt w' B k
 rotate_left
 ·left
  cases hB:B with
  | none =>
   subst hB
   refine dead_seq ?_
   go_wp2_with fail
   refine dead_seq ?_
   go_wp2_with fail
   refine dead_seq ?_
   go_wp2_with fail
   refine dead_seq ?_
   go_wp2_with fail
   refine dead_seq ?_
   go_wp2_with fail
   refine dead_seq ?_
   go_wp2_with fail
   refine dead_seq ?_
   go_wp2_with fail
   refine dead_seq ?_
   go_wp2_with fail
   refine dead_seq ?_
   go_wp2_with fail
   refine dead_left (dead_cond rfl (dead_op (h:=.stuck "Extract: tuple expected") (w':=w') rfl ?_ trivial))
   go_simp
  | some pB =>
   subst hB
   refine dead_seq ?_
   go_wp2_with fail
   refine dead_seq ?_
   go_wp2_with fail
   refine dead_seq ?_
   go_wp2_with fail
   refine dead_seq ?_
   go_wp2_with fail
   refine dead_seq ?_
   go_wp2_with fail
   refine dead_seq ?_
   go_wp2_with fail
   refine dead_seq ?_
   go_wp2_with fail
   refine dead_seq ?_
   go_wp2_with fail
   refine dead_seq ?_
   go_wp2_with fail
   refine dead_seq ?_
   go_wp2_with fail
   refine dead_seq ?_
   go_wp2_with fail
   rcases ua_cases w' (pB.add k) (fun x y=>hp _ x y) #[0,3] 0 with ⟨h,w2,hr,hd⟩|⟨hr,h,hf,hd⟩
   ·refine dead_left (dead_op (h:=h) (w':=w2) rfl ?_ hd)
    go_simp
   cases hc:w'.cell? (pB.add k) with
   | none =>
    refine dead_seq ?_
    go_wp2_with fail
    refine dead_left (dead_op (h:=h) (w':=w') rfl ?_ hd)
    go_simp
   | some u =>
    refine dead_seq ?_
    go_wp2_with fail
    refine dead_seq ?_
    go_wp2_with fail
    obtain ⟨hh,hm2,hd2⟩:=mul_dead u (fun z e=>hB ⟨pB,z,rfl,e ▸ hc⟩) 3 w'
    refine dead_left (dead_op (h:=hh) (w':=w') rfl ?_ hd2)
    go_simp
 right
 obtain ⟨pb,zb,rfl,hcb⟩:=hB
 have v2:=fun ts t=>run_unsafeAdd_zero (P:=Qy.prog) (shape_of_cell hcb) ts t
 go_wp2_with fail
 refine ⟨⟨k+1,rfl,by omega,fun j hj=>?_⟩,by simp [intOf];omega⟩
 rcases Nat.lt_or_ge j k with h|h
 ·exact hall j h
 ·obtain rfl:j=k:=by omega
  exact ⟨⟨pa,za,rfl,hca⟩,pb,zb,rfl,hcb⟩
end Go.Proofs.YtpcjdalgebgofaaGreatDoorY

/-
  Lemmas and contracts: Base. No condition.
-/
import Derived.Test.YtkgfmgajhgfgjaaGreatDoorChecked
import Derived.WalkKit
import Derived.WalkSpells
import Derived.WalkLawsBesides
import Derived.Lib.Hide
import Derived.Lib.QuietBelow
import Derived.BigQuiet
import Derived.Handy
set_option linter.unusedSimpArgs false
set_option linter.unusedVariables false
set_option linter.unusedSectionVars false
namespace Go.Proofs.YtkgfmgajhgfgjaaGreatDoor
open Go.RowKit Go.Sort
abbrev Ent:=Int × Int
def inR (n lo hi:Int):Bool:=decide (lo≤n) && decide (n≤hi)
def okE (e:Ent):Bool:=inR e.1 0 9 && inR e.2 0 60
theorem ret_bool {a b:Bool} (h:a=b):Ending.returned (.bool a)=.returned (.bool b):=by rw [h]
theorem ret_int {k:IntKind} {a b:Int} (h:a=b):Ending.returned (.int k a)=.returned (.int k b):=by rw [h]
theorem bcell {W w1:World} (hb:Below W.heap.size W w1):(∀ b o,b<W.heap.size→w1.cell? ⟨b,o,none⟩=W.cell? ⟨b,o,none⟩)∧(∀ b o,b<W.heap.size→w1.frozen? ⟨b,o,none⟩=W.frozen? ⟨b,o,none⟩) :=
 ⟨fun b o h=>hb.cell (p:=⟨b,o,none⟩) h,fun b o h=>hb.frozen (p:=⟨b,o,none⟩) h⟩
theorem below_next {a b c:World} (h:Below a.heap.size a b) (k:Below b.heap.size b c):Below a.heap.size a c:=h.trans (k.mono h.size)
theorem below_at {B:Nat} {a b c:World} (h:Below B a b) (hB:B≤b.heap.size) (k:Below b.heap.size b c):Below B a c:=h.trans (k.mono hB)
def cellsE (es:List Ent):List Value:=es.flatMap fun e=>[.int .i64 e.1,.int .i64 e.2]
theorem cellsE_length (es:List Ent):(cellsE es).length=es.length * 2:=by
 induction es with
 | nil=>rfl
 | cons e r ih=>simp [cellsE] at ih ⊢;omega
theorem cellsE_cons (e:Ent) (r:List Ent):cellsE (e :: r)=.int .i64 e.1 :: .int .i64 e.2 :: cellsE r:=rfl
theorem cellsE_append (a b:List Ent):cellsE (a ++ b)=cellsE a ++ cellsE b:=by simp [cellsE]
theorem cellsE_get (es:List Ent):∀ (k:Nat) (e:Ent),es[k]?=some e→(cellsE es)[k * 2]?=some (.int .i64 e.1)∧(cellsE es)[k * 2+1]?=some (.int .i64 e.2):=by
 induction es with
 | nil=>intro k e h;simp at h
 | cons x r ih =>
  intro k e h
  cases k with
  | zero=>simp at h;subst h;exact ⟨rfl,rfl⟩
  | succ k =>
   have h':r[k]?=some e:=by simpa using h
   obtain ⟨h1,h2⟩:=ih k e h'
   rw [cellsE_cons,show (k+1) * 2=k * 2+1+1 by omega]
   exact ⟨by simpa using h1,by simpa using h2⟩
theorem cellsE_take (es:List Ent):∀ k,(cellsE es).take (k * 2)=cellsE (es.take k):=by
 induction es with
 | nil=>intro k;simp [cellsE]
 | cons x r ih =>
  intro k
  cases k with
  | zero=>simp [cellsE]
  | succ k=>rw [show (k+1) * 2=k * 2+1+1 by omega];simp [cellsE_cons,ih]
theorem cellsE_drop (es:List Ent):∀ k,(cellsE es).drop (k * 2)=cellsE (es.drop k):=by
 induction es with
 | nil=>intro k;simp [cellsE]
 | cons x r ih =>
  intro k
  cases k with
  | zero=>simp
  | succ k=>rw [show (k+1) * 2=k * 2+1+1 by omega];simp [cellsE_cons,ih]
theorem cellsE_one (es:List Ent):∀ u ∈ cellsE es,u.oneCell'=true:=by
 intro u hu
 simp only [cellsE,List.mem_flatMap] at hu
 obtain ⟨e,_,h⟩:=hu
 simp at h
 rcases h with rfl|rfl <;> rfl
def findE (p:Int):List Ent→Int→Int
 | [],_ => -1
 | e :: r,k=>if e.1=p then k else findE p r (k+1)
theorem findE_step (p:Int) (es:List Ent) (k:Nat) (e:Ent) (he:es[k]?=some e):findE p (es.drop k) k=if e.1=p then (k:Int) else findE p (es.drop (k+1)) ((k+1:Nat):Int):=by
 have hk:k<es.length:=(List.getElem?_eq_some_iff.1 he).1
 rw [List.drop_eq_getElem_cons hk,findE]
 have:es[k]=e:=(List.getElem?_eq_some_iff.1 he).2
 rw [this];rfl
def prevE (es:List Ent) (k:Nat):Int:=(es[k - 1]?.getD (0,0)).2
def vrE (es:List Ent) (k:Nat):Bool :=
 match es[k]? with
 | none=>true
 | some e=>okE e && !(decide (0<k) && decide (e.2<prevE es k)) && !(decide (findE e.1 es 0<k))
def vallE (es:List Ent):Bool:=(List.range es.length).all (vrE es)
theorem vallE_false {es:List Ent} {k:Nat} {b:Bool} (hk:k<es.length) (h:vrE es k=false):(vallE es && b)=false:=by
 have:vallE es=false:=by
  rw [vallE,List.all_eq_false]
  exact ⟨k,List.mem_range.2 hk,by simp [h]⟩
 simp [this]
theorem vallE_true {es:List Ent} (h:∀ j,j<es.length→vrE es j=true):vallE es=true:=by
 rw [vallE,List.all_eq_true]
 exact fun j hj=>h j (List.mem_range.1 hj)
def vriE (es:List Ent) (k:Nat):Bool :=
 match es[k]? with
 | none=>true
 | some e=>okE e && !(decide (0≤findE e.1 (es.take k) 0)) && !(decide (0<k) && decide (e.2<prevE es k))
def valliE (es:List Ent):Bool:=(List.range es.length).all (vriE es)
theorem valliE_false {es:List Ent} {k:Nat} {b:Bool} (hk:k<es.length) (h:vriE es k=false):(b && valliE es)=false:=by
 have:valliE es=false:=by
  rw [valliE,List.all_eq_false]
  exact ⟨k,List.mem_range.2 hk,by simp [h]⟩
 simp [this]
theorem valliE_true {es:List Ent} (h:∀ j,j<es.length→vriE es j=true):valliE es=true:=by
 rw [valliE,List.all_eq_true]
 exact fun j hj=>h j (List.mem_range.1 hj)
theorem findE_or (p:Int):∀ (es:List Ent) (j:Int),findE p es j = -1∨j≤findE p es j
 | [],_=>.inl rfl
 |x :: r,j=>by
  rw [findE]
  split
  ·exact .inr (Int.le_refl _)
  ·rcases findE_or p r (j+1) with h|h
   ·exact .inl h
   ·exact .inr (by omega)
theorem findE_lt (p:Int):∀ (es:List Ent) (k:Nat) (j:Int),0≤j→(∃ e,es[k]?=some e∧e.1=p)→(findE p es j<j+k ↔ j≤findE p (es.take k) j)
 | [],_,_,_,⟨_,h,_⟩=>by simp at h
 |x :: r,k,j,hj,⟨e,he,hp⟩=>by
  by_cases hx:x.1=p
  ·cases k with
   | zero=>simp [findE,hx];omega
   | succ k=>simp [findE,hx];omega
  ·cases k with
   | zero=>simp at he;subst he;exact absurd hp hx
   | succ k =>
    have ih:=findE_lt p r k (j+1) (by omega) ⟨e,by simpa using he,hp⟩
    have h1:=findE_or p (r.take k) (j+1)
    simp only [List.take_succ_cons,findE,if_neg hx]
    rw [show j+((k+1:Nat):Int)=j+1+k by omega,ih]
    omega
theorem vrE_vriE (es:List Ent) (k:Nat):vrE es k=vriE es k:=by
 unfold vrE vriE
 cases he:es[k]? with
 | none=>rfl
 | some e =>
  have h:=findE_lt e.1 es k 0 (Int.le_refl _) ⟨e,he,rfl⟩
  simp only [Int.zero_add] at h
  have h2:decide (findE e.1 es 0<(k:Int))=decide (0≤findE e.1 (es.take k) 0):=by rw [decide_eq_decide];exact h
  simp only [h2]
  cases okE e <;> cases decide (0≤findE e.1 (es.take k) 0) <;> simp
theorem vallE_eq (es:List Ent):vallE es=valliE es:=by
 unfold vallE valliE
 congr 1
 exact funext (vrE_vriE es)
def validE (es:List Ent):Bool:=decide ((es.length:Int)≤4) && valliE es
theorem validE_spec (es:List Ent):(vallE es && decide ((es.length:Int)≤4))=validE es:=by rw [vallE_eq,Bool.and_comm];rfl
def RdE (w:World) (A:Option Addr) (n:Nat) (es:List Ent):Prop :=
 es.length=n∧(0<n→∃ b off,A=some ⟨b,off,none⟩∧b<w.heap.size∧∀ k e,es[k]?=some e→w.cell? ⟨b,off+k * 2,none⟩=some (.int .i64 e.1)∧w.cell? ⟨b,off+k * 2+1,none⟩=some (.int .i64 e.2))
section
variable {w w':World} {A:Option Addr} {n:Nat} {es:List Ent}
theorem RdE.len (h:RdE w A n es):es.length=n:=h.1
theorem RdE.at_ (h:RdE w A n es) {k:Nat} (hk:k<n):∃ b off e,A=some ⟨b,off,none⟩∧b<w.heap.size∧es[k]?=some e∧w.cell? ⟨b,off+k * 2,none⟩=some (.int .i64 e.1)∧w.cell? ⟨b,off+k * 2+1,none⟩=some (.int .i64 e.2):=by
 obtain ⟨b,off,hA,hb,hc⟩:=h.2 (by omega)
 have hl:k<es.length:=by rw [h.1];exact hk
 exact ⟨b,off,es[k],hA,hb,List.getElem?_eq_getElem hl,hc k _ (List.getElem?_eq_getElem hl)⟩
theorem RdE.keep (h:RdE w A n es) (hs:w.heap.size≤w'.heap.size) (hk:∀ a:Addr,A=some a→∀ o,w'.cell? ⟨a.block,o,none⟩=w.cell? ⟨a.block,o,none⟩):RdE w' A n es:=by
 refine ⟨h.1,fun hn=>?_⟩
 obtain ⟨b,off,hA,hb,hc⟩:=h.2 hn
 exact ⟨b,off,hA,by omega,fun k e he=>by rw [hk _ hA,hk _ hA];exact hc k e he⟩
theorem RdE.below (h:RdE w A n es) (hb:Below w.heap.size w w'):RdE w' A n es:=by
 refine ⟨h.1,fun hn=>?_⟩
 obtain ⟨b,off,hA,hlt,hc⟩:=h.2 hn
 exact ⟨b,off,hA,Nat.lt_of_lt_of_le hlt hb.size,fun k e he=>by rw [(bcell hb).1 _ _ hlt,(bcell hb).1 _ _ hlt];exact hc k e he⟩
theorem RdE.take (h:RdE w A n es) {k:Nat} (hk:k≤n):RdE w A k (es.take k):=by
 refine ⟨by rw [List.length_take,h.1];omega,fun hn=>?_⟩
 obtain ⟨b,off,hA,hlt,hc⟩:=h.2 (by omega)
 exact ⟨b,off,hA,hlt,fun j e he=>hc j e (by
  rw [List.getElem?_take] at he
  split at he
  ·exact he
  ·cases he)⟩
end
theorem wpQuiet_imp {P:Program} {ops:Array Oper} {C:World→Prop} {Q Q':Act→Prop} (hQ:∀ a,Q a→Q' a):∀ (l:List Oper) (a:Act),wpQuiet P ops C Q l a→wpQuiet P ops C Q' l a
 | [],_,h=>hQ _ h
 |o :: l,a,h=>by
  unfold wpQuiet at h ⊢
  split
  ·rename_i hw
   rw [if_pos hw] at h
   exact Oper.quiet_mono (fun a ha=>wpQuiet_imp hQ l a ha) h
  ·rename_i hw
   rw [if_neg hw] at h
   exact wpQuiet_imp hQ l _ h
def Blk (w:World) (g T:Nat) (cs:Array Value):Prop:=w.heap[g]?=some (.cells cs T (0,0))
section
variable {w w':World} {g T:Nat} {cs:Array Value}
theorem Blk.lt (h:Blk w g T cs):g<w.heap.size:=(Array.getElem?_eq_some_iff.1 h).1
theorem Blk.cell (h:Blk w g T cs) (i:Nat):w.cell? ⟨g,i,none⟩=cs[i]?:=cell_of_row w g i cs T (0,0) h
theorem Blk.frozen (h:Blk w g T cs) (i:Nat):w.frozen? ⟨g,i,none⟩=false:=by
 unfold Blk at h
 simp [World.frozen?,h]
theorem Blk.new (w:World) (T:Nat) (cs:Array Value):Blk (w.alloc (.cells cs T)) w.heap.size T cs:=heap_alloc_new w _
theorem Blk.alloc (h:Blk w g T cs) (o:Obj):Blk (w.alloc o) g T cs:=(Below.heap_alloc w o g h.lt).trans h
theorem Blk.set_ (h:Blk w g T cs) (i:Nat) (u:Value):Blk (w.setCell ⟨g,i,none⟩ u) g T (cs.setIfInBounds i u):=by
 unfold Blk at h ⊢
 simp [World.setCell,Array.getElem?_modify,h]
theorem Blk.far (h:Blk w g T cs) {p:Addr} (hp:g≠p.block) (u:Value):Blk (w.setCell p u) g T cs:=(Below.heap_setCell w p u g hp).trans h
theorem Blk.next (h:Blk w g T cs) (hb:Below w.heap.size w w'):Blk w' g T cs:=(hb.block g h.lt).trans h
end
theorem wp_region_qb {P:Program} {id:Nat} {Q:Exit→Act→World→Prop} {a:Act} {w:World} {l:List Oper} (hm:P.follows .mixedOrders=true) (hB:Region.lexB .any l.toArray=true)
  (h:wpQuiet P l.toArray (fun w'=>∃ p:Regrown,w'=grow (redrawn w p.d) p.os) (fun a'=>∀ w',Below w.heap.size w w'→Q .normal a' w') l a):(Code.region id l.toArray true).wp P Q a w :=
 wp_region_quiet (C:=fun w'=>∃ p:Regrown,w'=grow (redrawn w p.d) p.os) hm hB ⟨⟨w.drawn+1,#[]⟩,by rw [grow_empty];rfl⟩ (by
  refine wpQuiet_imp ?_ _ _ (by simpa using h)
  rintro a' h' w' ⟨p,rfl⟩
  exact h' _ (below_regrown w p.d p.os))
end Go.Proofs.YtkgfmgajhgfgjaaGreatDoor

/-
  Lemmas and contracts: YGl YWm YWf. No condition.
-/
import Derived.Maps.OwnSet
import Derived.Maps.Views
import Derived.StringKeys
import Derived.Test.YtpcjdalgebgofaaGreatDoorKa11
import Derived.Test.YtpcjdalgebgofaaGreatDoorKa15
import Derived.Test.YtpcjdalgebgofaaGreatDoorKa16
set_option linter.unusedSimpArgs false
set_option linter.unusedVariables false
set_option linter.unusedSectionVars false
namespace Go.Proofs.YtpcjdalgebgofaaGreatDoorY
open Go.RowKit Go.Sort
def updB (l:Nat→Bool) (i:Nat):Nat→Bool:=fun j=>if j=i then true else l j
theorem updB_set {listed:Array Bool} {i:Nat} (h:i<listed.size):updB (fun j=>listed.getD j false) i=fun j=>(listed.setIfInBounds i true).getD j false:=by
 funext j
 unfold updB
 by_cases e:j=i
 ·subst e;rw [if_pos rfl,getD_set_self h]
 ·rw [if_neg e,getD_set_other (fun h=>e h.symm)]
section
variable {P:Program} {ops:Array Oper} {Q:Exit→Act→World→Prop}
theorem wpAny_growl {n:Nat} (ht:topoB ops=true) (hs:Region.sinkB .any ops n=true) (hc:Region.chainB .any ops n=true) (hn:n<ops.size)
  (hq:Region.lexHead .any ops (ops.size - n) n 0 (Array.replicate ops.size false)=true)
  (G:World→World→Prop) (J:(Nat→Bool)→World→Prop) (φ:Nat→Value→World→Prop) (mk:(Nat→Value)→Act)
  (mono:∀ i v w w',G w w'→φ i v w→φ i v w')
  (step:∀ (lq:Nat→Bool) (s:Nat→Value) (w:World) (i:Nat) (o:Oper),lq i=false→i<n→ops[i]?=some o→J lq w→(∀ j,waits o j=true→j<n→lq j=true∧φ j (s j) w) →
   ∀ K:Act→World→Prop,(∀ v w',G w w'→J (updB lq i) w'→φ i v w'→K (mk (updV s i v)) w')→if Region.wanted o (yielded ops (mk s).tmps)=true then Oper.wp P o (mk s) w K Q else K ((mk s).put o.dst undef) w)
  (tail:∀ (s:Nat→Value) (w:World),(∃ lq,(∀ j,j<n→lq j=true)∧J lq w)→(∀ j,j<n→φ j (s j) w)→wpList P ops Q (ops.toList.drop n) (mk s) w) :
  ∀ (f m:Nat) (listed:Array Bool) (s:Nat→Value) (w:World),HeadInv .any ops n listed→left_ n listed=f→m+f=n→J (fun j=>listed.getD j false) w→(∀ j,j<n→listed.getD j false=true→φ j (s j) w) →
   wpAny P .any ops Q (f+(ops.size - n)) listed (mk s) w:=by
 intro f
 induction f with
 | zero =>
  intro m listed s w inv hl hm hJ hφ
  have hall:=left_zero hl
  rw [Nat.zero_add]
  have hseq:Region.seqB .any ops (ops.size - n) n listed=true:=by
   have:=seq_of_head (ops:=ops) (g:=ops.size - n) n 0 (Array.replicate ops.size false) listed hq (by simp;omega) (by simpa using inv.size) (fun j _ h=>hall j (by omega)) (fun j h=>by
    by_cases hj:j<ops.size
    ·rw [inv.tail j (by omega) hj]
     simp [Array.getD_eq_getD_getElem?,hj]
    ·have h3:listed.size≤j:=by rw [inv.size];omega
     simp [Array.getD_eq_getD_getElem?,Array.getElem?_eq_none h3,hj])
   simpa using this
  have hlen:(ops.toList.drop n).length=ops.size - n:=by simp
  have:=wpAny_of_seq (md:=.any) (Q':=Q) (P:=P) (ops:=ops) (ops.toList.drop n) n listed (mk s) w (fun j=>by simp [List.getElem?_drop]) (by rw [hlen];exact hseq) (tail s w ⟨_,fun j hj=>by
   have:=hall j hj
   have hjs:j<listed.size:=by rw [inv.size];omega
   rw [getD_any hjs false true]
   exact this,hJ⟩ (fun j hj=>hφ j hj (by
   have:=hall j hj
   have hjs:j<listed.size:=by rw [inv.size];omega
   rw [getD_any hjs false true]
   exact this)))
  rwa [hlen] at this
 | succ f ih =>
  intro m listed s w inv hl hm hJ hφ
  have hsz:=inv.size
  have hex:∃ i,i<n∧listed.getD i true=false:=by
   apply Classical.byContradiction
   intro hno
   have h0:left_ n listed=0:=by
    unfold left_
    rw [List.countP_eq_zero]
    intro j hj
    have hjn:=List.mem_range.1 hj
    cases h:listed.getD j true with
    | true=>simp
    | false=>exact absurd ⟨j,hjn,h⟩ hno
   omega
  obtain ⟨i0,hi0,hu0⟩:=hex
  rw [show f+1+(ops.size - n)=(f+(ops.size - n))+1 by omega]
  refine ⟨fun hr=>?_,fun i hi=>?_⟩
  ·have:=ready_nil_all ht hr i0 (by omega)
   rw [hu0] at this
   cases this
  ·have hin:i<n:=by
    by_cases h:i<n
    ·exact h
    ·exact absurd hi (tail_waits hs hc hn inv _ i0 rfl hi0 hu0 i (by omega))
   obtain ⟨h1,o,h2,h3⟩:=mem_ready.1 hi
   refine wpOp_step h2 fun K' hK=>?_
   refine step _ s w i o (by rw [getD_any (by rw [hsz];omega) false true];exact h1) hin h2 hJ (fun j hw hj=>?_) K' (fun v w' hG hJ' hv=>hK _ _ ?_)
   ·unfold waits at hw
    obtain ⟨e,he,hb⟩:=Array.any_eq_true'.1 hw
    simp only [Bool.and_eq_true,beq_iff_eq] at hb
    have:=h3 e he hb.1
    rw [hb.2] at this
    exact ⟨this,hφ j hj this⟩
   ·refine ih (m+1) _ (updV s i v) w' (inv.set hi hin) ?_ (by omega) (by rw [updB_set (by rw [hsz];omega)] at hJ';exact hJ') (fun j hj hlj=>?_)
    ·have:=left_set n i listed (by omega) hin h1
     omega
    ·unfold updV
     by_cases e:j=i
     ·subst e;rw [if_pos rfl];exact hv
     ·rw [if_neg e]
      rw [getD_set_other (fun h=>e h.symm)] at hlj
      exact mono _ _ _ _ hG (hφ j hj hlj)
theorem wp_region_growl {id:Nat} {w:World} {l:List Oper} (n:Nat) (hm:P.follows .mixedOrders=true) (ht:topoB l.toArray=true) (hB:Region.lexTailB .any l.toArray n=true)
  (G:World→World→Prop) (J:(Nat→Bool)→World→Prop) (φ:Nat→Value→World→Prop) (mk:(Nat→Value)→Act) (s0:Nat→Value)
  (mono:∀ i v w w',G w w'→φ i v w→φ i v w')
  (start:J (fun _=>false) w.drew)
  (step:∀ (lq:Nat→Bool) (s:Nat→Value) (w:World) (i:Nat) (o:Oper),lq i=false→i<n→l[i]?=some o→J lq w→(∀ j,waits o j=true→j<n→lq j=true∧φ j (s j) w) →
   ∀ K:Act→World→Prop,(∀ v w',G w w'→J (updB lq i) w'→φ i v w'→K (mk (updV s i v)) w')→if Region.wanted o (yielded l.toArray (mk s).tmps)=true then Oper.wp P o (mk s) w K Q else K ((mk s).put o.dst undef) w)
  (tail:∀ (s:Nat→Value) (w:World),(∃ lq,(∀ j,j<n→lq j=true)∧J lq w)→(∀ j,j<n→φ j (s j) w)→wpList P l.toArray Q (l.drop n) (mk s) w) :
  (Code.region id l.toArray true).wp P Q (mk s0) w:=by
 simp only [Region.lexTailB,Bool.and_eq_true,decide_eq_true_eq] at hB
 obtain ⟨⟨⟨⟨hsel,hn⟩,hs⟩,hc⟩,hlex⟩:=hB
 refine wp_region_any hm ?_
 have inv0:HeadInv .any l.toArray n (Array.replicate l.toArray.size false):=by
  refine ⟨by simp,fun j oj _ hl=>?_,fun t _ hts=>getD_in (by simpa using hts) (getD_replicate_false _ _)⟩
  rw [getD_replicate_false] at hl
  cases hl
 have hl0:left_ n (Array.replicate l.toArray.size false)=n:=by
  unfold left_
  have:(List.range n).countP (fun i=>!(Array.replicate l.toArray.size false).getD i true)=(List.range n).countP (fun _=>true):=by
   apply List.countP_congr
   intro j hj
   have:=List.mem_range.1 hj
   simp [Array.getD_eq_getD_getElem?,show j<l.length by simp at hn;omega]
  rw [this]
  simp
 have H:=wpAny_growl (P:=P) (Q:=Q) ht hs hc hn hlex G J φ mk mono (fun m s w i o a b c=>step m s w i o a b (by simpa using c)) (fun s w a b=>by simpa using tail s w a b) n 0 _ s0 w.drew inv0 hl0 (by omega) (by rw [show (fun j=>(Array.replicate l.toArray.size false).getD j false)=fun _=>false from funext fun j=>getD_replicate_false _ _];exact start) (fun j _ h=>by rw [getD_replicate_false] at h;cases h)
 rw [show n+(l.toArray.size - n)=l.toArray.size by omega] at H
 exact H
end
end Go.Proofs.YtpcjdalgebgofaaGreatDoorY
namespace Go.Proofs.YtpcjdalgebgofaaGreatDoorY
open Go Go.RowKit Go.Sort Go.Maps Go.ChangeMaps
def boolR (v:Value):Option (DataW Unit × List MemPlace) :=
 match v with
 | .bool x=>some (.lit (.bool x),[])
 | _=>none
theorem boolR_inv {v:Value} {d:DataW Unit} {ps:List MemPlace} (h:boolR v=some (d,ps)):∃ x,v=.bool x∧d=.lit (.bool x):=by
 unfold boolR at h
 split at h
 ·cases h;exact ⟨_,rfl,rfl⟩
 ·cases h
def brakeS:ByteArray:=⟨#[98,114,97,107,101]⟩
def pauseS:ByteArray:=⟨#[112,97,117,115,101]⟩
def kBrake:Lit:=.string [98,114,97,107,101]
def kPause:Lit:=.string [112,97,117,115,101]
theorem kne:kPause≠kBrake:=by
 intro h
 simp [kPause,kBrake] at h
def Dm (bb bp f3 f6:Bool):DataW Unit :=
 let d:=if f3 then (DataW.map []).put kBrake (.lit (.bool bb)) else .map []
 if f6 then d.put kPause (.lit (.bool bp)) else d
theorem Dm_brake (bb bp f6:Bool):(Dm bb bp false f6).put kBrake (.lit (.bool bb))=Dm bb bp true f6:=by cases f6 <;> rfl
theorem Dm_pause (bb bp f3:Bool):(Dm bb bp f3 false).put kPause (.lit (.bool bp))=Dm bb bp f3 true:=rfl
theorem Dm_at_brake (bb bp:Bool) (z:DataW Unit):(Dm bb bp true true).atKey kBrake z=.lit (.bool bb):=by
 show (((DataW.map []).put kBrake (.lit (.bool bb))).put kPause (.lit (.bool bp))).atKey kBrake z=_
 rw [Maps.atKey_put_other kne.symm,Maps.atKey_put_same Maps.isMap_empty (show WideAt.IsKeyLit kBrake from trivial)]
theorem Dm_at_pause (bb bp:Bool) (z:DataW Unit):(Dm bb bp true true).atKey kPause z=.lit (.bool bp):=by
 show (((DataW.map []).put kBrake (.lit (.bool bb))).put kPause (.lit (.bool bp))).atKey kPause z=_
 rw [Maps.atKey_put_same (Maps.isMap_empty.put _ _) (show WideAt.IsKeyLit kPause from trivial)]
def isMapAt (w:World) (g:Nat):Prop:=∃ es c,w.heap[g]?=some (.map es c)
theorem isMapAt.alloc {w:World} {g:Nat} (h:isMapAt w g) (o:Obj):isMapAt (w.alloc o) g:=by
 obtain ⟨es,c,h⟩:=h
 exact ⟨es,c,by rw [(MapKept.heap_alloc w o).2 g (Array.getElem?_eq_some_iff.1 h).1];exact h⟩
theorem isMapAt.of_alloc {w:World} {g:Nat} {o:Obj} (h:isMapAt (w.alloc o) g):isMapAt w g∨g=w.heap.size∧∃ es c,o=.map es c:=by
 obtain ⟨es,c,h⟩:=h
 rw [show (w.alloc o).heap=w.heap.push o from rfl,Array.getElem?_push] at h
 split at h
 ·rename_i e
  cases h
  exact .inr ⟨e,es,c,rfl⟩
 ·exact .inl ⟨es,c,h⟩
theorem isMapAt.turned {w w':World} {b g:Nat} (ht:w.mapTurned w' b):isMapAt w' g ↔ isMapAt w g:=by
 obtain ⟨es,c,es',c',hb,rfl⟩:=ht
 have hlt:=(Array.getElem?_eq_some_iff.1 hb).1
 unfold isMapAt
 by_cases e:g=b
 ·subst e
  exact ⟨fun _=>⟨es,c,hb⟩,fun _=>⟨es',c',heap_setBlock_same hb _⟩⟩
 ·rw [show (setBlock w b (.map es' c')).heap[g]?=w.heap[g]? from heap_setBlock_other hb _ e]
theorem below_turned {B b:Nat} {W w w':World} (h:Below B W w) (ht:w.mapTurned w' b) (hb:B≤b) (hz:B≤w.heap.size):Below B W w':=by
 have hg:=ht.grown
 exact h.trans ⟨hg.os,hg.tape,hg.output,hg.size,fun k hk=>hg.block k (Nat.lt_of_lt_of_le hk hz) (by intro e;injection e;omega)⟩
section
variable {P:Program} {K:TypeId}
structure OneMap (P:Program) (K:TypeId) (W:World) (bb bp f0 f3 f6:Bool) (w:World):Prop where
 none:f0=false→f3=false∧f6=false∧∀ g,W.heap.size≤g→¬ isMapAt w g
 one:f0=true→∃ g,W.heap.size≤g∧w.ownsMap P K boolR g (f3.toNat+f6.toNat) (Dm bb bp f3 f6)∧∀ g',W.heap.size≤g'→isMapAt w g'→g'=g
theorem OneMap.start (W:World) (bb bp:Bool):OneMap P K W bb bp false false false W :=
 ⟨fun _=>⟨rfl,rfl,fun g hg ⟨es,c,h⟩=>by have:=(Array.getElem?_eq_some_iff.1 h).1;omega⟩,fun h=>by cases h⟩
theorem OneMap.start' (W:World) (bb bp:Bool):OneMap P K W bb bp false false false W.drew :=
 ⟨fun _=>⟨rfl,rfl,fun g hg ⟨es,c,h⟩=>by have h:W.heap[g]?=some (.map es c):=h;have:=(Array.getElem?_eq_some_iff.1 h).1;omega⟩,fun h=>by cases h⟩
theorem OneMap.alloc {W w:World} {bb bp f0 f3 f6:Bool} (h:OneMap P K W bb bp f0 f3 f6 w) (cs:Array Value) (t:TypeId):OneMap P K W bb bp f0 f3 f6 (w.alloc (.cells cs t)):=by
 have back:∀ g,isMapAt (w.alloc (.cells cs t)) g→isMapAt w g:=fun g hg=>by
  rcases hg.of_alloc with hg|⟨_,_,_,e⟩
  ·exact hg
  ·cases e
 refine ⟨fun h0=>⟨(h.none h0).1,(h.none h0).2.1,fun g hg hm=>(h.none h0).2.2 g hg (back g hm)⟩,fun h0=>?_⟩
 obtain ⟨g,h1,h2,h3⟩:=h.one h0
 exact ⟨g,h1,h2.alloc _,fun g' hg hm=>h3 g' hg (back g' hm)⟩
theorem OneMap.make {W w:World} {bb bp f3 f6:Bool} (h:OneMap P K W bb bp false f3 f6 w) (hz:W.heap.size≤w.heap.size):OneMap P K W bb bp true f3 f6 (w.alloc (.map #[] 0)):=by
 obtain ⟨rfl,rfl,hno⟩:=h.none rfl
 refine ⟨fun h=>by (cases h),fun _=>⟨w.heap.size,hz,World.ownsMap_made w P K boolR,fun g' hg hm=>?_⟩⟩
 rcases hm.of_alloc with hg'|⟨e,_⟩
 ·exact absurd hg' (hno g' hg)
 ·exact e
theorem OneMap.the {W w:World} {bb bp f3 f6:Bool} (h:OneMap P K W bb bp true f3 f6 w) {g:Nat} (hg:W.heap.size≤g) (hm:isMapAt w g):w.ownsMap P K boolR g (f3.toNat+f6.toNat) (Dm bb bp f3 f6):=by
 obtain ⟨g',h1,h2,h3⟩:=h.one rfl
 rw [h3 g hg hm]
 exact h2
theorem OneMap.put3 {W w w':World} {bb bp f6:Bool} (h:OneMap P K W bb bp true false f6 w) {g:Nat} (hg:W.heap.size≤g) (hm:isMapAt w g) (ht:w.mapTurned w' g) (ho:w'.ownsMap P K boolR g (false.toNat+f6.toNat+1) ((Dm bb bp false f6).put kBrake (.lit (.bool bb)))):OneMap P K W bb bp true true f6 w':=by
 obtain ⟨g',h1,h2,h3⟩:=h.one rfl
 have e:g=g':=h3 g hg hm
 refine ⟨fun h=>by (cases h),fun _=>⟨g,hg,?_,fun g2 hg2 hm2=>by rw [e];exact h3 g2 hg2 ((isMapAt.turned ht).1 hm2)⟩⟩
 rw [Dm_brake] at ho
 rw [show true.toNat+f6.toNat=false.toNat+f6.toNat+1 by simp;omega]
 exact ho
theorem OneMap.put6 {W w w':World} {bb bp f3:Bool} (h:OneMap P K W bb bp true f3 false w) {g:Nat} (hg:W.heap.size≤g) (hm:isMapAt w g) (ht:w.mapTurned w' g) (ho:w'.ownsMap P K boolR g (f3.toNat+false.toNat+1) ((Dm bb bp f3 false).put kPause (.lit (.bool bp)))):OneMap P K W bb bp true f3 true w':=by
 obtain ⟨g',h1,h2,h3⟩:=h.one rfl
 have e:g=g':=h3 g hg hm
 refine ⟨fun h=>by (cases h),fun _=>⟨g,hg,?_,fun g2 hg2 hm2=>by rw [e];exact h3 g2 hg2 ((isMapAt.turned ht).1 hm2)⟩⟩
 rw [Dm_pause] at ho
 rw [show f3.toNat+true.toNat=f3.toNat+false.toNat+1 by simp]
 exact ho
theorem look_brake {w:World} {g n T E:Nat} {bb bp:Bool} (h:w.ownsMap P K boolR g n (Dm bb bp true true)) (KY:Keyed P K) (hT:P.underlying T=some (.map K E)) (hz:(zeroValue E).run P w=.ok (.bool false) w) (hk:keyOf P K (.string brakeS)=some kBrake) :
  (Instr.lookup T (.map (some g)) (.string brakeS) false).run P w=.ok (.bool bb) w:=by
 obtain ⟨v,ps,hr,hv⟩:=h.lookup KY hT hz (zd:=.lit (.bool false)) (zp:=[]) rfl hk
 rw [Dm_at_brake] at hv
 obtain ⟨x,rfl,e⟩:=boolR_inv hv
 cases e
 exact hr
theorem look_pause {w:World} {g n T E:Nat} {bb bp:Bool} (h:w.ownsMap P K boolR g n (Dm bb bp true true)) (KY:Keyed P K) (hT:P.underlying T=some (.map K E)) (hz:(zeroValue E).run P w=.ok (.bool false) w) (hk:keyOf P K (.string pauseS)=some kPause) :
  (Instr.lookup T (.map (some g)) (.string pauseS) false).run P w=.ok (.bool bp) w:=by
 obtain ⟨v,ps,hr,hv⟩:=h.lookup KY hT hz (zd:=.lit (.bool false)) (zp:=[]) rfl hk
 rw [Dm_at_pause] at hv
 obtain ⟨x,rfl,e⟩:=boolR_inv hv
 cases e
 exact hr
theorem ownsMap_below {w w':World} {g n:Nat} {D:DataW Unit} (h:w.ownsMap P K boolR g n D) (hb:Below w.heap.size w w'):w'.ownsMap P K boolR g n D:=by
 have hlt:=h.lt
 obtain ⟨es,c,h1,r⟩:=h
 exact ⟨es,c,by rw [hb.block g hlt];exact h1,r⟩
end
end Go.Proofs.YtpcjdalgebgofaaGreatDoorY
namespace Go.Proofs.YtpcjdalgebgofaaGreatDoorY
open Go.RowKit Go.Sort Go.Maps
theorem bans_bits {b k:Int} (hb:0≤b∧b≤3) (hk:k=1∨k=2):(bits BinOp.and .i64 b k != 0)=bansW b k:=by
 obtain ⟨b0,b1⟩:=hb
 have hbb:b=0∨b=1∨b=2∨b=3:=by omega
 rcases hbb with rfl|rfl|rfl|rfl <;> rcases hk with rfl|rfl <;> decide +kernel
set_option maxRecDepth 100000 in
theorem bans_any (l:Lvl) (ws gs:Sl) (k:Int) (hb:0≤l.bans∧l.bans≤3) (hk:k=1∨k=2) (w:World) :
  Calls Qy.prog 116 #[lvlV l ws gs,.int .i64 k] w fun e w'=>e=.returned (.bool (bansW l.bans k))∧w'=w.alloc (.cells (lvlC l ws gs) 29):=by
 rw [← bans_bits hb hk]
 go_enter Qy.func116,Tryz.ntmps116
 go_wp2_with fail
 go_ret
 exact ⟨rfl,rfl⟩
theorem keyedS:Keyed Qy.prog 9:=string_keyed (Qy.un Tryz.underlying9)
theorem zeroB (w:World):(zeroValue 4).run Qy.prog w=.ok (.bool false) w:=by first|kernel_rfl|(simp only [Qy.zeroValue];kernel_rfl)
theorem keyBrake:keyOf Qy.prog 9 (.string brakeS)=some kBrake:=WideMaps.keyOf_string_mk (Qy.un Tryz.underlying9) (by decide)
theorem keyPause:keyOf Qy.prog 9 (.string pauseS)=some kPause:=WideMaps.keyOf_string_mk (Qy.un Tryz.underlying9) (by decide)
set_option maxRecDepth 100000 in
set_option maxHeartbeats 2000000 in
theorem forbidden_any (l:Lvl) (ws gs:Sl) (hb:0≤l.bans∧l.bans≤3) (w:World) :
  Calls Qy.prog 91 #[lvlV l ws gs] w fun e w'=>∃ g,e=.returned (.map (some g))∧w'.ownsMap Qy.prog 9 boolR g 2 (Dm (bansW l.bans 1) (bansW l.bans 2) true true)∧Below w.heap.size w w':=by
 have H1:=Lib.hid (fun w=>bans_any l ws gs 1 hb (.inl rfl) w)
 have H2:=Lib.hid (fun w=>bans_any l ws gs 2 hb (.inr rfl) w)
 clear hb
 go_enter Qy.func91,Tryz.ntmps91
 go_upto_region 1 with (fail)
 refine into_world (fun W=>Below w.heap.size w W∧Blk W w.heap.size 29 (lvlC l ws gs)) ⟨ba (Below.refl _ _),Blk.new _ _ _⟩ ?_
 rintro W ⟨HB,KL⟩
 replace HB:=Lib.hid HB
 replace KL:=Lib.hid KL
 refine wp_region_growl 8 (by kernel_rfl) (by kernel_rfl) (by kernel_rfl) (fun a b=>Below W.heap.size a b∧∀ g,isMapAt a g→isMapAt b g) (fun lq w'=>Below W.heap.size W w'∧OneMap Qy.prog 9 W (bansW l.bans 1) (bansW l.bans 2) (lq 0) (lq 3) (lq 6) w') (fun iq v w'=>match iq with|0=>(∃ g,v=.map (some g)∧W.heap.size≤g∧isMapAt w' g)|1=>(v=lvlV l ws gs)|2=>(v=.bool (bansW l.bans 1))|3=>(True)|4=>(v=lvlV l ws gs)|5=>(v=.bool (bansW l.bans 2))|6=>(True)|7=>(∃ g,v=.map (some g)∧W.heap.size≤g∧isMapAt w' g)|_=>True) (fun sq=>{ tmps:=#[lvlV l ws gs,Value.pointer (some (⟨w.heap.size,0,none⟩:Addr)),Value.map none,sq 0,sq 1,sq 2,sq 4,sq 5,sq 7],defers:=[] }) (fun _=>undef) ?_ ?_ ?_ ?_
 ·rintro iq v a b hg h
  match iq,h with
  | 0,h=>exact (by obtain ⟨g,rfl,h1,h2⟩:=h;exact ⟨g,rfl,h1,hg.2 g h2⟩)
  | 1,h=>exact h
  | 2,h=>exact h
  | 3,h=>exact h
  | 4,h=>exact h
  | 5,h=>exact h
  | 6,h=>exact h
  | 7,h=>exact (by obtain ⟨g,rfl,h1,h2⟩:=h;exact ⟨g,rfl,h1,hg.2 g h2⟩)
  | (kq+8),_=>exact trivial
 ·exact ⟨Below.drew (Below.refl _ _),OneMap.start' W _ _⟩
 ·intro lq sq w' iq oq hmq hiq hoq hJ hd Kq hK
  have hiq':iq=0∨iq=1∨iq=2∨iq=3∨iq=4∨iq=5∨iq=6∨iq=7:=by omega
  rcases hiq' with rfl|rfl|rfl|rfl|rfl|rfl|rfl|rfl
  ·cases (show some _=some oq from hoq)
   have hK':=hK
   simp only [updV,updB,Nat.reduceEqDiff,↓reduceIte] at hK'
   clear hK hd
   generalize sq 0=x0,sq 1=x1,sq 2=x2,sq 3=x3,sq 4=x4,sq 5=x5,sq 6=x6,sq 7=x7 at *
   have hz:=hJ.1.size
   have hmm:=@run_makeMap Qy.prog
   go_simp
   rw [hmq] at hJ
   exact hK' _ _ ⟨(Below.refl _ _).alloc hz _,fun g h=>h.alloc _⟩ ⟨hJ.1.alloc hz _,hJ.2.make hz⟩ ⟨_,rfl,hz,⟨_,_,(MapKept.heap_alloc _ _).1⟩⟩
  ·cases (show some _=some oq from hoq)
   have hK':=hK
   simp only [updV,updB,Nat.reduceEqDiff,↓reduceIte] at hK'
   clear hK hd
   generalize sq 0=x0,sq 1=x1,sq 2=x2,sq 3=x3,sq 4=x4,sq 5=x5,sq 6=x6,sq 7=x7 at *
   have hcc:=fun q=>(KL.out.next hJ.1).cell q
   go_simp
   exact hK' _ _ ⟨Below.refl _ _,fun _ h=>h⟩ hJ rfl
  ·cases (show some _=some oq from hoq)
   obtain ⟨e1,d1⟩:=hd 1 (by kernel_rfl) (by decide)
   have hK':=hK
   simp only [updV,updB,Nat.reduceEqDiff,↓reduceIte] at hK'
   clear hK hd
   generalize sq 0=x0,sq 1=x1,sq 2=x2,sq 3=x3,sq 4=x4,sq 5=x5,sq 6=x6,sq 7=x7 at *
   obtain rfl:=d1
   have hz:=hJ.1.size
   go_simp
   refine (H1.out _).mono ?_
   rintro e w2 ⟨rfl,rfl⟩
   exact hK' _ _ ⟨(Below.refl _ _).alloc hz _,fun g h=>h.alloc _⟩ ⟨hJ.1.alloc hz _,hJ.2.alloc _ _⟩ rfl
  ·cases (show some _=some oq from hoq)
   obtain ⟨e0,d0⟩:=hd 0 (by kernel_rfl) (by decide)
   obtain ⟨e2,d2⟩:=hd 2 (by kernel_rfl) (by decide)
   have hK':=hK
   simp only [updV,updB,Nat.reduceEqDiff,↓reduceIte] at hK'
   clear hK hd
   generalize sq 0=x0,sq 1=x1,sq 2=x2,sq 3=x3,sq 4=x4,sq 5=x5,sq 6=x6,sq 7=x7 at *
   obtain ⟨g,rfl,hg,hm⟩:=d0
   obtain rfl:=d2
   have hz:=hJ.1.size
   rw [e0,hmq] at hJ
   obtain ⟨w2,hr,ho,ht⟩:=(hJ.2.the hg hm).store keyedS (Qy.un Tryz.underlying124) (by unfold maxLen;cases lq 6 <;> decide) keyBrake (val:=.bool (bansW l.bans 1)) (d:=.lit (.bool (bansW l.bans 1))) (ps:=[]) rfl
   unfold brakeS at hr
   go_simp
   exact hK' undef _ ⟨below_turned (Below.refl _ _) ht hg hz,fun g' h=>(isMapAt.turned ht).2 h⟩ ⟨below_turned hJ.1 ht hg hz,by rw [e0];exact hJ.2.put3 hg hm ht ho⟩ trivial
  ·cases (show some _=some oq from hoq)
   have hK':=hK
   simp only [updV,updB,Nat.reduceEqDiff,↓reduceIte] at hK'
   clear hK hd
   generalize sq 0=x0,sq 1=x1,sq 2=x2,sq 3=x3,sq 4=x4,sq 5=x5,sq 6=x6,sq 7=x7 at *
   have hcc:=fun q=>(KL.out.next hJ.1).cell q
   go_simp
   exact hK' _ _ ⟨Below.refl _ _,fun _ h=>h⟩ hJ rfl
  ·cases (show some _=some oq from hoq)
   obtain ⟨e4,d4⟩:=hd 4 (by kernel_rfl) (by decide)
   have hK':=hK
   simp only [updV,updB,Nat.reduceEqDiff,↓reduceIte] at hK'
   clear hK hd
   generalize sq 0=x0,sq 1=x1,sq 2=x2,sq 3=x3,sq 4=x4,sq 5=x5,sq 6=x6,sq 7=x7 at *
   obtain rfl:=d4
   have hz:=hJ.1.size
   go_simp
   refine (H2.out _).mono ?_
   rintro e w2 ⟨rfl,rfl⟩
   exact hK' _ _ ⟨(Below.refl _ _).alloc hz _,fun g h=>h.alloc _⟩ ⟨hJ.1.alloc hz _,hJ.2.alloc _ _⟩ rfl
  ·cases (show some _=some oq from hoq)
   obtain ⟨e0,d0⟩:=hd 0 (by kernel_rfl) (by decide)
   obtain ⟨e5,d5⟩:=hd 5 (by kernel_rfl) (by decide)
   have hK':=hK
   simp only [updV,updB,Nat.reduceEqDiff,↓reduceIte] at hK'
   clear hK hd
   generalize sq 0=x0,sq 1=x1,sq 2=x2,sq 3=x3,sq 4=x4,sq 5=x5,sq 6=x6,sq 7=x7 at *
   obtain ⟨g,rfl,hg,hm⟩:=d0
   obtain rfl:=d5
   have hz:=hJ.1.size
   rw [e0,hmq] at hJ
   obtain ⟨w2,hr,ho,ht⟩:=(hJ.2.the hg hm).store keyedS (Qy.un Tryz.underlying124) (by unfold maxLen;cases lq 3 <;> decide) keyPause (val:=.bool (bansW l.bans 2)) (d:=.lit (.bool (bansW l.bans 2))) (ps:=[]) rfl
   unfold pauseS at hr
   go_simp
   exact hK' undef _ ⟨below_turned (Below.refl _ _) ht hg hz,fun g' h=>(isMapAt.turned ht).2 h⟩ ⟨below_turned hJ.1 ht hg hz,by rw [e0];exact hJ.2.put6 hg hm ht ho⟩ trivial
  ·cases (show some _=some oq from hoq)
   obtain ⟨e0,d0⟩:=hd 0 (by kernel_rfl) (by decide)
   have hK':=hK
   simp only [updV,updB,Nat.reduceEqDiff,↓reduceIte] at hK'
   clear hK hd
   generalize sq 0=x0,sq 1=x1,sq 2=x2,sq 3=x3,sq 4=x4,sq 5=x5,sq 6=x6,sq 7=x7 at *
   obtain ⟨g,rfl,hg,hm⟩:=d0
   go_simp
   exact hK' _ _ ⟨Below.refl _ _,fun _ h=>h⟩ hJ ⟨g,rfl,hg,hm⟩
 ·intro sq w' hJ hφ
  simp only [List.drop_succ_cons,List.drop_zero]
  have d7:=hφ 7 (by decide)
  clear hφ
  generalize sq 0=x0,sq 1=x1,sq 2=x2,sq 3=x3,sq 4=x4,sq 5=x5,sq 6=x6,sq 7=x7 at *
  obtain ⟨g,rfl,hg,hm⟩:=d7
  obtain ⟨lq,hl,hb,hO⟩:=hJ
  rw [hl 0 (by decide),hl 3 (by decide),hl 6 (by decide)] at hO
  have ho:=hO.the hg hm
  have HO:=Lib.hid ho
  have HB2:=Lib.hid (below_next HB.out hb)
  clear hb hO ho hm
  go_wp2
  go_ret
  exact ⟨g,rfl,HO.out,HB2.out⟩
set_option maxRecDepth 100000 in
set_option maxHeartbeats 4000000 in
theorem follows_any (l:Lvl) (ws gs:Sl) (b x:Inp) (hb:0≤l.bans∧l.bans≤3) (w:World) :
  Calls Qy.prog 51 #[lvlV l ws gs,.int .i64 b.s,inV x] w fun e w'=>e=.returned (.bool (followsW l b x))∧Below w.heap.size w w':=by
 have H1:=Lib.hid (fun w=>forbidden_any l ws gs hb w)
 clear hb
 obtain ⟨xs,xp,xz⟩:=x
 obtain ⟨bs,bp,bz⟩:=b
 go_enter Qy.func51,Tryz.ntmps51
 go_wp2_with fail
 refine (H1.out _).mono ?_
 rintro e w1 ⟨g,rfl,ho,hb⟩
 have KX:=Lib.hid ((Blk.newAt _ 74 #[.int .i64 xs,.int .i64 xp,.bool xz] (w.heap.size+1) (by simp)).next hb)
 have HB:=Lib.hid (ba (ba hb))
 have HO:=Lib.hid ho
 clear hb ho
 have cx:=fun o=>KX.out.cell o
 have fx:=fun o=>KX.out.frozen o
 have zx:=KX.out.lt
 go_wp2_with fail
 refine (implInputValid_any ⟨xs,xp,xz⟩ _).mono ?_
 rintro e w2 ⟨rfl,hb⟩
 have HO2:=Lib.hid (ownsMap_below HO.out hb)
 replace KX:=Lib.hid (KX.out.next hb)
 replace HB:=Lib.hid (below_next HB.out hb)
 clear hb cx fx zx HO
 have cx:=fun o=>KX.out.cell o
 have fx:=fun o=>KX.out.frozen o
 have zx:=KX.out.lt
 have hB:=look_brake HO2.out keyedS (Qy.un Tryz.underlying124) (zeroB _) keyBrake
 have hP:=look_pause HO2.out keyedS (Qy.un Tryz.underlying124) (zeroB _) keyPause
 unfold brakeS at hB
 unfold pauseS at hP
 cases hv:inOk ⟨xs,xp,xz⟩
 ·go_wp2_with fail
  go_ret
  exact ⟨ret_bool (by simp [followsW,hv]),HB.out⟩
 have HV:=Lib.hid hv
 clear hv
 cases xz
 ·by_cases hp:xp=2
  ·subst hp
   cases h1:bansW l.bans 1
   ·rw [h1] at hB
    go_wp2_with fail
    refine (inRange_any _ _ _ _).mono ?_
    rintro e w' ⟨rfl,rfl⟩
    go_wp2_with fail
    go_ret
    exact ⟨ret_bool (by simp [followsW,HV.out,h1]),HB.out⟩
   ·rw [h1] at hB
    go_wp2_with fail
    go_ret
    exact ⟨ret_bool (by simp [followsW,h1]),HB.out⟩
  ·have hp':(xp == 2)=false:=by simpa using hp
   have HP:=Lib.hid hp
   clear hp
   go_wp2_with fail
   refine (inRange_any _ _ _ _).mono ?_
   rintro e w' ⟨rfl,rfl⟩
   go_wp2_with fail
   go_ret
   exact ⟨ret_bool (by simp [followsW,HV.out,HP.out]),HB.out⟩
 ·cases h2:bansW l.bans 2
  ·rw [h2] at hP
   by_cases hp:xp=2
   ·subst hp
    cases h1:bansW l.bans 1
    ·rw [h1] at hB
     go_wp2_with fail
     refine (inRange_any _ _ _ _).mono ?_
     rintro e w' ⟨rfl,rfl⟩
     go_wp2_with fail
     go_ret
     exact ⟨ret_bool (by simp [followsW,HV.out,h1,h2]),HB.out⟩
    ·rw [h1] at hB
     go_wp2_with fail
     go_ret
     exact ⟨ret_bool (by simp [followsW,h1]),HB.out⟩
   ·have hp':(xp == 2)=false:=by simpa using hp
    have HP:=Lib.hid hp
    clear hp
    go_wp2_with fail
    refine (inRange_any _ _ _ _).mono ?_
    rintro e w' ⟨rfl,rfl⟩
    go_wp2_with fail
    go_ret
    exact ⟨ret_bool (by simp [followsW,HV.out,HP.out,h2]),HB.out⟩
  ·rw [h2] at hP
   go_wp2_with fail
   go_ret
   exact ⟨ret_bool (by simp [followsW,h2]),HB.out⟩
end Go.Proofs.YtpcjdalgebgofaaGreatDoorY

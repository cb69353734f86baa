/-
  Lemmas and contracts: Lw In Ins Lc. No condition.
-/
import Derived.RangeFuncNested
import Derived.RangeFuncBound
import Derived.RangeFuncCalls
import Derived.RangeFuncLeaves
import Derived.Shelf.Abstract
import Derived.Shelf.RegionOpen
import Derived.OwnWalkIn
import Derived.TacticsInMore
import Derived.LoopNIn
import Derived.LoopIn
import Derived.Laws.CopyRow
import Derived.Lib.AppendZerosOnto
import Derived.Lib.Overlaps
import Derived.Laws.Externs
import Derived.StillTailTactics
import Derived.Test.YtkgfmgajhgfgjaaGreatDoorKa3
import Derived.Test.YtkgfmgajhgfgjaaGreatDoorKa4
import Derived.Test.YtkgfmgajhgfgjaaGreatDoorKa7
set_option linter.unusedSimpArgs false
set_option linter.unusedVariables false
set_option linter.unusedSectionVars false
namespace Go.Proofs.YtkgfmgajhgfgjaaGreatDoor
open Go.RowKit Go.Sort Go.Shelf
attribute [local go_sem] Oper.semAt_some
structure KX (f m:Nat) (a b:World):Prop where
 os:b.os=a.os
 tape:b.tape=a.tape
 output:b.output=a.output
 size:a.heap.size≤b.heap.size
 block:∀ i,i<m→i≠f→b.heap[i]?=a.heap[i]?
section
variable {f m:Nat} {a b c:World}
theorem KX.refl (f m:Nat) (w:World):KX f m w w:=⟨rfl,rfl,rfl,Nat.le_refl _,fun _ _ _=>rfl⟩
theorem KX.trans (h:KX f m a b) (k:KX f m b c):KX f m a c:=⟨k.os.trans h.os,k.tape.trans h.tape,k.output.trans h.output,Nat.le_trans h.size k.size,fun i h1 h2=>(k.block i h1 h2).trans (h.block i h1 h2)⟩
theorem KX.of_below (h:Below m a b) (f:Nat):KX f m a b:=⟨h.os,h.tape,h.output,h.size,fun i h1 _=>h.block i h1⟩
theorem KX.grown {row:Nat} (h:a.grownBy b (some row)) (hm:m≤a.heap.size) (hr:row=f∨m≤row):KX f m a b:=⟨h.os,h.tape,h.output,h.size,fun i h1 h2=>h.block i (by omega) (by intro e;injection e with e;omega)⟩
theorem KX.putObj {w:World} (hm:m≤w.heap.size) (W:World) (l:Nat) (o o':Obj) (hl:w.heap.size≤l) (h:W.heap[l]?=some o) (_:o.isCells=false) (_:o.isWalk=false):KX f m W (W.putObj l o') :=
 KX.grown (grownBy_putObj' W l o') (by have:=(Array.getElem?_eq_some_iff.1 h).1;omega) (.inr (by omega))
theorem KX.set_ {W:World} (m:Nat) (u:Value):KX f m W (W.setCell ⟨f,0,none⟩ u) :=
 ⟨rfl,rfl,rfl,by simp,fun i _ h2=>Below.heap_setCell W ⟨f,0,none⟩ u i h2⟩
theorem Blk.kx {g T:Nat} {cs:Array Value} (hb:Blk a g T cs) (h:KX f m a b) (hg:g<m) (hf:g≠f):Blk b g T cs:=(h.block g hg hf).trans hb
theorem Blk.grownBy {g T:Nat} {cs:Array Value} (hb:Blk a g T cs) {row:Option Nat} (h:a.grownBy b row) (hr:∀ r,row=some r→∃ o:Obj,a.heap[r]?=some o∧o.isCells=false):Blk b g T cs:=by
 refine (h.block g hb.lt ?_).trans hb
 intro e
 obtain ⟨o,ho,hc⟩:=hr g e.symm
 have hb':=hb
 unfold Blk at hb'
 rw [hb'] at ho
 injection ho with ho
 subst ho
 cases hc
end
def Lnk (w:World):Option Addr→List Bx→Prop
 | p,[]=>p=none
 | p,b :: r=>∃ g q,p=some ⟨g,0,none⟩∧Blk w g 247 #[.int .i64 b.1,.int .i64 b.2.1,.int .i64 b.2.2.1,.int .i64 b.2.2.2,.pointer q]∧Lnk w q r
theorem Lnk.keep {w w':World} (hk:∀ g cs,Blk w g 247 cs→Blk w' g 247 cs):∀ {p:Option Addr} {bs:List Bx},Lnk w p bs→Lnk w' p bs
 | _,[],h=>h
 | _,_ :: _,⟨g,q,hp,hb,hr⟩=>⟨g,q,hp,hk g _ hb,Lnk.keep hk hr⟩
def upto {α:Type} (f:Nat→α) (k:Nat):List α:=(List.range k).map f
theorem upto_succ {α:Type} (f:Nat→α) (k:Nat):upto f (k+1)=upto f k ++ [f k]:=by simp [upto,List.range_succ]
theorem upto_length {α:Type} (f:Nat→α) (k:Nat):(upto f k).length=k:=by simp [upto]
def backE (bs:List Bx) (k:Nat):Nat × Bx:=(bs.length - 1 - k,bs[bs.length - 1 - k]?.getD (0,0,0,0))
theorem back_all (bs:List Bx):((upto (backE bs) bs.length).map (·.2)).reverse=bs:=by
 apply List.ext_getElem
 ·simp [upto]
 ·intro i h1 h2
  simp [upto,backE]
  have h3:bs.length - 1 - (bs.length - 1 - i)=i:=by omega
  simp [h3,h2]
abbrev encsB (x:Nat × Bx):Array Value:=#[.int .i64 (x.1:Int),.agg #[.int .i64 x.2.1,.int .i64 x.2.2.1,.int .i64 x.2.2.2.1,.int .i64 x.2.2.2.2]]
set_option maxRecDepth 100000 in
set_option maxHeartbeats 4000000 in
theorem back1_in (F:Fence) (n:Nat) (h7:F.fn 298) (hro:F.round=none) (hn:1≤n) (l f Bs m:Nat) (A:Option Addr) (len cap:Nat) (bs:List Bx) (hlen:len≤1048576) (hBm:Bs<m) (hBf:Bs≠f) (hA:0<len→∀ b,A.map (·.block)=some b→b<m∧b≠f) (J Jx:List (Nat × Bx)→World→Prop)
  (hY:∀ pre x W,J pre W→pre.length<len→YieldAt F (n - 1) Tryz.prog l (encsB x) W fun e W' =>
   (e=.returned (.bool true)∧J (pre ++ [x]) W'∧KX f m W W')∨(e=.returned (.bool false)∧Jx (pre ++ [x]) W'))
  (W:World) (hBs:Blk W Bs 25 #[.slice A len cap]) (hr:RdB W A len bs) (h0:J [] W) :
  CallsIn F n Tryz.prog 298 #[.func (.yield l) #[] #[],.pointer (some ⟨Bs,0,none⟩)] W fun e W'=>(∃ v,e=.returned v) ∧
   ((∃ ys,ys=upto (backE bs) len∧J ys W')∨(∃ pre,(∃ k,k≤len∧pre=upto (backE bs) k)∧Jx pre W')):=by
 have HR:=Lib.hid hr
 have HL:=Lib.hid hr.len
 have HA:=Lib.hid hA
 have HBs:=Lib.hid hBs
 have c0:W.cell? ⟨Bs,0,none⟩=some (.slice A len cap):=hBs.cell 0
 clear hr hA hBs
 refine callsIn_of_wp Tryz.func298 rfl h7 ?_ hro
 simp only [Tryz.ntmps298,List.size_toArray,List.length_cons,List.length_nil,Nat.reduceAdd,Nat.reduceSub,Array.replicate_succ,Array.replicate_zero,List.push_toArray,List.append_toArray,List.nil_append,List.cons_append]
 gi_wp2
 gi_loopw [3] (fun i wr=>∃ q:Nat,q≤len∧i=.int .i64 ((q:Int) - 1)∧Hid (J (upto (backE bs) (len - q)) wr∧KX f m W wr)) (fun i _=>(intOf i+1).toNat)
 case atStart=>exact ⟨len,Nat.le_refl _,rfl,by rw [Nat.sub_self];exact h0,KX.refl _ _ _⟩
 case round =>
  obtain ⟨q,hq,rfl,HJ⟩:=hrel
  have d0:wr.cell? ⟨Bs,0,none⟩=some (.slice A len cap):=(HBs.out.kx HJ.out.2 hBm hBf).cell 0
  cases q with
  | zero =>
   rw [show ((0:Nat):Int) - 1 = -1 from rfl]
   gi_wp2
   go_end0
   exact ⟨⟨_,rfl⟩,.inl ⟨_,rfl,HJ.out.1⟩⟩
  | succ q =>
   rw [show ((q+1:Nat):Int) - 1=(q:Int) by omega]
   obtain ⟨b,off,x,hAe,hb,hx,e0,e1,e2,e3⟩:=RdB.cells HR.out (k:=q) (by omega)
   obtain ⟨hbm,hbf⟩:=HA.out (by omega) b (by rw [hAe];rfl)
   have hk:=HJ.out.2.block b hbm hbf
   have g0:wr.cell? ⟨b,off+q * 4,none⟩=some (.int .i64 x.1):=(World.cell?_of_block (w:=W) hk).trans e0
   have g1:wr.cell? ⟨b,off+q * 4+1,none⟩=some (.int .i64 x.2.1):=(World.cell?_of_block (w:=W) hk).trans e1
   have g2:wr.cell? ⟨b,off+q * 4+2,none⟩=some (.int .i64 x.2.2.1):=(World.cell?_of_block (w:=W) hk).trans e2
   have g3:wr.cell? ⟨b,off+q * 4+3,none⟩=some (.int .i64 x.2.2.2):=(World.cell?_of_block (w:=W) hk).trans e3
   have hbe:backE bs (len - (q+1))=(q,x):=by
    have hl:=HL.out
    unfold backE
    rw [hl,show len - 1 - (len - (q+1))=q by omega,hx];rfl
   have hup:upto (backE bs) (len - q)=upto (backE bs) (len - (q+1)) ++ [(q,x)]:=by
    rw [← hbe,← upto_succ,show len - (q+1)+1=len - q by omega]
   have HUP:=Lib.hid hup
   obtain ⟨fn,tmps,assign,body,hy,hR⟩:=hY _ (q,x) wr HJ.out.1 (by rw [upto_length];omega)
   dsimp only [encsB] at hy
   have HHR:=Lib.hid hR
   subst hAe
   clear e0 e1 e2 e3 hk hx hup hbe hR
   gi_wp2
   refine HHR.out.mono ?_
   rintro e W3 (⟨rfl,hJ3,hk3⟩|⟨rfl,hJx3⟩)
   ·have HK:=Lib.hid (HJ.out.2.trans hk3)
    have HJ3:=Lib.hid hJ3
    clear hk3 hJ3
    gi_wp2
    go_roundw
    case rel=>exact ⟨q,by omega,rfl,by rw [HUP.out];exact HJ3.out,HK.out⟩
    case measure=>simp [intOf]
   ·have HX:=Lib.hid hJx3
    clear hJx3
    gi_wp2
    refine bodyPost_ret (results_none rfl _ _ _) rfl ?_
    exact ⟨⟨_,rfl⟩,.inr ⟨_,⟨len - q,by omega,HUP.out.symm⟩,HX.out⟩⟩
theorem back_in (F:Fence) (n:Nat) (h6:F.fn 245) (hro:F.round=none) (A:Option Addr) (len cap:Nat) (w:World) :
  CallsIn F n Tryz.prog 245 #[.slice A len cap] w fun e w'=>e=.returned (.func (.func 298) #[] #[.pointer (some ⟨w.heap.size,0,none⟩)])∧w'=w.alloc (.cells #[.slice A len cap] 25):=by
 refine callsIn_of_wp Tryz.func245 rfl h6 ?_ hro
 simp only [Tryz.ntmps245,List.size_toArray,List.length_cons,List.length_nil,Nat.reduceAdd,Nat.reduceSub,Array.replicate_succ,Array.replicate_zero,List.push_toArray,List.append_toArray,List.nil_append,List.cons_append]
 gi_wp2
 go_ret
 exact ⟨rfl,rfl⟩
theorem back_stops (F:Fence) (n:Nat) (h7:F.fn 298) (hro:F.round=none) (hn:1≤n) (f Bs:Nat) (A:Option Addr) (len cap:Nat) (bs:List Bx) (hlen:len≤1048576) (w:World) (hBf:Bs≠f) (hA:0<len→∀ b,A.map (·.block)=some b→b≠f)
  (hBs:Blk w Bs 25 #[.slice A len cap]) (hr:RdB w A len bs) :
  SeqStopsK F n Tryz.prog 298 #[.pointer (some ⟨Bs,0,none⟩)] encsB (KX f w.heap.size) (fun ys=>ys=upto (backE bs) len) (fun pre=>∃ k,k≤len∧pre=upto (backE bs) k) len w:=fun l J Jx W hW _ _ hY h0=>by
 refine back1_in F n h7 hro hn l f Bs w.heap.size A len cap bs hlen hBs.lt hBf (fun h b hb=>?_) J Jx hY W (hBs.next hW) (hr.below hW) h0
 refine ⟨?_,hA h b hb⟩
 obtain ⟨b',off,hAe,hlt,_⟩:=hr.2 h
 rw [hAe] at hb
 simp at hb
 omega
set_option maxRecDepth 100000 in
set_option maxHeartbeats 4000000 in
theorem linked_in (F:Fence) (n:Nat) (h3:F.fn 201) (h5:F.fn 245) (h7:F.fn 298) (hro:F.round=none) (hn:3≤n) (A:Option Addr) (len cap:Nat) (bs:List Bx) (hlen:len≤1048576) (w:World) (hr:RdB w A len bs) :
  CallsIn F n Tryz.prog 201 #[.slice A len cap] w fun e W'=>∃ p,e=.returned (.pointer p)∧Lnk W' p bs∧Below w.heap.size w W':=by
 have h1:1≤n:=by omega
 have HR:=Lib.hid hr
 have HL:=Lib.hid hr.len
 clear hr
 refine callsIn_of_wp_marks Tryz.func201 rfl h3 ?_ hro
 simp only [Tryz.ntmps201,List.size_toArray,List.length_cons,List.length_nil,Nat.reduceAdd,Nat.reduceSub,Array.replicate_succ,Array.replicate_zero,List.push_toArray,List.append_toArray,List.nil_append,List.cons_append]
 gi_wp2_with (gi_at_call 245;refine (back_in F (n - 1) h5 hro _ _ _ _).mono ?_;rintro e w' ⟨rfl,rfl⟩)
 obtain ⟨W0,hW0⟩:∃ W0,(w.alloc (.cells #[.pointer none] 244)).alloc (.cells #[.slice A len cap] 25)=W0:=⟨_,rfl⟩
 have hsz:W0.heap.size=w.heap.size+2:=by rw [← hW0];simp
 have b0:Blk W0 w.heap.size 244 #[.pointer none]:=by rw [← hW0];exact (Blk.new _ _ _).alloc _
 have b1:Blk W0 (w.heap.size+1) 25 #[.slice A len cap]:=by rw [← hW0];exact Blk.newAt _ _ _ _ (by simp)
 have hB0:Below w.heap.size w W0:=by rw [← hW0];go_grown
 rw [hW0]
 clear hW0
 refine wpIn_rangeFunc_ownH hro h1 (gf:=298) (lb:=#[.pointer (some ⟨w.heap.size+1,0,none⟩)]) rfl h7 (enters_of Tryz.func298 (by kernel_rfl) rfl)
  (back_stops F (n - 1) h7 hro (by omega) w.heap.size (w.heap.size+1) A len cap bs hlen W0 (by omega) (fun h b hb=>by
   obtain ⟨b',off,hAe,hlt,_⟩:=HR.out.2 h
   rw [hAe] at hb
   simp at hb
   omega) b1 (HR.out.below hB0)) KX.trans (KX.putObj (Nat.le_refl _)) (Below.refl _ _) (fun _=>rfl)
  (fun pre W=>(∃ p,Blk W w.heap.size 244 #[.pointer p]∧Lnk W p ((pre.map (·.2)).reverse))∧Below w.heap.size w W∧W0.heap.size≤W.heap.size)
  (fun _ _ _=>False)
  (fun pre X Y row hs hg hr=>by
   obtain ⟨⟨p,hb,hl⟩,hB,hS⟩:=hs
   exact ⟨⟨p,hb.grownBy hg fun r e=>(hr r e).2,Lnk.keep (fun g cs h=>h.grownBy hg fun r e=>(hr r e).2) hl⟩,hB.grown hg hB.size (fun k e=>by have:=(hr k e).1;omega),Nat.le_trans hS hg.size⟩)
  (fun _ _ _ _ _ hs _ _=>hs)
  ⟨⟨none,b0,rfl⟩,hB0,Nat.le_refl _⟩
  (fun x a' W=>∃ Bx,w.heap.size<Bx∧Blk W Bx 27 #[.int .i64 x.2.1,.int .i64 x.2.2.1,.int .i64 x.2.2.2.1,.int .i64 x.2.2.2.2]∧a'={ tmps:=#[.slice A len cap,undef,.pointer none,.pointer (some ⟨w.heap.size,0,none⟩),undef,.pointer (some ⟨Bx,0,none⟩),.slice A len cap,.func (.func 298) #[] #[.pointer (some ⟨w.heap.size+1,0,none⟩)],.int .i64 (x.1:Int),.agg #[.int .i64 x.2.1,.int .i64 x.2.2.1,.int .i64 x.2.2.2.1,.int .i64 x.2.2.2.2],undef,undef,undef,undef,undef],defers:=[] })
  (fun x a' _ X Y row hs hg hr=>by obtain ⟨Bx,h1,h2,h3⟩:=hs;exact ⟨Bx,h1,h2.grownBy hg fun r e=>(hr r e).2,h3⟩)
  ?assign ?body ?done ?stop
 case assign =>
  rintro l pre x W K ⟨⟨p,hb,hl⟩,hB,hS⟩ hK
  gi_wp2
  exact hK _ _ ((KeepsOthers.alloc _ _).from _) (KX.of_below ((Below.refl _ W).alloc hS _) _) ⟨⟨p,hb.alloc _,Lnk.keep (fun g cs h=>h.alloc _) hl⟩,hB.alloc hB.size _,by simp;omega⟩ ⟨W.heap.size,hb.lt,Blk.new _ _ _,rfl⟩
 case body =>
  rintro l pre x a' W hlW ⟨r,hr⟩ ⟨⟨p,hb,hl⟩,hB,hS⟩ ⟨Bx,hBx,bX,rfl⟩ hlt
  have c0:W.cell? ⟨w.heap.size,0,none⟩=some (.pointer p):=hb.cell 0
  have f0:=hb.frozen 0
  have e0:W.cell? ⟨Bx,0,none⟩=some (.int .i64 x.2.1):=bX.cell 0
  have e1:W.cell? ⟨Bx,1,none⟩=some (.int .i64 x.2.2.1):=bX.cell 1
  have e2:W.cell? ⟨Bx,2,none⟩=some (.int .i64 x.2.2.2.1):=bX.cell 2
  have e3:W.cell? ⟨Bx,3,none⟩=some (.int .i64 x.2.2.2.2):=bX.cell 3
  have hlt0:=hb.lt
  have HBb:=Lib.hid hb
  have HLl:=Lib.hid hl
  clear hb hl bX
  gi_wp2
  refine ⟨((KeepsOthers.setCell _ _ _).trans (KeepsOthers.alloc _ _)).from _,(KX.set_ _ _).trans (KX.of_below ((Below.refl _ _).alloc (by simp;omega) _) _),⟨some ⟨W.heap.size,0,none⟩,(HBb.out.set_ 0 _).alloc _,?_⟩,(hB.setCell (Nat.le_refl _) _).alloc (by simp;omega) _,by simp;omega⟩
  rw [show ((pre ++ [x]).map (·.2)).reverse=x.2 :: ((pre.map (·.2)).reverse) by simp]
  exact ⟨W.heap.size,p,rfl,Blk.newAt _ _ _ _ (by simp),Lnk.keep (fun g cs h=>(h.far (p:=⟨w.heap.size,0,none⟩) (Blk.ne_ h HBb.out (by decide)) _).alloc _) HLl.out⟩
 case done =>
  rintro D ys W hD rfl ⟨⟨p,hb,hl⟩,hB,hS⟩ hK
  have c0:W.cell? ⟨w.heap.size,0,none⟩=some (.pointer p):=hb.cell 0
  have hbk:Lnk W p bs:=by have h:=back_all bs;rw [HL.out] at h;rw [h] at hl;exact hl
  have HBK:=Lib.hid hbk
  clear hb hl hbk
  gi_wp2
  refine ⟨by simp,.inl ⟨_,_,rfl,run_takeDeferred hK,?_⟩⟩
  exact ⟨_,results_tmp rfl _ _ _,p,rfl,Lnk.keep (fun g cs h=>h.grownBy (grownBy_putObj' _ D (.deferred none)) (fun r e=>by cases e;exact ⟨_,hK,rfl⟩)) HBK.out,hB.trans (belowK_b (w:=w) (Nat.le_refl _) W D _ _ (by omega) hK rfl rfl)⟩
 case stop =>
  rintro D c pre W _ _ h _
  exact h.elim
theorem linked_any (A:Option Addr) (len cap:Nat) (bs:List Bx) (hlen:len≤1048576) (w:World) (hr:RdB w A len bs) :
  Calls Tryz.prog 201 #[.slice A len cap] w fun e W'=>∃ p,e=.returned (.pointer p)∧Lnk W' p bs∧Below w.heap.size w W' :=
 callsIn_wide.1 (linked_in Fence.wide 3 trivial trivial trivial rfl (Nat.le_refl _) A len cap bs hlen w hr)
set_option maxHeartbeats 2000000 in
theorem free_any (l:Lvl) (ws gs:Sl) (x y:Int) (w:World) (hr:RdB w ws.a ws.n l.walls) (hn:ws.n≤1048576) :
  Calls Tryz.prog 124 #[lvlV l ws gs,.agg #[.int .i64 x,.int .i64 y]] w fun e w'=>e=.returned (.bool (l.walls.all fun b=>!touchI b x y 500))∧Below w.heap.size w w':=by
 have HR:=Lib.hid hr;clear hr
 go_enter Tryz.func124,Tryz.ntmps124
 go_wp2_with fail
 refine (linked_any ws.a ws.n ws.c l.walls hn _ (HR.out.below (by go_grown))).mono ?_
 rintro e w1 ⟨p,rfl,hl,hb1⟩
 have HK1:=Lib.hid ((Blk.newAt _ _ _ (w.heap.size+1) (by simp)).next hb1)
 have HB1:=Lib.hid (ba (ba hb1))
 have HL1:=Lib.hid hl
 clear hb1 hl
 go_wp2_with fail
 go_loopg [5] l.walls.length (fun gg i wr=>∃ (q:Option Addr) (k:Nat),k≤l.walls.length∧l.walls.length - k≤gg∧i=.pointer q∧Hid (Below w.heap.size w wr∧Blk wr (w.heap.size+1) 24 #[.int .i64 x,.int .i64 y]∧Lnk wr q (l.walls.drop k)∧(l.walls.all fun b=>!touchI b x y 500)=((l.walls.drop k).all fun b=>!touchI b x y 500)))
 case atStart=>exact ⟨p,0,Nat.zero_le _,by omega,rfl,HB1.out,HK1.out,HL1.out,rfl⟩
 case round =>
  obtain ⟨q,k,hk,hg,rfl,HB⟩:=hrel
  by_cases hlt:k<l.walls.length
  ·have hd:=List.drop_eq_getElem_cons hlt
   have HD:=Lib.hid hd
   have hl:=HB.out.2.2.1
   rw [hd] at hl
   obtain ⟨g,q',rfl,hbk,hl'⟩:=hl
   have HBK:=Lib.hid hbk
   have HLK:=Lib.hid hl'
   generalize hz:l.walls[k]=z at *
   have HZ:=Lib.hid hz
   have e0:wr.cell? ⟨g,0,none⟩=some (.int .i64 z.1):=hbk.cell 0
   have e1:wr.cell? ⟨g,1,none⟩=some (.int .i64 z.2.1):=hbk.cell 1
   have e2:wr.cell? ⟨g,2,none⟩=some (.int .i64 z.2.2.1):=hbk.cell 2
   have e3:wr.cell? ⟨g,3,none⟩=some (.int .i64 z.2.2.2):=hbk.cell 3
   have d0:wr.cell? ⟨w.heap.size+1,0,none⟩=some (.int .i64 x):=HB.out.2.1.cell 0
   have d1:wr.cell? ⟨w.heap.size+1,1,none⟩=some (.int .i64 y):=HB.out.2.1.cell 1
   have e0':=fun d os=>cell_regrown e0 d os
   have e1':=fun d os=>cell_regrown e1 d os
   have e2':=fun d os=>cell_regrown e2 d os
   have e3':=fun d os=>cell_regrown e3 d os
   have d0':=fun d os=>cell_regrown d0 d os
   have d1':=fun d os=>cell_regrown d1 d os
   clear hd hbk hl' hz e0 e1 e2 e3 d0 d1
   go_wp2_with fail
   refine wp_region_qb (by kernel_rfl) (by kernel_rfl) ?_
   repeat (go_big_quiet_step ((go_at_call 202;exact Calls.regrown_of (touches_any _ _ _ _ _))))
   refine wpQuiet_nil ?_
   intro w2 hb2
   have HB2:=Lib.hid hb2
   have c4:w2.cell? ⟨g,4,none⟩=some (.pointer q'):=(HBK.out.next hb2).cell 4
   clear hb2
   cases ht:touchI z x y 500
   ·have HT:=Lib.hid ht
    clear ht
    go_wp2_with fail
    go_roundg (l.walls.length - (k+1))
    case measure=>omega
    case rel=>exact ⟨q',k+1,by omega,by omega,rfl,below_next HB.out.1 HB2.out,HB.out.2.1.next HB2.out,Lnk.keep (fun g cs h=>h.next HB2.out) HLK.out,by rw [HB.out.2.2.2,HD.out,List.all_cons,HT.out];rfl⟩
   ·have HT:=Lib.hid ht
    clear ht
    go_wp2_with fail
    go_ret
    exact ⟨ret_bool (by rw [HB.out.2.2.2,HD.out,List.all_cons,HT.out];rfl),below_next HB.out.1 HB2.out⟩
  ·have hd:l.walls.drop k=[]:=List.drop_of_length_le (by omega)
   have hl:=HB.out.2.2.1
   rw [hd] at hl
   have hq:q=none:=hl
   subst hq
   have HD:=Lib.hid hd
   clear hd hl
   go_wp2
   go_ret
   exact ⟨ret_bool (by rw [HB.out.2.2.2,HD.out];rfl),HB.out.1⟩
end Go.Proofs.YtkgfmgajhgfgjaaGreatDoor
namespace Go.Proofs.YtkgfmgajhgfgjaaGreatDoor
open Go.RowKit Go.Sort
theorem append_in_place {P:Program} {w w':World} {t ty e:TypeId} {i:TypeInfo} (ht:P.underlying t=some (.slice e)) (hi:P.info? e=some i) {A A' A2:Option Addr} {n m c c' c2:Nat} (hroom:n+m≤c)
  (h:(Builtin.append_ #[t,t] ty #[.slice A n c,.slice A2 m c2]).run P w=.ok (.slice A' (n+m) c') w'):A'=A∧c'=c:=by
 simp only [Builtin.append_,List.getElem?_toArray,List.getElem?_cons_zero,List.getElem?_cons_succ] at h
 simp [run_underlying ht,sizeOf,typeInfo,hi,Builtin.lenOf,hroom] at h
 generalize (Sem.run P (Builtin.firstCells i.size m (Value.slice A2 m c2)) w)=r at h
 cases r with
 | halt x w1=>simp [Result.andThen] at h
 | ok new w1 =>
  cases A with
  | none=>simp [Result.andThen] at h;exact ⟨h.1.1.symm,h.1.2.symm⟩
  | some a =>
   simp [Result.andThen] at h
   split at h
   ·simp at h;exact ⟨h.1.1.symm,h.1.2.symm⟩
   ·simp at h
theorem clear_one (b off c:Nat) (ty:TypeId) (w:World) (u0 u1:Value) (h0:w.cell? ⟨b,off,none⟩=some u0) (h1:w.cell? ⟨b,off+1,none⟩=some u1) (f0:w.frozen? ⟨b,off,none⟩=false) (f1:w.frozen? ⟨b,off+1,none⟩=false) :
  (Builtin.clear_ #[50] ty #[.slice (some ⟨b,off,none⟩) 1 c]).run Tryz.prog w=.ok (.tuple #[]) ((w.setCell ⟨b,off,none⟩ (.int .i64 0)).setCell ⟨b,off+1,none⟩ (.int .i64 0)):=by
 have hz:(Builtin.zeroCells #[Value.int .i64 0,Value.int .i64 0] 1).toList=[Value.int .i64 0,Value.int .i64 0]:=by kernel_rfl
 have g1:(w.setCell ⟨b,off,none⟩ (.int .i64 0)).cell? ⟨b,off+1,none⟩=some u1:=by rw [World.cell?_setCell_other _ _ _ _ (by simp)];exact h1
 have e1:(⟨b,off,none⟩:Addr).add 1=⟨b,off+1,none⟩:=Addr.add_lit ..
 simp [Builtin.clear_,run_underlying Tryz.underlying50,hz,go_sem,storeCells,h0,g1,f0,f1,e1]
end Go.Proofs.YtkgfmgajhgfgjaaGreatDoor
namespace Go.Proofs.YtkgfmgajhgfgjaaGreatDoor
open Go.RowKit Go.Sort
theorem wpList_append_in {P:Program} (w:World) {ops:Array Oper} {rest:List Oper} {o:Oper} {a:Act} {Q:Exit→Act→World→Prop} (hgd:o.guard=none) (s x:Operand) (t:TypeId)
  (ho:o.op=.call { callee:=.builtin .append,args:=#[s,x],argTypes:=#[t,t] })
  (base:Nat) (e:TypeId) (i:TypeInfo) (z:Value) (size bytes:Nat) (ht:P.underlying t=some (.slice e)) (hi:P.info? e=some i) (hz:i.zero=some z)
  (hsize:i.size=size) (hby:i.bytes=bytes) (hzs:z.cells.size=size) (hsz:0<size)
  (A:Option Addr) (n c:Nat) (xs:List Value) (hs:a.eval s=.slice A n c) (hown:Ow base w e size A n c xs)
  (A2:Option Addr) (m c2:Nat) (news:List Value) (hx:a.eval x=.slice A2 m c2) (hr:Src w size A2 m news) (h1:∀ u ∈ news,u.oneCell'=true)
  (h63:n+m≤maxLen) (hbytes:(n+m) * bytes≤140737488355328) (hbase:base≤w.heap.size) (hroom:n+m≤c)
  (h:∀ w',Ow base w' e size A (n+m) c (xs ++ news)→w.grownBy w' (ownB A c)→wpList P ops Q rest (a.put o.dst (.slice A (n+m) c)) w'):wpList P ops Q (o :: rest) a w :=
 wpList_plain hgd fun _ hK=>by
  obtain ⟨A',c',w',hrun,h2,h3,h4⟩:=run_append_ow (P:=P) w base t o.type e i z size bytes ht hi hz hsize hby hzs hsz A n c xs hown A2 m c2 news hr h1 h63 hbytes hbase
  obtain ⟨rfl,rfl⟩:=append_in_place ht hi hroom hrun
  unfold Oper.wp execOp
  simp only [ho,resolve,invoke,builtin,Sem.run_bind,Sem.run_pure,Result.andThen_ok,List.map_toArray,List.map_cons,List.map_nil,hs,hx,hrun]
  exact hK _ _ (h w' h2 h3)
theorem Src.drew {w:World} {size m:Nat} {A:Option Addr} {news:List Value} (h:Src w size A m news):Src w.drew size A m news:=h
def over (cs:List Value) (o:Nat) (vs:List Value):List Value:=cs.take o ++ vs ++ cs.drop (o+vs.length)
section
variable {P:Program} (w:World)
end
theorem wpList_append_make {P:Program} (w:World) {ops:Array Oper} {rest:List Oper} {o:Oper} {a:Act} {Q:Exit→Act→World→Prop} (hgd:o.guard=none) (s x:Operand) (t tn:TypeId)
  (ho:o.op=.call { callee:=.builtin .append,args:=#[s,x],argTypes:=#[t,tn] }) (e:TypeId) (i:TypeInfo) (z:Value) (sz bytes:Nat) (kq kn:IntKind)
  (ht:P.underlying t=some (.slice e)) (htn:P.underlying tn=some (.int kn)) (hi:P.info? e=some i) (hz:i.zero=some z) (hsize:i.size=sz) (hby:i.bytes=bytes) (hzs:z.cells.size=sz) (hsz:0<sz)
  (A:Option Addr) (n c:Nat) (olds:List Value) (hs:a.eval s=.slice A n c) (hr:Src w sz A n olds) (hA:A=none→n=0)
  (l N:Nat) (hx:a.eval x=.int kq l) (h0:0<l) (hN:n+l=N) (hroom:c<N) (hbig:N * bytes≤140737488355328) (hN63:N≤1099511627777)
  (h:∀ G ROW w',N≤G→G≤maxLen→ROW.size=G * sz→ROW.toList.take (n * sz)=olds→Blk w' w.heap.size e ROW→Below w.heap.size w w'→wpList P ops Q rest (a.put o.dst (.slice (some ⟨w.heap.size,0,none⟩) N G)) w'):wpList P ops Q (o :: rest) a w:=by
 subst hN
 have hold:(Builtin.firstCells i.size n (.slice A n c)).run P w.drew=.ok olds.toArray w.drew:=by
  rw [hsize]
  cases A with
  | none =>
   have:=hA rfl
   subst this
   obtain rfl:olds=[]:=List.eq_nil_of_length_eq_zero (by simpa using hr.1)
   exact run_firstCells_none w.drew sz 0 0 c
  | some ad =>
   refine run_firstCells_some w.drew sz n ad n c olds hr.1 (fun j v hj=>?_)
   rcases Nat.eq_zero_or_pos n with hn|hn
   ·subst hn
    obtain rfl:olds=[]:=List.eq_nil_of_length_eq_zero (by simpa using hr.1)
    simp at hj
   ·obtain ⟨ad',e1,hc⟩:=hr.2 hn
    injection e1 with e1
    subst e1
    exact hc j v hj
 have hrun:=Lib.run_append_grow_zeros (P:=P) w t tn o.type e i z kq kn ht htn hi hz A n c olds hold l h0 (by omega) hroom (by omega) (by rw [hby];have:l * bytes≤(n+l) * bytes:=Nat.mul_le_mul_right _ (by omega);omega) (by rw [hby];exact growslice_fits hroom hbig)
 refine Lib.wpList_append_run w hgd s x t tn ho _ _ hs hx _ _ hrun ?_
 have hG:=grownCap_ge w (n+l) c e
 refine h _ _ _ hG (grownCap_le_maxLen w (n+l) c e (by unfold maxLen;omega)) ?_ ?_ (Blk.new w.drew e _) ?_
 ·simp only [Array.size_append,List.size_toArray,hr.1,Builtin.zeroCells,hzs]
  simp
  rw [← Nat.add_mul,← Nat.add_mul]
  congr 1
  omega
 ·simp only [Array.toList_append,List.append_assoc]
  rw [List.take_append_of_le_length (by simp [hr.1])]
  exact List.take_of_length_le (by simp [hr.1])
 ·exact ⟨rfl,rfl,rfl,by simp [World.alloc],fun k hk=>Below.heap_alloc w.drew _ k hk⟩
end Go.Proofs.YtkgfmgajhgfgjaaGreatDoor
namespace Go.Proofs.YtkgfmgajhgfgjaaGreatDoor
open Go.RowKit Go.Sort
set_option maxRecDepth 100000 in
set_option maxHeartbeats 2000000 in
theorem growB_any (N:Nat) (w:World) (hN:0<N) (hN2:N≤1073741824) :
  Calls Tryz.prog 244 #[.slice none 0 0,.int .i64 N] w fun e w'=>∃ g G,e=.returned (.slice (some ⟨g,0,none⟩) 0 G)∧Ow w.heap.size w' 27 4 (some ⟨g,0,none⟩) 0 G []∧Below w.heap.size w w':=by
 obtain ⟨i0,hi0,hz0,hz1,hz2⟩:=info_parts infoB
 have HI:=Lib.hid hi0
 have HZ:=Lib.hid hz0
 have HS:=Lib.hid hz1
 have HBY:=Lib.hid hz2
 clear hi0 hz0 hz1 hz2
 have q1:(0:Int)<N:=by omega
 go_enter Tryz.func244,Tryz.ntmps244
 go_wp2_with (at_builtin;refine wpList_append_make _ rfl (.tmp 20) (.tmp 21) _ _ rfl 27 i0 _ 4 32 .i64 .i64 Tryz.underlying25 Tryz.underlying3 HI.out HZ.out HS.out HBY.out rfl (by omega) none 0 0 [] rfl ⟨rfl,fun h=>absurd h (by omega)⟩ (fun _=>rfl) N N rfl hN (by omega) (by omega) (by omega) (by omega) ?_;intro G ROW w2 hG1 hG2 hR1 hR2 hb2 hw2)
 have hG0:¬ G=0:=by omega
 have HB2:=Lib.hid hb2
 have HW2:=Lib.hid hw2
 have HR1:=Lib.hid hR1
 clear hb2 hw2 hR1 hR2
 go_wp2
 go_ret
 exact ⟨_,G,rfl,Ow.mk_ (by simp) (Nat.le_refl _) HB2.out (Nat.zero_le _) hG2 HR1.out (by simp),HW2.out⟩
def encS (x:Sl × List Bx):List Value:=[.slice x.1.a x.1.n x.1.c]
def totB (xs:List (Sl × List Bx)):List Bx:=xs.flatMap (·.2)
theorem totB_step {xs:List (Sl × List Bx)} {k:Nat} {x:Sl × List Bx} (h:xs[k]?=some x):totB (xs.take (k+1))=totB (xs.take k) ++ x.2:=by
 rw [List.take_add_one,h]
 simp [totB]
theorem totB_le {xs:List (Sl × List Bx)} (k:Nat):(totB (xs.take k)).length≤(totB xs).length:=by
 have h:totB xs=totB (xs.take k) ++ totB (xs.drop k):=by unfold totB;rw [← List.flatMap_append,List.take_append_drop]
 rw [h,List.length_append]
 omega
set_option maxRecDepth 100000 in
set_option maxHeartbeats 4000000 in
theorem concatB_any (A:Option Addr) (n c:Nat) (xs:List (Sl × List Bx)) (w:World) (hr:Rd encS 1 w A n xs) (hx:∀ x ∈ xs,RdB w x.1.a x.1.n x.2) (h0:0<(totB xs).length) (ht:(totB xs).length≤1073741824) (hn:n≤1048576) :
  Calls Tryz.prog 199 #[.slice A n c] w fun e w'=>∃ A' c',e=.returned (.slice A' (totB xs).length c')∧Ow w.heap.size w' 27 4 A' (totB xs).length c' (cellsB (totB xs))∧Below w.heap.size w w':=by
 obtain ⟨i0,hi0,hz0,hz1,hz2⟩:=info_parts infoB
 have HI:=Lib.hid hi0
 have HZ:=Lib.hid hz0
 have HS:=Lib.hid hz1
 have HBY:=Lib.hid hz2
 have HR:=Lib.hid hr
 have HX:=Lib.hid hx
 clear hi0 hz0 hz1 hz2 hr hx
 obtain ⟨T,hT⟩:∃ T,T=(totB xs).length:=⟨_,rfl⟩
 rw [← hT] at h0 ht ⊢
 have HT:=Lib.hid hT
 clear hT
 go_enter Tryz.func199,Tryz.ntmps199
 go_wp2
 go_loop [3,11] (fun s i=>∃ k:Nat,k≤n∧i=.int .i64 k∧s=.int .i64 (totB (xs.take k)).length) (fun _ i=>n - (intOf i).toNat)
 case atStart=>exact ⟨0,Nat.zero_le _,rfl,rfl⟩
 case round =>
  obtain ⟨k,hk,rfl,rfl⟩:=hrel
  by_cases hlt:k<n
  ·obtain ⟨b,off,x,hA,hb,hx,hc⟩:=HR.out.at_ hlt
   subst hA
   have c0:w.cell? ⟨b,off+k,none⟩=some (.slice x.1.a x.1.n x.1.c):=by have:=hc 0 _ rfl;simpa using this
   have hst:=totB_step hx
   have hle:=totB_le (xs:=xs) (k+1)
   have hxl:=(HX.out x (List.mem_of_getElem? hx)).len
   rw [hst,List.length_append,hxl] at hle
   have hT:=HT.out
   have hnn:(totB (xs.take (k+1))).length=(totB (xs.take k)).length+x.1.n:=by rw [hst,List.length_append,hxl]
   have HNN:=Lib.hid hnn
   generalize (totB (xs.take k)).length=m at *
   have hm:m+x.1.n≤1073741824:=by omega
   clear hst hle hx hc hT hnn hxl
   go_wp2
   go_round
   case rel=>exact ⟨k+1,by omega,by go_num,by rw [HNN.out];push_cast;rfl⟩
   case measure=>simp [intOf];omega
  ·have hkn:xs.take k=xs:=List.take_of_length_le (by rw [HR.out.len];omega)
   rw [hkn,← HT.out]
   clear hkn
   go_wp2_with fail
   refine (growB_any T w h0 ht).mono ?_
   rintro e w1 ⟨g,G,rfl,hO,hb1⟩
   have HO:=Lib.hid hO
   have HB1:=Lib.hid hb1
   clear hO hb1
   go_wp2_with fail
   go_loopw [6,27] (fun o i wr=>∃ (k:Nat) (A':Option Addr) (c':Nat),k≤n∧i=.int .i64 k∧o=.slice A' (totB (xs.take k)).length c'∧Hid (Below w.heap.size w wr∧Ow w.heap.size wr 27 4 A' (totB (xs.take k)).length c' (cellsB (totB (xs.take k))))) (fun _ i _=>n - (intOf i).toNat)
   case atStart=>exact ⟨0,_,_,Nat.zero_le _,rfl,rfl,HB1.out,HO.out⟩
   case round =>
    obtain ⟨k2,A',c',hk2,rfl,rfl,HB⟩:=hrel
    by_cases hlt2:k2<n
    ·obtain ⟨b,off,x,hA,hb,hx,hc⟩:=(HR.out.below HB.out.1).at_ hlt2
     subst hA
     have c0:wr.cell? ⟨b,off+k2,none⟩=some (.slice x.1.a x.1.n x.1.c):=by have:=hc 0 _ rfl;simpa using this
     have hst:=totB_step hx
     have hle:=totB_le (xs:=xs) (k2+1)
     have HRx:=Lib.hid ((HX.out x (List.mem_of_getElem? hx)).below HB.out.1)
     have hxl:=HRx.out.len
     rw [hst,List.length_append,hxl] at hle
     have hT:=HT.out
     have HST:=Lib.hid hst
     have hnn:(totB (xs.take (k2+1))).length=(totB (xs.take k2)).length+x.1.n:=by rw [hst,List.length_append,hxl]
     have HNN:=Lib.hid hnn
     have hsz:=HB.out.1.size
     have hm:(totB (xs.take k2)).length+x.1.n≤1073741824:=by omega
     clear hst hle hx hc hT hnn hxl
     go_wp2_with (at_builtin;refine wpList_append_ow _ rfl (.tmp 31) (.tmp 32) _ rfl w.heap.size 27 i0 _ 4 32 Tryz.underlying25 HI.out HZ.out HS.out HBY.out rfl (by omega) _ _ _ _ rfl HB.out.2 _ x.1.n x.1.c (cellsB x.2) rfl (Src.rd encB_len HRx.out) (cellsX_oneCell encB_one _) (by unfold maxLen;omega) (by omega) hsz ?_;intro A2 c2 w2 hown2 hg2 _)
     have HO2:=Lib.hid hown2
     have HG:=Lib.hid hg2
     clear hown2 hg2
     go_wp2
     refine ⟨⟨k2+1,A2,c2,by omega,by go_num,by rw [HNN.out],HB.out.2.grown HG.out HB.out.1 (Nat.le_refl _) hsz,?_⟩,by simp [intOf];omega⟩
     have:=HO2.out
     rw [← cellsX_append,← HST.out] at this
     rw [HNN.out]
     exact this
    ·have hkn:xs.take k2=xs:=List.take_of_length_le (by rw [HR.out.len];omega)
     rw [hkn] at HB ⊢
     rw [← HT.out] at HB ⊢
     clear hkn
     go_wp2
     go_ret
     exact ⟨A',c',rfl,HB.out.2,HB.out.1⟩
set_option maxHeartbeats 2000000 in
theorem boxes_any (l:Lvl) (ws gs:Sl) (w:World) (hr:RdL w l ws gs) :
  Calls Tryz.prog 121 #[lvlV l ws gs] w fun e w'=>∃ A' c',e=.returned (.slice A' (l.walls ++ l.gates ++ [l.f]).length c')∧RdB w' A' (l.walls ++ l.gates ++ [l.f]).length (l.walls ++ l.gates ++ [l.f])∧Below w.heap.size w w':=by
 obtain ⟨hr1,hr2,⟨_,hn1⟩,_,hn2⟩:=hr
 have HR1:=Lib.hid hr1
 have HR2:=Lib.hid hr2
 have hl1:=hr1.len
 have hl2:=hr2.len
 have htot:totB [(ws,l.walls),(gs,l.gates),(⟨some ⟨w.heap.size+1,0,none⟩,1,1⟩,[l.f])]=l.walls ++ l.gates ++ [l.f]:=by simp [totB]
 have hlen:(l.walls ++ l.gates ++ [l.f]).length=ws.n+gs.n+1:=by simp [hl1,hl2];omega
 have HT:=Lib.hid htot
 have HLN:=Lib.hid hlen
 clear hr1 hr2 hl1 hl2 htot hlen
 go_enter Tryz.func121,Tryz.ntmps121
 go_wp2_with fail
 refine (concatB_any (some ⟨w.heap.size+1+1,0,none⟩) 3 3 [(ws,l.walls),(gs,l.gates),(⟨some ⟨w.heap.size+1,0,none⟩,1,1⟩,[l.f])] _ ?_ ?_ (by rw [HT.out,HLN.out];omega) (by rw [HT.out,HLN.out];omega) (by omega)).mono ?_
 ·refine ⟨rfl,fun _=>⟨w.heap.size+1+1,0,rfl,by simp,fun k x hk j v hv=>?_⟩⟩
  have hb:=Blk.newAt ((w.alloc (.cells #[.int .i64 l.id,.int .i64 l.ticks,.int .i64 l.sx,.int .i64 l.sy,.slice ws.a ws.n ws.c,.slice gs.a gs.n gs.c,.int .i64 l.f.1,.int .i64 l.f.2.1,.int .i64 l.f.2.2.1,.int .i64 l.f.2.2.2,.int .i64 l.bans] 29)).alloc (.cells #[.int .i64 l.f.1,.int .i64 l.f.2.1,.int .i64 l.f.2.2.1,.int .i64 l.f.2.2.2] 27)) 25 #[.slice ws.a ws.n ws.c,.slice gs.a gs.n gs.c,.slice (some ⟨w.heap.size+1,0,none⟩) 1 1] (w.heap.size+1+1) (by simp)
  have hj:j=0:=by
   have:=(List.getElem?_eq_some_iff.1 hv).1
   simp [encS] at this
   exact this
  subst hj
  have hk3:k<3:=(List.getElem?_eq_some_iff.1 hk).1
  have hq:k=0∨k=1∨k=2:=by omega
  rcases hq with rfl|rfl|rfl <;> (simp at hk;subst hk;simp [encS] at hv;subst hv)
  ·exact hb.cell 0
  ·exact hb.cell 1
  ·exact hb.cell 2
 ·intro x hx
  simp only [List.mem_cons,List.not_mem_nil,or_false] at hx
  rcases hx with rfl|rfl|rfl
  ·exact HR1.out.below (by go_grown)
  ·exact HR2.out.below (by go_grown)
  ·exact Rd.blk (xs:=[l.f]) encB_len ((Blk.newAt _ 27 _ (w.heap.size+1) (by simp)).alloc _)
 ·rintro e w1 ⟨A1,c1,rfl,hO,hb1⟩
  rw [HT.out] at hO ⊢
  have HRD:=Lib.hid (hO.rd (xs:=l.walls ++ l.gates ++ [l.f]) encB_len (by omega))
  have HB1:=Lib.hid (ba (ba (ba hb1)))
  clear hb1 hO
  go_wp2_with fail
  go_ret
  exact ⟨A1,c1,by show Ending.returned (.slice A1 (l.walls.length+(l.gates.length+1)) c1)=_;simp,HRD.out,HB1.out⟩
set_option maxHeartbeats 400000 in
theorem levelValid1_any (b:Bx) (w:World) :
  Calls Tryz.prog 122 #[.agg #[.int .i64 b.1,.int .i64 b.2.1,.int .i64 b.2.2.1,.int .i64 b.2.2.2]] w fun e w'=>e=.returned (.bool (!boxOk b))∧Below w.heap.size w w':=by
 go_enter Tryz.func122,Tryz.ntmps122
 go_wp2_with fail
 refine (implBoxValid_any _ _).mono ?_
 rintro e w1 ⟨rfl,hb1⟩
 have HB1:=Lib.hid (ba hb1)
 clear hb1
 go_wp2_with fail
 go_ret
 exact ⟨rfl,HB1.out⟩
theorem all_dropB {α:Type} {p:α→Bool} {xs:List α} {k:Nat} {x:α} (h:xs[k]?=some x):(xs.drop k).all p=(p x && (xs.drop (k+1)).all p):=by
 obtain ⟨hk',he⟩:=List.getElem?_eq_some_iff.1 h
 rw [List.drop_eq_getElem_cons hk',he];rfl
set_option maxHeartbeats 2000000 in
theorem indexFuncB_any (A:Option Addr) (n c:Nat) (bs:List Bx) (w:World) (hr:RdB w A n bs) (hn:n≤1099511627776) :
  Calls Tryz.prog 198 #[.slice A n c,.func (.func 122) #[] #[]] w fun e w'=>∃ v:Int,e=.returned (.int .i64 v)∧decide (0≤v)=(!bs.all boxOk)∧Below w.heap.size w w':=by
 have HR:=Lib.hid hr;clear hr
 go_enter Tryz.func198,Tryz.ntmps198
 go_wp2
 go_loopw [8] (fun i wr=>∃ k:Nat,k≤n∧i=.int .i64 k∧Hid (Below w.heap.size w wr∧bs.all boxOk=(bs.drop k).all boxOk)) (fun i _=>n - (intOf i).toNat)
 case atStart=>exact ⟨0,Nat.zero_le _,rfl,Below.refl _ _,rfl⟩
 case round =>
  obtain ⟨k,hk,rfl,HF⟩:=hrel
  by_cases hlt:k<n
  ·obtain ⟨b,off,x,hA,hb,hx,h0,h1,h2,h3⟩:=RdB.cells (HR.out.below HF.out.1) hlt
   subst hA
   have HS:=Lib.hid (all_dropB (p:=boxOk) hx)
   clear hx
   cases ho:boxOk x
   ·have HO:=Lib.hid ho
    have c1:=fun W=>levelValid1_any x W
    rw [ho] at c1
    have C1:=Lib.hid c1
    clear ho c1
    go_wp2_with (first|(go_at_call 122;refine (C1.out _).mono ?_;rintro e w' ⟨rfl,hb1⟩))
    go_ret
    exact ⟨_,rfl,by rw [HF.out.2,HS.out,HO.out];simp,below_next HF.out.1 hb1⟩
   ·have HO:=Lib.hid ho
    have c1:=fun W=>levelValid1_any x W
    rw [ho] at c1
    have C1:=Lib.hid c1
    clear ho c1
    go_wp2_with (first|(go_at_call 122;refine (C1.out _).mono ?_;rintro e w' ⟨rfl,hb1⟩))
    exact ⟨⟨k+1,by omega,by go_num,below_next HF.out.1 hb1,by rw [HF.out.2,HS.out,HO.out];rfl⟩,by simp [intOf];omega⟩
  ·go_wp2
   go_ret
   exact ⟨_,rfl,by rw [HF.out.2,List.drop_of_length_le (by rw [HR.out.len];omega)];rfl,HF.out.1⟩
set_option maxHeartbeats 1000000 in
theorem containsFuncB_any (A:Option Addr) (n c:Nat) (bs:List Bx) (w:World) (hr:RdB w A n bs) (hn:n≤1099511627776) :
  Calls Tryz.prog 120 #[.slice A n c,.func (.func 122) #[] #[]] w fun e w'=>e=.returned (.bool (!bs.all boxOk))∧Below w.heap.size w w':=by
 have H1:=Lib.hid (indexFuncB_any A n c bs w hr hn)
 clear hr
 go_enter Tryz.func120,Tryz.ntmps120
 go_wp2_with fail
 refine H1.out.mono ?_
 rintro e w1 ⟨v,rfl,hv,hb1⟩
 have HV:=Lib.hid hv
 clear hv
 go_wp2_with fail
 go_ret
 exact ⟨ret_bool HV.out,hb1⟩
theorem free_eq {bs:List Bx} (h:bs.all boxOk=true) (x y:Int):(bs.all fun b=>!touchI b x y 500)=freeW bs x y:=by
 rw [List.all_eq_true] at h
 unfold freeW
 rw [Bool.eq_iff_iff,List.all_eq_true,List.all_eq_true]
 exact ⟨fun g b hb=>by rw [← touchI_eq (h b hb)];exact g b hb,fun g b hb=>by rw [touchI_eq (h b hb)];exact g b hb⟩
set_option maxHeartbeats 4000000 in
theorem implLevelValid_any (l:Lvl) (ws gs:Sl) (w:World) (hr:RdL w l ws gs) :
  Calls Tryz.prog 50 #[lvlV l ws gs] w fun e w'=>e=.returned (.bool (levelOk l))∧Below w.heap.size w w':=by
 have hr':=hr
 obtain ⟨hr1,hr2,⟨_,hn1⟩,_,hn2⟩:=hr'
 have HR:=Lib.hid hr
 have hl1:=hr1.len
 have hl2:=hr2.len
 have HL1:=Lib.hid hl1
 have HL2:=Lib.hid hl2
 clear hr hr1 hr2 hl1 hl2
 go_enter Tryz.func50,Tryz.ntmps50
 go_wp2_with fail
 refine (inRange_any _ _ _ _).mono ?_
 rintro e w' ⟨rfl,rfl⟩
 cases h1:inR l.id 0 99
 ·go_wp2_with fail
  go_ret
  exact ⟨ret_bool (by simp [levelOk,h1]),by go_grown⟩
 ·skip
  go_wp2_with fail
  refine (inRange_any _ _ _ _).mono ?_
  rintro e w' ⟨rfl,rfl⟩
  cases h2:inR l.ticks 1 60
  ·go_wp2_with fail
   go_ret
   exact ⟨ret_bool (by simp [levelOk,h1,h2]),by go_grown⟩
  ·skip
   go_wp2_with fail
   refine (implVecOk_any _ _ _).mono ?_
   rintro e w1 ⟨rfl,hb1⟩
   have k1:=(Blk.new _ _ _).next hb1
   have HB1:=Lib.hid (ba hb1)
   have c1:=fun o=>k1.cell o
   clear hb1
   cases h3:vecOk l.sx l.sy
   ·go_wp2_with fail
    go_ret
    exact ⟨ret_bool (by simp [levelOk,h1,h2,h3]),HB1.out⟩
   ·skip
    go_wp2_with fail
    refine (inRange_any _ _ _ _).mono ?_
    rintro e w' ⟨rfl,rfl⟩
    cases h9:inR l.bans 0 3
    ·go_wp2_with fail
     go_ret
     exact ⟨ret_bool (by simp [levelOk,h9]),HB1.out⟩
    ·skip
     by_cases h4:(ws.n:Int)≤4
     rotate_left
     ·go_wp2_with fail
      go_ret
      exact ⟨ret_bool (by simp [levelOk,show ¬ (l.walls.length:Int)≤4 from by rw [HL1.out];omega]),HB1.out⟩
     ·skip
      by_cases h6:(gs.n:Int)≤3
      rotate_left
      ·go_wp2_with fail
       go_ret
       exact ⟨ret_bool (by simp [levelOk,show ¬ (l.gates.length:Int)≤3 from by rw [HL2.out];omega]),HB1.out⟩
      ·skip
       have h4n:¬ (4:Int)<ws.n:=by omega
       have h6n:¬ (3:Int)<gs.n:=by omega
       go_wp2_with fail
       refine (boxes_any l ws gs _ (HR.out.below HB1.out)).mono ?_
       rintro e w2 ⟨A2,c2,rfl,hrd2,hb2⟩
       have hlen2:(l.walls ++ l.gates ++ [l.f]).length≤1099511627776:=by simp only [List.length_append,HL1.out,HL2.out,List.length_cons,List.length_nil];omega
       generalize (l.walls ++ l.gates ++ [l.f]).length=N2 at *
       have HRD2:=Lib.hid hrd2
       have k2:=k1.next hb2
       have HB2:=Lib.hid (below_next HB1.out hb2)
       clear hb2 hrd2 c1
       go_wp2_with fail
       refine (containsFuncB_any _ _ _ _ _ HRD2.out (by omega)).mono ?_
       rintro e w3 ⟨rfl,hb3⟩
       have k3:=k2.next hb3
       have HB3:=Lib.hid (below_next HB2.out hb3)
       have c3:=fun o=>k3.cell o
       clear hb3
       cases h5:(l.walls ++ l.gates ++ [l.f]).all boxOk
       ·go_wp2_with fail
        go_ret
        refine ⟨ret_bool ?_,HB3.out⟩
        symm
        simp only [List.all_append,List.all_cons,List.all_nil,Bool.and_true] at h5
        unfold levelOk
        cases hb1:l.walls.all boxOk <;> cases hb2:l.gates.all boxOk <;> cases hb3:boxOk l.f <;> simp [hb1,hb2,hb3] at h5 ⊢
       ·have h5':=h5
        simp only [List.all_append,List.all_cons,List.all_nil,Bool.and_true,Bool.and_eq_true] at h5'
        obtain ⟨⟨h5a,h5b⟩,h5c⟩:=h5'
        have hfr:=free_eq h5a l.sx l.sy
        have H5A:=Lib.hid h5a
        have H5B:=Lib.hid h5b
        have H5C:=Lib.hid h5c
        have HFR:=Lib.hid hfr
        clear h5a h5b h5c hfr
        go_wp2_with fail
        refine (free_any l ws gs _ _ _ (HR.out.1.below HB3.out) (by omega)).mono ?_
        rintro e w4 ⟨rfl,hb4⟩
        go_wp2_with fail
        go_ret
        refine ⟨ret_bool ?_,below_next HB3.out hb4⟩
        have h4':(l.walls.length:Int)≤4:=by rw [HL1.out];exact h4
        have h6':(l.gates.length:Int)≤3:=by rw [HL2.out];exact h6
        rw [HFR.out]
        simp [levelOk,h1,h2,h3,h4',H5A.out,h6',H5B.out,H5C.out,h9]
end Go.Proofs.YtkgfmgajhgfgjaaGreatDoor

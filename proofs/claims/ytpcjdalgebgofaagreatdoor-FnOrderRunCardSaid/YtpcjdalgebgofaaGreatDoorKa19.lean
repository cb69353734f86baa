/-
  Lemmas and contracts: YVf YVg YVh YVi YVj YVk. No condition.
-/
import Derived.RangeFuncNested
import Derived.RangeFuncBound
import Derived.RangeFuncCalls
import Derived.RangeFuncLeaves
import Derived.OwnWalkIn
import Derived.TacticsInMore
import Derived.LoopNIn
import Derived.LoopIn
import Derived.Shelf.Abstract
import Derived.Shelf.RegionOpen
import Derived.Laws.StructEq
import Derived.Test.YtpcjdalgebgofaaGreatDoorKa14
import Derived.Test.YtpcjdalgebgofaaGreatDoorKa15
import Derived.Test.YtpcjdalgebgofaaGreatDoorKa16
set_option linter.unusedSimpArgs false
set_option linter.unusedVariables false
set_option linter.unusedSectionVars false
namespace Go.Proofs.YtpcjdalgebgofaaGreatDoorY
open Go.RowKit Go.Sort
theorem into_worldC {P:Program} {f:FuncId} {args:Array Value} {R':Ending→World→Prop} {w:World} (R:World→Prop) (h:R w) (k:∀ w',R w'→Calls P f args w' R'):Calls P f args w R':=k w h
abbrev vecV (x y:Int):Value:=.agg #[.int .i64 x,.int .i64 y]
set_option maxRecDepth 100000 in
set_option maxHeartbeats 1000000 in
theorem root_any (n:Int) (h0:0≤n) (h1:n≤4000000000000) (w:World):Calls Qy.prog 166 #[.int .i64 n] w fun e w'=>e=.returned (.int .i64 (rootOf n))∧w'=w:=by
 go_enter Qy.func166,Tryz.ntmps166
 go_wp2_with fail
 go_loopw [3,4] (fun lo hi wr=>∃ a b:Int,lo=.int .i64 a∧hi=.int .i64 b∧0≤a∧a<b∧b≤2147483648∧Hid (a * a≤n∧n<b * b)∧wr=w) (fun lo hi _=>(intOf hi - intOf lo).toNat)
 case atStart=>exact ⟨0,2147483648,rfl,rfl,by omega,by omega,by omega,⟨by omega,by omega⟩,rfl⟩
 case round =>
  obtain ⟨a,b,rfl,rfl,ha,hab,hb,HH,rfl⟩:=hrel
  by_cases hlt:a+1<b
  ·obtain ⟨m,hm⟩:∃ m,m=(a+b) / 2:=⟨_,rfl⟩
   have g0:0≤(a+b) / 2 * ((a+b) / 2):=by rw [← hm];exact Int.mul_nonneg (by omega) (by omega)
   have g1:(a+b) / 2 * ((a+b) / 2)≤4611686018427387904:=by
    rw [← hm]
    exact Int.le_trans (Int.mul_le_mul (show m≤2147483648 by omega) (show m≤2147483648 by omega) (by omega) (by omega)) (by decide)
   by_cases hle:(a+b) / 2 * ((a+b) / 2)≤n
   ·go_wp2_with fail
    exact ⟨⟨(a+b) / 2,b,rfl,rfl,by omega,by omega,by omega,⟨hle,HH.out.2⟩,trivial⟩,by simp [intOf];omega⟩
   ·go_wp2_with fail
    exact ⟨⟨a,(a+b) / 2,rfl,rfl,by omega,by omega,by omega,⟨HH.out.1,by omega⟩,trivial⟩,by simp [intOf];omega⟩
  ·obtain rfl:b=a+1:=by omega
   have hr:IsRoot n a:=by
    obtain ⟨p1,p2⟩:=HH.out
    refine ⟨ha,?_,.inr p1,.inr p2⟩
    rcases Int.lt_or_le 2000000 a with h|h
    ·have:=Int.mul_le_mul (show (2000001:Int)≤a by omega) (show (2000001:Int)≤a by omega) (by omega) (by omega)
     omega
    ·exact h
   have HR:=Lib.hid (rootOf_eq hr)
   clear hr
   go_wp2_with fail
   go_ret
   exact ⟨ret_int (by rw [HR.out]),rfl⟩
theorem vecOk_iff {x y:Int}:vecOk x y=true ↔ -1000000≤x∧x≤1000000 ∧ -1000000≤y∧y≤1000000:=by
 simp [vecOk,inC,inR]
 omega
theorem sq_bound {x:Int} (h1 : -1000000≤x) (h2:x≤1000000):0≤x * x∧x * x≤1000000000000:=by
 refine ⟨?_,?_⟩
 ·rcases Int.le_total 0 x with h|h
  ·exact Int.mul_nonneg h h
  ·exact Int.mul_nonneg_of_nonpos_of_nonpos h h
 ·rcases Int.le_total 0 x with h|h
  ·exact Int.le_trans (Int.mul_le_mul h2 h2 h (by omega)) (by decide)
  ·have:(-x) * (-x)≤1000000 * 1000000:=Int.mul_le_mul (by omega) (by omega) (by omega) (by omega)
   rw [Int.neg_mul_neg] at this
   omega
theorem lenW_in {x y:Int} (h:vecOk x y=true):lenW x y=rootOf (x * x+y * y)∧0≤x * x+y * y∧x * x+y * y≤2000000000000:=by
 obtain ⟨h1,h2,h3,h4⟩:=vecOk_iff.1 h
 obtain ⟨a1,a2⟩:=sq_bound h1 h2
 obtain ⟨b1,b2⟩:=sq_bound h3 h4
 refine ⟨?_,by omega,by omega⟩
 unfold lenW
 congr 1
 unfold wrap64
 omega
theorem lenW_arg {x y:Int} (h:vecOk x y=true):0≤wrap64 (wrap64 (x * x)+wrap64 (y * y))∧wrap64 (wrap64 (x * x)+wrap64 (y * y))≤4000000000000:=by
 obtain ⟨h1,h2,h3,h4⟩:=vecOk_iff.1 h
 obtain ⟨a1,a2⟩:=sq_bound h1 h2
 obtain ⟨b1,b2⟩:=sq_bound h3 h4
 unfold wrap64
 omega
set_option maxRecDepth 100000 in
set_option maxHeartbeats 1000000 in
theorem vecLength_any (x y:Int) (hv:vecOk x y=true) (w:World):Calls Qy.prog 162 #[vecV x y] w fun e w'=>e=.returned (.tuple #[.int .i64 (lenW x y),.bool true])∧Below w.heap.size w w':=by
 obtain ⟨h1,h2⟩:=lenW_arg hv
 have HV:=Lib.hid hv
 have H1:=Lib.hid h1
 have H2:=Lib.hid h2
 clear h1 h2 hv
 go_enter Qy.func162,Tryz.ntmps162
 go_wp2_with fail
 refine into_worldC (fun W=>Below w.heap.size w W∧Blk W w.heap.size 24 #[.int .i64 x,.int .i64 y]) ⟨by go_grown,Blk.new _ _ _⟩ ?_
 rintro W ⟨hb,k⟩
 have HB:=Lib.hid hb
 have K:=Lib.hid k
 clear hb k
 refine (implVecOk_any x y _).mono ?_
 rintro e w1 ⟨rfl,hb1⟩
 rw [HV.out]
 replace HB:=Lib.hid (below_next HB.out hb1)
 replace K:=Lib.hid (K.out.next hb1)
 clear hb1
 have ck:=fun o=>K.out.cell o
 have fk:=fun o=>K.out.frozen o
 have zk:=K.out.lt
 go_wp2_with fail
 refine (square_any x y _).mono ?_
 rintro e w2 ⟨rfl,hb2⟩
 replace HB:=Lib.hid (below_next HB.out hb2)
 clear hb2 ck fk zk
 go_wp2_with fail
 refine (root_any _ H1.out H2.out _).mono ?_
 rintro e w3 ⟨rfl,rfl⟩
 go_wp2_with fail
 exact bodyPost_ret (v:=.tuple #[.int .i64 (lenW x y),.bool true]) (by simp [results,Tryz.results162,go_sem,lenW]) rfl ⟨rfl,HB.out⟩
set_option maxRecDepth 100000 in
set_option maxHeartbeats 1000000 in
theorem given_any (x y:Int) (hv:vecOk x y=true) (w:World):Calls Qy.prog 161 #[vecV x y] w fun e w'=>e=.returned (.tuple #[vecV x y,.bool true])∧Below w.heap.size w w':=by
 have HV:=Lib.hid hv
 clear hv
 go_enter Qy.func161,Tryz.ntmps161
 go_wp2_with fail
 refine into_worldC (fun W=>Below w.heap.size w W∧Blk W w.heap.size 24 #[.int .i64 x,.int .i64 y]∧Blk W (w.heap.size+1) 24 #[.int .i64 0,.int .i64 0]) ⟨by go_grown,(Blk.new _ _ _).alloc _,Blk.newAt _ _ _ _ (by simp)⟩ ?_
 rintro W ⟨hb,k,r⟩
 have HB:=Lib.hid hb
 have K:=Lib.hid k
 have R:=Lib.hid r
 clear hb k r
 refine (implVecOk_any x y _).mono ?_
 rintro e w1 ⟨rfl,hb1⟩
 rw [HV.out]
 replace HB:=Lib.hid (below_next HB.out hb1)
 replace K:=Lib.hid (K.out.next hb1)
 replace R:=Lib.hid (R.out.next hb1)
 clear hb1
 have ck:=fun o=>K.out.cell o
 have fk:=fun o=>K.out.frozen o
 have zk:=K.out.lt
 have cr:=fun o=>R.out.cell o
 have fr:=fun o=>R.out.frozen o
 have zr:=R.out.lt
 go_wp2_with fail
 refine bodyPost_ret (v:=.tuple #[vecV x y,.bool true]) (by simp [results,Tryz.results161,go_sem,cr]) rfl ⟨rfl,?_⟩
 exact (HB.out.setCell (by simp) _).setCell (by simp) _
set_option maxRecDepth 100000 in
set_option maxHeartbeats 1000000 in
theorem vecAdd_any (x y u v:Int) (h1:vecOk x y=true) (h2:vecOk u v=true) (h3:vecOk (x+u) (y+v)=true) (w:World):Calls Qy.prog 154 #[vecV x y,vecV u v] w fun e w'=>e=.returned (.tuple #[vecV (x+u) (y+v),.bool true])∧Below w.heap.size w w':=by
 have hx:IntKind.i64.wrap (x+u)=x+u:=by have:=vecOk_iff.1 h3;rw [IntKind.wrap_i64];omega
 have hy:IntKind.i64.wrap (y+v)=y+v:=by have:=vecOk_iff.1 h3;rw [IntKind.wrap_i64];omega
 have H1:=Lib.hid h1
 have H2:=Lib.hid h2
 have H3:=Lib.hid h3
 clear h1 h2 h3
 go_enter Qy.func154,Tryz.ntmps154
 go_wp2_with fail
 refine into_worldC (fun W=>Below w.heap.size w W∧Blk W w.heap.size 24 #[.int .i64 x,.int .i64 y]∧Blk W (w.heap.size+1) 24 #[.int .i64 u,.int .i64 v]∧Blk W (w.heap.size+2) 24 #[.int .i64 0,.int .i64 0]) ⟨by go_grown,((Blk.new _ _ _).alloc _).alloc _,(Blk.newAt _ _ _ _ (by simp)).alloc _,Blk.newAt _ _ _ _ (by simp)⟩ ?_
 rintro W ⟨hb,k,l,r⟩
 have HB:=Lib.hid hb
 have K:=Lib.hid k
 have L:=Lib.hid l
 have R:=Lib.hid r
 clear hb k l r
 refine (implVecOk_any x y _).mono ?_
 rintro e w1 ⟨rfl,hb1⟩
 rw [H1.out]
 replace HB:=Lib.hid (below_next HB.out hb1)
 replace K:=Lib.hid (K.out.next hb1)
 replace L:=Lib.hid (L.out.next hb1)
 replace R:=Lib.hid (R.out.next hb1)
 clear hb1
 have cl:=fun o=>L.out.cell o
 have fl:=fun o=>L.out.frozen o
 have zl:=L.out.lt
 go_wp2_with fail
 refine (implVecOk_any u v _).mono ?_
 rintro e w2 ⟨rfl,hb2⟩
 rw [H2.out]
 replace HB:=Lib.hid (below_next HB.out hb2)
 replace K:=Lib.hid (K.out.next hb2)
 replace L:=Lib.hid (L.out.next hb2)
 replace R:=Lib.hid (R.out.next hb2)
 clear hb2 cl fl zl
 have ck:=fun o=>K.out.cell o
 have fk:=fun o=>K.out.frozen o
 have zk:=K.out.lt
 have cl:=fun o=>L.out.cell o
 have fl:=fun o=>L.out.frozen o
 have zl:=L.out.lt
 go_wp2_with fail
 refine (given_any (x+u) (y+v) H3.out _).mono ?_
 rintro e w3 ⟨rfl,hb3⟩
 replace HB:=Lib.hid (below_next HB.out hb3)
 replace R:=Lib.hid (R.out.next hb3)
 clear hb3 ck fk zk cl fl zl
 have cr:=fun o=>R.out.cell o
 have fr:=fun o=>R.out.frozen o
 have zr:=R.out.lt
 go_wp2_with fail
 refine bodyPost_ret (v:=.tuple #[vecV (x+u) (y+v),.bool true]) (by simp [results,Tryz.results154,go_sem,cr]) rfl ⟨rfl,?_⟩
 exact (HB.out.setCell (by simp;omega) _).setCell (by simp;omega) _
set_option maxHeartbeats 400000 in
theorem fixedOk_any (n:Int) (w:World):Calls Qy.prog 138 #[.int .i64 n] w fun e w'=>e=.returned (.bool (decide (-2000000000≤n∧n≤2000000000)))∧w=w':=by
 by_cases h1 : -2000000000≤n
 ·by_cases h2:n≤2000000000
  ·go_enter Qy.func138,Tryz.ntmps138
   go_wp2_with fail
   go_ret
   exact ⟨ret_bool (by simp [h1,h2]),rfl⟩
  ·go_enter Qy.func138,Tryz.ntmps138
   go_wp2_with fail
   go_ret
   exact ⟨ret_bool (by simp [h1,h2]),rfl⟩
 ·go_enter Qy.func138,Tryz.ntmps138
  go_wp2_with fail
  go_ret
  exact ⟨ret_bool (by simp [h1];omega),rfl⟩
theorem fixOk_any (n:Int) (w:World):Calls Qy.prog 160 #[.int .i64 n] w fun e w'=>e=.returned (.bool (decide (-2000000000≤n∧n≤2000000000)))∧w=w':=by
 go_enter Qy.func160,Tryz.ntmps160
 go_wp2_with fail
 refine (fixedOk_any n _).mono ?_
 rintro e w1 ⟨rfl,rfl⟩
 go_wp2_with fail
 go_ret
 exact ⟨ret_bool (by simp),rfl⟩
set_option maxRecDepth 100000 in
set_option maxHeartbeats 1000000 in
theorem vecScale_any (x y k:Int) (h1:vecOk x y=true) (h2 : -2000000000≤k∧k≤2000000000) (h3:vecOk (mulW x k) (mulW y k)=true) (w:World):Calls Qy.prog 153 #[vecV x y,.int .i64 k] w fun e w'=>e=.returned (.tuple #[vecV (mulW x k) (mulW y k),.bool true])∧Below w.heap.size w w':=by
 have H1:=Lib.hid h1
 have H2:=Lib.hid (show decide (-2000000000≤k∧k≤2000000000)=true by simp [h2])
 have H3:=Lib.hid h3
 clear h1 h2 h3
 go_enter Qy.func153,Tryz.ntmps153
 go_wp2_with fail
 refine into_worldC (fun W=>Below w.heap.size w W∧Blk W w.heap.size 24 #[.int .i64 x,.int .i64 y]∧Blk W (w.heap.size+1) 24 #[.int .i64 0,.int .i64 0]) ⟨by go_grown,(Blk.new _ _ _).alloc _,Blk.newAt _ _ _ _ (by simp)⟩ ?_
 rintro W ⟨hb,kk,r⟩
 have HB:=Lib.hid hb
 have K:=Lib.hid kk
 have R:=Lib.hid r
 clear hb kk r
 refine (implVecOk_any x y _).mono ?_
 rintro e w1 ⟨rfl,hb1⟩
 rw [H1.out]
 replace HB:=Lib.hid (below_next HB.out hb1)
 replace K:=Lib.hid (K.out.next hb1)
 replace R:=Lib.hid (R.out.next hb1)
 clear hb1
 go_wp2_with fail
 refine (fixOk_any k _).mono ?_
 rintro e w2 ⟨rfl,rfl⟩
 rw [H2.out]
 have ck:=fun o=>K.out.cell o
 have fk:=fun o=>K.out.frozen o
 have zk:=K.out.lt
 go_wp2_with fail
 refine (given_any (mulW x k) (mulW y k) H3.out _).mono ?_
 rintro e w3 ⟨rfl,hb3⟩
 replace HB:=Lib.hid (below_next HB.out hb3)
 replace R:=Lib.hid (R.out.next hb3)
 clear hb3 ck fk zk
 have cr:=fun o=>R.out.cell o
 have fr:=fun o=>R.out.frozen o
 have zr:=R.out.lt
 go_wp2_with fail
 refine bodyPost_ret (v:=.tuple #[vecV (mulW x k) (mulW y k),.bool true]) (by simp [results,Tryz.results153,go_sem,cr]) rfl ⟨rfl,?_⟩
 exact (HB.out.setCell (by simp) _).setCell (by simp) _
set_option maxRecDepth 100000 in
set_option maxHeartbeats 1000000 in
theorem vecClamp_any (x y m:Int) (h1:vecOk x y=true) (h2:0≤m∧m≤1000000) (w:World):Calls Qy.prog 155 #[vecV x y,.int .i64 m] w fun e w'=>e=.returned (.tuple #[vecV (clampW x y m).1 (clampW x y m).2,.bool true])∧Below w.heap.size w w':=by
 have H1:=Lib.hid h1
 have H2:=Lib.hid (show inR m 0 1000000=true by simp [inR,h2])
 have hm0:0≤m:=h2.1
 clear h1 h2
 go_enter Qy.func155,Tryz.ntmps155
 go_wp2_with fail
 refine into_worldC (fun W=>Below w.heap.size w W∧Blk W w.heap.size 24 #[.int .i64 x,.int .i64 y]∧Blk W (w.heap.size+1) 24 #[.int .i64 0,.int .i64 0]) ⟨by go_grown,(Blk.new _ _ _).alloc _,Blk.newAt _ _ _ _ (by simp)⟩ ?_
 rintro W ⟨hb,kk,r⟩
 have HB:=Lib.hid hb
 have K:=Lib.hid kk
 have R:=Lib.hid r
 clear hb kk r
 refine (vecLength_any x y H1.out _).mono ?_
 rintro e w1 ⟨rfl,hb1⟩
 replace HB:=Lib.hid (below_next HB.out hb1)
 replace K:=Lib.hid (K.out.next hb1)
 replace R:=Lib.hid (R.out.next hb1)
 clear hb1
 go_wp2_with fail
 refine (inRange_any _ _ _ _).mono ?_
 rintro e w2 ⟨rfl,rfl⟩
 rw [H2.out]
 have ck:=fun o=>K.out.cell o
 have fk:=fun o=>K.out.frozen o
 have zk:=K.out.lt
 have cr:=fun o=>R.out.cell o
 have fr:=fun o=>R.out.frozen o
 have zr:=R.out.lt
 by_cases hl:lenW x y≤m
 ·have HC:=Lib.hid (show clampW x y m=(x,y) by unfold clampW;rw [if_pos hl])
  go_wp2_with fail
  refine bodyPost_ret (v:=.tuple #[vecV (clampW x y m).1 (clampW x y m).2,.bool true]) (by rw [HC.out];simp [results,Tryz.results155,go_sem,cr]) rfl ⟨rfl,?_⟩
  exact (HB.out.setCell (by simp) _).setCell (by simp) _
 ·have HC:=Lib.hid (show clampW x y m=(wrap64 ((wrap64 (x * m)).tdiv (lenW x y)),wrap64 ((wrap64 (y * m)).tdiv (lenW x y))) by unfold clampW;rw [if_neg hl])
  have hne:((lenW x y) == 0)=false:=by simp;omega
  go_wp2_with fail
  have hnz:¬ lenW x y=0:=by omega
  go_still_tail 13,(by kernel_rfl)
  change wpList _ _ _ _ _ w1.drew
  clear cr fr zr ck fk zk
  have d:=fun o=>R.out.cell o
  have f:=fun o=>R.out.frozen o
  have z:=R.out.lt
  go_wp2
  refine bodyPost_ret (v:=.tuple #[vecV (clampW x y m).1 (clampW x y m).2,.bool true]) (by rw [HC.out];simp [results,Tryz.results155,go_sem,d]) rfl ⟨rfl,?_⟩
  have hb:=HB.out
  go_grown
end Go.Proofs.YtpcjdalgebgofaaGreatDoorY
namespace Go.Proofs.YtpcjdalgebgofaaGreatDoorY
open Go.RowKit Go.Sort Go.Shelf
structure KeepC (B:Nat) (X Y:World):Prop where
 size:X.heap.size≤Y.heap.size
 cells:∀ (k:Nat) c t z,B≤k→X.heap[k]?=some (.cells c t z)→Y.heap[k]?=some (.cells c t z)
theorem KeepC.blk {B g T:Nat} {X Y:World} {cs:Array Value} (h:KeepC B X Y) (hb:Blk X g T cs) (hg:B≤g):Blk Y g T cs:=h.cells g cs T (0,0) hg hb
def dirX (k:Nat):Int:=dirW (k % 16)
def dirY (k:Nat):Int:=dirW ((k+12) % 16)
def qX (k i:Nat):Int:=dirX (4 * ((k+3 - i) / 4)+i)
def qY (k i:Nat):Int:=dirY (4 * ((k+3 - i) / 4)+i)
def quarter (k:Nat):Array Value:=#[.int .i64 (qX k 0),.int .i64 (qY k 0),.int .i64 (qX k 1),.int .i64 (qY k 1),.int .i64 (qX k 2),.int .i64 (qY k 2),.int .i64 (qX k 3),.int .i64 (qY k 3)]
theorem quarter_zero:quarter 0=#[.int .i64 1000,.int .i64 0,.int .i64 924,.int .i64 383,.int .i64 707,.int .i64 707,.int .i64 383,.int .i64 924]:=by kernel_rfl
theorem quarter_at (r i:Nat) (hr:r<4) (hi:i<4):qX (4 * r+i) i=dirX (4 * r+i)∧qY (4 * r+i) i=dirY (4 * r+i):=by
 unfold qX qY
 rw [show 4 * ((4 * r+i+3 - i) / 4)+i=4 * r+i by omega]
 exact ⟨rfl,rfl⟩
theorem quarter_cell (r j:Nat) (hr:r<4) (hj:j<4):(quarter (4 * r+j))[j * 2]?=some (.int .i64 (dirX (4 * r+j)))∧(quarter (4 * r+j))[j * 2+1]?=some (.int .i64 (dirY (4 * r+j))):=by
 obtain ⟨h1,h2⟩:=quarter_at r j hr hj
 rw [← h1,← h2]
 have hj':j=0∨j=1∨j=2∨j=3:=by omega
 rcases hj' with rfl|rfl|rfl|rfl <;> exact ⟨rfl,rfl⟩
theorem dirW_bound (d:Nat) : -1000≤dirW d∧dirW d≤1000:=by
 rcases Nat.lt_or_ge d 16 with h|h
 ·have:∀ d:Fin 16,-1000≤dirW d.1∧dirW d.1≤1000:=by decide
  exact this ⟨d,h⟩
 ·have:dirT[d]?=none:=List.getElem?_eq_none (by simpa [dirT] using h)
  simp [dirW,this]
theorem quarter_next (r i:Nat) (hr:r<4) (hi:i<4):quarter (4 * r+i+1)=((quarter (4 * r+i)).setIfInBounds (2 * i) (.int .i64 (-dirY (4 * r+i)))).setIfInBounds (2 * i+1) (.int .i64 (dirX (4 * r+i))):=by
 have hr':r=0∨r=1∨r=2∨r=3:=by omega
 have hi':i=0∨i=1∨i=2∨i=3:=by omega
 rcases hr' with rfl|rfl|rfl|rfl <;> rcases hi' with rfl|rfl|rfl|rfl <;> (show _=_;kernel_rfl)
attribute [local go_sem] Oper.semAt_some
set_option maxRecDepth 100000 in
set_option maxHeartbeats 4000000 in
theorem dirs1_in (F:Fence) (n:Nat) (h7:F.fn 165) (hro:F.round=none) (hn:1≤n) (l:Nat) (W:World) (J:Nat→World→Prop) (Jx:World→Prop) (hJ:∀ k X Y,J k X→Below W.heap.size X Y→J k Y)
  (hY:∀ k X,J k X→W.heap.size≤X.heap.size→k<16→YieldAt F (n - 1) Qy.prog l #[vecV (dirX k) (dirY k)] X fun e X'=>(e=.returned (.bool true)∧J (k+1) X'∧KeepC W.heap.size X X')∨(e=.returned (.bool false)∧Jx X')) (h0:J 0 W) :
  CallsIn F n Qy.prog 165 #[.func (.yield l) #[] #[]] W fun e W'=>(∃ v,e=.returned v)∧(J 16 W'∨Jx W'):=by
 have HJ:=Lib.hid hJ
 have HY:=Lib.hid hY
 clear hJ hY
 refine callsIn_of_wp Qy.func165 rfl h7 ?_ hro
 simp only [Tryz.ntmps165,List.size_toArray,List.length_cons,List.length_nil,Nat.reduceAdd,Nat.reduceSub,Array.replicate_succ,Array.replicate_zero,List.push_toArray,List.append_toArray,List.nil_append,List.cons_append]
 gi_wp2
 gi_loopw [10] (fun i wr=>∃ r:Nat,r≤4∧i=.int .i64 r∧Hid (J (4 * r) wr∧Blk wr W.heap.size 24 (quarter (4 * r)))) (fun i _=>4 - (intOf i).toNat)
 case atStart=>exact ⟨0,by omega,rfl,HJ.out _ _ _ h0 (by go_grown),by rw [show 4 * 0=0 from rfl,quarter_zero];exact Blk.new _ _ _⟩
 case round =>
  obtain ⟨r,hr,rfl,HQ⟩:=hrel
  by_cases h4:r=4
  ·subst h4
   gi_wp2
   go_end0
   exact ⟨⟨_,rfl⟩,.inl HQ.out.1⟩
  ·have hr4:r<4:=by omega
   have hri:(r:Int)<4:=by omega
   gi_wp2
   generalize wr=wo at *
   gi_loopw [14] (fun i wr=>∃ j:Nat,j≤4∧i=.int .i64 j∧Hid (J (4 * r+j) wr∧Blk wr W.heap.size 24 (quarter (4 * r+j)))) (fun i _=>4 - (intOf i).toNat)
   case atStart=>exact ⟨0,by omega,rfl,HQ.out⟩
   case round =>
    obtain ⟨j,hj,rfl,HP⟩:=hrel
    by_cases h4j:j=4
    ·subst h4j
     gi_wp2
     exact ⟨⟨r+1,by omega,by go_num,by rw [show 4 * (r+1)=4 * r+4 by omega];exact HP.out⟩,by simp [intOf];omega⟩
    ·have hj4:j<4:=by omega
     have hji:(j:Int)<4:=by omega
     obtain ⟨q0,q1⟩:=quarter_cell r j hr4 hj4
     have c0:wr.cell? ⟨W.heap.size,j * 2,none⟩=some (.int .i64 (dirX (4 * r+j))):=(HP.out.2.cell (j * 2)).trans q0
     have c1:wr.cell? ⟨W.heap.size,j * 2+1,none⟩=some (.int .i64 (dirY (4 * r+j))):=(HP.out.2.cell (j * 2+1)).trans q1
     have hlt:=HP.out.2.lt
     obtain ⟨fn,tmps,assign,body,hy,hR⟩:=HY.out (4 * r+j) (wr.alloc (.cells #[.int .i64 (dirX (4 * r+j)),.int .i64 (dirY (4 * r+j))] 24)) (HJ.out _ _ _ HP.out.1 ((Below.refl _ _).alloc (by omega) _)) (by simp;omega) (by omega)
     dsimp only [vecV] at hy
     have HHR:=Lib.hid hR
     clear hR
     gi_wp2
     refine HHR.out.mono ?_
     rintro e W3 (⟨rfl,hJ3,hk3⟩|⟨rfl,hJx3⟩)
     ·have HJ3:=Lib.hid hJ3
      have hQ:=hk3.blk (HP.out.2.alloc _) (Nat.le_refl _)
      have hV:=hk3.blk (Blk.new wr 24 #[.int .i64 (dirX (4 * r+j)),.int .i64 (dirY (4 * r+j))]) (by omega)
      have HQ3:=Lib.hid hQ
      have v0:W3.cell? ⟨wr.heap.size,0,none⟩=some (.int .i64 (dirX (4 * r+j))):=hV.cell 0
      have v1:W3.cell? ⟨wr.heap.size,1,none⟩=some (.int .i64 (dirY (4 * r+j))):=hV.cell 1
      have hyb:=dirW_bound ((4 * r+j+12) % 16)
      have hneg:IntKind.i64.wrap (-dirY (4 * r+j)) = -dirY (4 * r+j):=by rw [IntKind.wrap_i64];unfold dirY;omega
      have e0:W3.cell? ⟨W.heap.size,j * 2,none⟩=some (.int .i64 (dirX (4 * r+j))):=(HQ3.out.cell (j * 2)).trans q0
      have e1:W3.cell? ⟨W.heap.size,j * 2+1,none⟩=some (.int .i64 (dirY (4 * r+j))):=(HQ3.out.cell (j * 2+1)).trans q1
      have fq:=fun o=>HQ3.out.frozen o
      clear hJ3 hk3 hQ hV c0 c1 q0 q1
      gi_wp2
      refine ⟨⟨j+1,by omega,by go_num,HJ.out _ _ _ HJ3.out (by go_grown),?_⟩,by simp [intOf];omega⟩
      have hs:=(HQ3.out.set_ (2 * j) (.int .i64 (-dirY (4 * r+j)))).set_ (2 * j+1) (.int .i64 (dirX (4 * r+j)))
      rw [← quarter_next r j hr4 hj4,show 2 * j=j * 2 by omega] at hs
      exact hs
     ·have HX:=Lib.hid hJx3
      clear hJx3
      gi_wp2
      refine bodyPost_ret (results_none rfl _ _ _) rfl ?_
      exact ⟨⟨_,rfl⟩,.inr HX.out⟩
end Go.Proofs.YtpcjdalgebgofaaGreatDoorY
namespace Go.Proofs.YtpcjdalgebgofaaGreatDoorY
open Go.RowKit Go.Sort Go.Shelf
attribute [local go_sem] Oper.semAt_some
theorem KeepC.trans {B:Nat} {X Y Z:World} (h:KeepC B X Y) (k:KeepC B Y Z):KeepC B X Z:=⟨Nat.le_trans h.size k.size,fun i c t z hb hc=>k.cells i c t z hb (h.cells i c t z hb hc)⟩
theorem KeepC.putObj {B l:Nat} {X:World} (o:Obj) (hl:l<B):KeepC B X (X.putObj l o):=⟨by simp,fun i c t z hb hc=>(World.putObj_heap_other (by omega)).trans hc⟩
theorem below_putObj {B l:Nat} {X:World} (o:Obj) (hl:B≤l):Below B X (X.putObj l o):=⟨rfl,rfl,rfl,by simp,fun k hk=>World.putObj_heap_other (by omega)⟩
theorem KeepC.setCell {B:Nat} {X:World} (a:Addr) (u:Value) (ha:a.block<B):KeepC B X (X.setCell a u):=⟨by simp,fun i c t z hb hc=>(Below.heap_setCell X a u i (by omega)).trans hc⟩
theorem KeepC.alloc {B:Nat} (X:World) (o:Obj):KeepC B X (X.alloc o):=⟨by simp,fun i c t z hb hc=>(Below.heap_alloc X o i (Array.getElem?_eq_some_iff.1 hc).1).trans hc⟩
theorem Blk.belowB {B g T:Nat} {X Y:World} {cs:Array Value} (h:Blk X g T cs) (hb:Below B X Y) (hg:g<B):Blk Y g T cs:=(hb.block g hg).trans h
theorem Blk.put {g T l:Nat} {X:World} {cs:Array Value} (h:Blk X g T cs) (o:Obj) (hl:g≠l):Blk (X.putObj l o) g T cs:=(World.putObj_heap_other hl).trans h
def postD (B:Nat) (I:Nat→World→Prop) (Ix:World→Prop) (k:Nat) (X:World):Exit→Act→World→Prop
 | .normal,_,Y=>KeepsFrom B X Y∧KeepC (B+2) X Y∧I (k+1) Y
 | .ret,_,Y=>KeepsFrom B X Y∧Ix Y
 | _,_,_=>False
theorem wpIn_dirs {F:Fence} {n:Nat} {g:Operand} {ps:Array Tmp} {assign body:Code} {Q:Exit→Act→World→Prop} {a:Act} {w:World} (hro:F.round=none) (h2:2≤n) (hg:a.eval g=.func (.func 165) #[] #[]) (hFg:F.fn 165) (hps:ps.size=1)
  (I:Nat→World→Prop) (Ix:World→Prop) (hI:∀ k X Y,I k X→Below w.heap.size X Y→I k Y) (hIx:∀ X Y,Ix X→Below w.heap.size X Y→Ix Y) (h0:I 0 w)
  (hround:∀ (l k:Nat) (X:World),l=w.heap.size+1→l<X.heap.size→I k X→k<16 →
   assign.wpIn (F.inRound l) (n - 1 - 1) Qy.prog (Exit.then (fun a' X1=>KeepsFrom w.heap.size X X1∧KeepC (w.heap.size+2) X X1∧∀ r:Loop,body.wpIn (F.inRound l) (n - 1 - 1) Qy.prog (postD w.heap.size I Ix k (X1.putObj l (.loop r))) a' (X1.putObj l (.loop r))) (fun _ _ _=>False))
    { tmps:=(ps.zip #[vecV (dirX k) (dirY k)]).foldl (fun t (p,v)=>t.setIfInBounds p v) a.tmps,defers:=[] } X)
  (hdone:∀ (D:Nat) (X:World),w.heap.size≤D→I 16 X→X.heap[D]?=some (.deferred (some []))→Q .normal { a with defers:={ target:=.collected D,args:=#[] } :: a.defers } X)
  (hstop:∀ (D:Nat) (X:World),w.heap.size≤D→Ix X→X.heap[D]?=some (.deferred (some []))→Code.ret.wpIn F n Qy.prog Q { a with defers:={ target:=.collected D,args:=#[] } :: a.defers } X) :
  (Code.rangeFunc g ps assign body).wpIn F n Qy.prog Q a w:=by
 refine wpIn_rangeFunc ?_
 intro fn hfn
 rw [hro]
 obtain ⟨rec,hrec⟩:∃ rec:LoopState→Option Code→Loop,rec=fun st pe=>{ state:=st,pending:=pe,fn,tmps:=a.tmps,params:=ps,assign,body,defers:=w.heap.size }:=⟨_,rfl⟩
 obtain ⟨W1,hW1⟩:∃ W1,(w.alloc (.deferred (some []))).alloc (.loop (rec .ready none))=W1:=⟨_,rfl⟩
 have hs1:W1.heap.size=w.heap.size+2:=by rw [← hW1];simp
 have hL1:W1.heap[w.heap.size+1]?=some (.loop (rec .ready none)):=by
  rw [← hW1]
  have:=World.alloc_heap_new (w.alloc (.deferred (some []))) (.loop (rec .ready none))
  rwa [World.size_alloc] at this
 have hK1:W1.heap[w.heap.size]?=some (.deferred (some [])):=by
  rw [← hW1];exact (Below.heap_alloc _ _ _ (by simp)).trans (World.alloc_heap_new w _)
 have hI1:I 0 W1:=by rw [← hW1];exact hI _ _ _ h0 (((Below.refl _ w).alloc (Nat.le_refl _) _).alloc (by simp) _)
 refine ⟨w.heap.size+1,[{ target:=.collected w.heap.size,args:=#[] }],W1,{ target:=.fn (.func 165) #[],args:=#[.func (.yield (w.heap.size+1)) #[] #[]] },W1,165,
  #[.func (.yield (w.heap.size+1)) #[] #[]],W1,?_,?_,?_,?_,fun _=>by omega,?_⟩
 ·rw [← hW1,hrec];exact run_enterLoop_outer _ _ _ _ _
 ·simp only [resolve,hg]
  simp [go_sem]
 ·intro f' hf';simp [Target.leads] at hf';subst hf';exact hFg
 ·simp [invoke,go_sem]
 ·refine (dirs1_in F (n - 1) hFg hro (by omega) (w.heap.size+1) W1
   (fun k X=>I k X∧X.heap[w.heap.size+1]?=some (.loop (rec .ready none))∧X.heap[w.heap.size]?=some (.deferred (some [])))
   (fun X=>Ix X∧X.heap[w.heap.size+1]?=some (.loop (rec .done (some .ret)))∧X.heap[w.heap.size]?=some (.deferred (some [])))
   (fun k X Y h hb=>⟨hI _ _ _ h.1 (hb.mono (by omega)),(hb.block _ (by omega)).trans h.2.1,(hb.block _ (by omega)).trans h.2.2⟩) ?_ ⟨hI1,hL1,hK1⟩).mono ?_
  ·rintro k X ⟨hi,hl,hk⟩ hX hlt
   have hlX:w.heap.size+1<X.heap.size:=by omega
   have hy:=run_yield (P:=Qy.prog) (args:=#[vecV (dirX k) (dirY k)]) hl (by rw [hrec];simp [hps])
   rw [hrec] at hy
   refine ⟨fn,_,assign,body,hy,roundIn_of_wpIn hfn (wpIn_mono (hround (w.heap.size+1) k X rfl hlX hi hlt) ?_)⟩
   clear hy
   rintro e a' X1 h
   cases e with
   | normal =>
    obtain ⟨hk1,hc1,hb⟩:=h
    have hl1:=hk1.same _ _ (by omega) hl rfl
    have hd1:=hk1.same _ _ (Nat.le_refl _) hk rfl
    have hlt1:w.heap.size+1<X1.heap.size:=(Array.getElem?_eq_some_iff.1 hl1).1
    refine ⟨_,run_beginRound hl1 (by rw [hrec]),?_⟩
    have hl2:(X1.putObj (w.heap.size+1) (.loop { rec .ready none with state:=.busy })).heap[w.heap.size+1]?=some (.loop { rec .ready none with state:=.busy }):=World.putObj_heap_same hlt1
    have hd2:(X1.putObj (w.heap.size+1) (.loop { rec .ready none with state:=.busy })).heap[w.heap.size]?=some (.deferred (some [])):=(World.putObj_heap_other (by omega)).trans hd1
    refine wpIn_mono (hb _) ?_
    have fin:∀ (jump:Option Code) (X3:World),KeepsFrom w.heap.size (X1.putObj (w.heap.size+1) (.loop { rec .ready none with state:=.busy })) X3 →
      (Instr.endRound (w.heap.size+1) jump).run Qy.prog X3=.ok (.bool jump.isNone) (X3.putObj (w.heap.size+1) (.loop (rec (if jump.isNone then .ready else .done) jump))) ∧
      (X3.putObj (w.heap.size+1) (.loop (rec (if jump.isNone then .ready else .done) jump))).heap[w.heap.size+1]?=some (.loop (rec (if jump.isNone then .ready else .done) jump)) ∧
      (X3.putObj (w.heap.size+1) (.loop (rec (if jump.isNone then .ready else .done) jump))).heap[w.heap.size]?=some (.deferred (some [])):=fun jump X3 hk3=>by
     have hl3:=hk3.same _ _ (by omega) hl2 rfl
     have hr:=run_endRound (P:=Qy.prog) jump hl3
     rw [hrec] at hr ⊢
     exact ⟨hr,World.putObj_heap_same (Array.getElem?_eq_some_iff.1 hl3).1,(World.putObj_heap_other (by omega)).trans (hk3.same _ _ (Nat.le_refl _) hd2 rfl)⟩
    rintro e a3 X3 hp
    cases e with
    | normal =>
     obtain ⟨hk3,hc3,hi3⟩:=hp
     obtain ⟨hr,hl4,hd4⟩:=fin none X3 hk3
     refine ⟨_,_,hr,.inl ⟨rfl,⟨hI _ _ _ hi3 (below_putObj _ (by omega)),hl4,hd4⟩,?_⟩⟩
     rw [hs1]
     exact hc1.trans ((KeepC.putObj _ (by omega)).trans (hc3.trans (KeepC.putObj _ (by omega))))
    | ret =>
     obtain ⟨hk3,hi3⟩:=hp
     obtain ⟨hr,hl4,hd4⟩:=fin (some .ret) X3 hk3
     exact ⟨_,_,hr,.inr ⟨rfl,hIx _ _ hi3 (below_putObj _ (by omega)),hl4,hd4⟩⟩
    | _=>exact hp.elim
   | _=>exact h.elim
  ·rintro e X ⟨⟨v,rfl⟩,(⟨hi,hl,hk⟩|⟨hi,hl,hk⟩)⟩
   ·exact ⟨none,_,by have:=run_endLoop (P:=Qy.prog) hl (by rw [hrec];simp);rw [hrec] at this;exact this,hdone _ _ (Nat.le_refl _) (hI _ _ _ hi (below_putObj _ (by omega))) ((World.putObj_heap_other (by omega)).trans hk)⟩
   ·exact ⟨some .ret,_,by have:=run_endLoop (P:=Qy.prog) hl (by rw [hrec];simp);rw [hrec] at this;exact this,hstop _ _ (Nat.le_refl _) (hIx _ _ hi (below_putObj _ (by omega))) ((World.putObj_heap_other (by omega)).trans hk)⟩
theorem directions_in (F:Fence) (n:Nat) (h6:F.fn 159) (hro:F.round=none) (w:World) :
  CallsIn F n Qy.prog 159 #[] w fun e w'=>e=.returned (.func (.func 165) #[] #[])∧w'=w:=by
 refine callsIn_of_wp Qy.func159 rfl h6 ?_ hro
 simp only [Tryz.ntmps159,List.size_toArray,List.length_cons,List.length_nil,Nat.reduceAdd,Nat.reduceSub,Array.replicate_succ,Array.replicate_zero,List.push_toArray,List.append_toArray,List.nil_append,List.cons_append]
 gi_wp2
 go_ret
 exact ⟨rfl,rfl⟩
set_option maxRecDepth 100000 in
set_option maxHeartbeats 4000000 in
theorem vecDirection_in (F:Fence) (n:Nat) (h3:F.fn 152) (h5:F.fn 159) (h7:F.fn 165) (hro:F.round=none) (hn:3≤n) (d:Nat) (hd:d<16) (w:World) :
  CallsIn F n Qy.prog 152 #[.int .i64 d] w fun e W'=>e=.returned (.tuple #[vecV (dirX d) (dirY d),.bool true])∧Below w.heap.size w W':=by
 have h1:1≤n:=by omega
 refine callsIn_of_wp_marks Qy.func152 rfl h3 ?_ hro
 simp only [Tryz.ntmps152,List.size_toArray,List.length_cons,List.length_nil,Nat.reduceAdd,Nat.reduceSub,Array.replicate_succ,Array.replicate_zero,List.push_toArray,List.append_toArray,List.nil_append,List.cons_append]
 gi_wp2_with (gi_at_call 159;refine (directions_in F (n - 1) h5 hro _).mono ?_;rintro e w' ⟨rfl,rfl⟩)
 obtain ⟨W0,hW0⟩:∃ W0,((w.alloc (.cells #[.int .i64 d] 3)).alloc (.cells #[.int .i64 0,.int .i64 0] 24)).alloc (.cells #[.bool false] 4)=W0:=⟨_,rfl⟩
 have hsz:W0.heap.size=w.heap.size+3:=by rw [← hW0];simp
 have b0:Blk W0 w.heap.size 3 #[.int .i64 d]:=by rw [← hW0];exact ((Blk.new _ _ _).alloc _).alloc _
 have b1:Blk W0 (w.heap.size+1) 24 #[.int .i64 0,.int .i64 0]:=by rw [← hW0];exact (Blk.newAt _ _ _ _ (by simp)).alloc _
 have b2:Blk W0 (w.heap.size+2) 4 #[.bool false]:=by rw [← hW0];exact Blk.newAt _ _ _ _ (by simp)
 have hB0:Below w.heap.size w W0:=by rw [← hW0];go_grown
 rw [hW0]
 clear hW0
 refine wpIn_dirs hro (by omega) rfl h7 rfl
  (fun k X=>k≤d∧Blk X w.heap.size 3 #[.int .i64 ((d:Int) - k)]∧Blk X (w.heap.size+1) 24 #[.int .i64 0,.int .i64 0]∧Blk X (w.heap.size+2) 4 #[.bool false]∧Below w.heap.size w X)
  (fun X=>Blk X (w.heap.size+1) 24 #[.int .i64 (dirX d),.int .i64 (dirY d)]∧Blk X (w.heap.size+2) 4 #[.bool true]∧Below w.heap.size w X)
  (fun k X Y h hb=>⟨h.1,h.2.1.belowB hb (by omega),h.2.2.1.belowB hb (by omega),h.2.2.2.1.belowB hb (by omega),h.2.2.2.2.trans (hb.mono (by omega))⟩)
  (fun X Y h hb=>⟨h.1.belowB hb (by omega),h.2.1.belowB hb (by omega),h.2.2.trans (hb.mono (by omega))⟩)
  ⟨Nat.zero_le _,by simpa using b0,b1,b2,hB0⟩ ?round ?done ?stop
 case round =>
  rintro l k X hl hlX ⟨hk,c0,c1,c2,hB⟩ hlt
  have C0:=Lib.hid c0
  have C1:=Lib.hid c1
  have C2:=Lib.hid c2
  have HB:=Lib.hid hB
  clear c0 c1 c2 hB b0 b1 b2 hB0
  gi_wp2
  refine ⟨(KeepsOthers.alloc _ _).from _,KeepC.alloc _ _,fun r=>?_⟩
  have d0:=(C0.out.alloc (.cells #[.int .i64 (dirX k),.int .i64 (dirY k)] 24)).put (.loop r) (show w.heap.size≠l by omega)
  have d1:=(C1.out.alloc (.cells #[.int .i64 (dirX k),.int .i64 (dirY k)] 24)).put (.loop r) (show w.heap.size+1≠l by omega)
  have d2:=(C2.out.alloc (.cells #[.int .i64 (dirX k),.int .i64 (dirY k)] 24)).put (.loop r) (show w.heap.size+2≠l by omega)
  have dv:=(Blk.new X 24 #[.int .i64 (dirX k),.int .i64 (dirY k)]).put (.loop r) (show X.heap.size≠l by omega)
  have hB2:=(HB.out.alloc HB.out.size (.cells #[.int .i64 (dirX k),.int .i64 (dirY k)] 24)).trans (below_putObj (.loop r) (show w.heap.size≤l by omega))
  generalize (X.alloc (.cells #[.int .i64 (dirX k),.int .i64 (dirY k)] 24)).putObj l (.loop r)=X2 at d0 d1 d2 dv hB2 ⊢
  have v0:X2.cell? ⟨X.heap.size,0,none⟩=some (.int .i64 (dirX k)):=dv.cell 0
  have v1:X2.cell? ⟨X.heap.size,1,none⟩=some (.int .i64 (dirY k)):=dv.cell 1
  have e0:X2.cell? ⟨w.heap.size,0,none⟩=some (.int .i64 ((d:Int) - k)):=d0.cell 0
  have f0:=d0.frozen 0
  have g0:X2.cell? ⟨w.heap.size+1,0,none⟩=some (.int .i64 0):=d1.cell 0
  have g1:X2.cell? ⟨w.heap.size+1,1,none⟩=some (.int .i64 0):=d1.cell 1
  have h0:X2.cell? ⟨w.heap.size+2,0,none⟩=some (.bool false):=d2.cell 0
  have fg0:=d1.frozen 0
  have fg1:=d1.frozen 1
  have fh0:=d2.frozen 0
  have hlt0:=d0.lt
  have hlt1:=d1.lt
  have hlt2:=d2.lt
  have D0:=Lib.hid d0
  have D1:=Lib.hid d1
  have D2:=Lib.hid d2
  have HB2:=Lib.hid hB2
  clear d0 d1 d2 dv hB2
  by_cases hkd:k=d
  ·subst hkd
   rw [Int.sub_self] at e0
   gi_wp2
   refine ⟨(((KeepsOthers.setCell _ _ _).trans (KeepsOthers.setCell _ _ _)).trans (KeepsOthers.setCell _ _ _)).from _,?_,?_,?_⟩
   ·exact (((D1.out.set_ 0 (.int .i64 (dirX k))).set_ 1 (.int .i64 (dirY k))).far (p:=⟨w.heap.size+1+1,0,none⟩) (by simp) (.bool true))
   ·exact (((D2.out.far (p:=⟨w.heap.size+1,0,none⟩) (by simp) (.int .i64 (dirX k))).far (p:=⟨w.heap.size+1,1,none⟩) (by simp) (.int .i64 (dirY k))).set_ 0 (.bool true))
   ·have hb:=HB2.out
    exact ((hb.setCell (by simp) _).setCell (by simp) _).setCell (by simp;omega) _
  ·have hne:¬ (d:Int) - k=0:=by omega
   gi_wp2
   refine ⟨(KeepsOthers.setCell _ _ _).from _,KeepC.setCell _ _ (by simp;omega),by omega,?_,?_,?_,?_⟩
   ·rw [show (d:Int) - ((k+1:Nat):Int)=(d:Int) - k - 1 by omega]
    exact D0.out.set_ 0 _
   ·exact D1.out.far (p:=⟨w.heap.size,0,none⟩) (by simp) _
   ·exact D2.out.far (p:=⟨w.heap.size,0,none⟩) (by simp) _
   ·have hb:=HB2.out
    exact hb.setCell (by simp) _
 case done =>
  rintro D X hD ⟨hk,_⟩ _
  omega
 case stop =>
  rintro D X hD ⟨c1,c2,hB⟩ hK
  gi_wp2
  have k1:=c1.put (.deferred none) (show w.heap.size+1≠D by omega)
  have k2:=c2.put (.deferred none) (show w.heap.size+2≠D by omega)
  have cr:=fun o=>k1.cell o
  have cs:=fun o=>k2.cell o
  refine ⟨by simp,.inl ⟨_,_,rfl,run_takeDeferred hK,?_⟩⟩
  exact ⟨.tuple #[vecV (dirX d) (dirY d),.bool true],by simp [results,Tryz.results152,go_sem,cr,cs],rfl,hB.trans (below_putObj _ (by omega))⟩
theorem vecDirection_any (d:Nat) (hd:d<16) (w:World):Calls Qy.prog 152 #[.int .i64 d] w fun e W'=>e=.returned (.tuple #[vecV (dirW d) (dirW ((d+12) % 16)),.bool true])∧Below w.heap.size w W' :=
 (callsIn_wide.1 (vecDirection_in Fence.wide 3 trivial trivial trivial rfl (Nat.le_refl _) d hd w)).mono fun e W' h=>by
  rw [show dirX d=dirW d by unfold dirX;rw [Nat.mod_eq_of_lt hd]] at h
  exact h
end Go.Proofs.YtpcjdalgebgofaaGreatDoorY
namespace Go.Proofs.YtpcjdalgebgofaaGreatDoorY
open Go.RowKit Go.Sort
def slow (x:Int):Prop := -2000≤x∧x≤2000
theorem tdiv1000 {a:Int} {m:Int} (hm:0≤m) (h1 : -(1000 * m)≤a) (h2:a≤1000 * m) : -m≤a.tdiv 1000∧a.tdiv 1000≤m:=by
 rcases Int.le_total 0 a with h|h
 ·rw [Int.tdiv_eq_ediv_of_nonneg h];omega
 ·have e:a.tdiv 1000 = -((-a).tdiv 1000):=by rw [Int.neg_tdiv,Int.neg_neg]
  rw [e,Int.tdiv_eq_ediv_of_nonneg (by omega)];omega
theorem mulW_slow {a b m:Int} (ha : -m≤a∧a≤m) (hm:0≤m∧m≤1000000) (hb:0≤b∧b≤1000) : -m≤mulW a b∧mulW a b≤m:=by
 have h1:a * b≤m * 1000:=by
  rcases Int.le_total 0 a with h|h
  ·exact Int.mul_le_mul ha.2 hb.2 hb.1 hm.1
  ·have:a * b≤0:=Int.mul_nonpos_of_nonpos_of_nonneg h hb.1
   omega
 have h2 : -(m * 1000)≤a * b:=by
  rcases Int.le_total 0 a with h|h
  ·have:0≤a * b:=Int.mul_nonneg h hb.1
   omega
  ·have:(-a) * b≤m * 1000:=Int.mul_le_mul (by omega) hb.2 hb.1 hm.1
   rw [Int.neg_mul] at this
   omega
 have e1:wrap64 (a * b)=a * b:=by unfold wrap64;omega
 unfold mulW
 rw [e1]
 obtain ⟨g1,g2⟩:=tdiv1000 (a:=a * b) (m:=m) hm.1 (by omega) (by omega)
 have e2:wrap64 ((a * b).tdiv 1000)=(a * b).tdiv 1000:=by unfold wrap64;omega
 rw [e2]
 exact ⟨g1,g2⟩
theorem abs_sq {x r:Int} (hr:0≤r) (h:x * x<(r+1) * (r+1)) : -r≤x∧x≤r:=by
 constructor
 ·rcases Int.lt_or_le x (-r) with h'|h'
  ·exfalso
   have:(r+1) * (r+1)≤(-x) * (-x):=Int.mul_le_mul (by omega) (by omega) (by omega) (by omega)
   rw [Int.neg_mul_neg] at this
   omega
  ·exact h'
 ·rcases Int.lt_or_le r x with h'|h'
  ·exfalso
   have:(r+1) * (r+1)≤x * x:=Int.mul_le_mul (by omega) (by omega) (by omega) (by omega)
   omega
  ·exact h'
theorem div_slow {x r:Int} (hr:2000<r) (hr2:r≤2000000) (hx : -r≤x∧x≤r):slow (wrap64 ((wrap64 (x * 2000)).tdiv r)):=by
 have e1:wrap64 (x * 2000)=x * 2000:=by unfold wrap64;omega
 rw [e1]
 have key : -2000≤(x * 2000).tdiv r∧(x * 2000).tdiv r≤2000:=by
  rcases Int.le_total 0 x with h|h
  ·rw [Int.tdiv_eq_ediv_of_nonneg (by omega)]
   refine ⟨by have:=Int.ediv_nonneg (show 0≤x * 2000 by omega) (show 0≤r by omega);omega,?_⟩
   have:=Int.ediv_le_ediv (show 0<r by omega) (show x * 2000≤2000 * r by omega)
   rw [Int.mul_ediv_cancel _ (show r≠0 by omega)] at this
   exact this
  ·have e:(x * 2000).tdiv r = -((-x * 2000).tdiv r):=by rw [Int.neg_mul,Int.neg_tdiv,Int.neg_neg]
   rw [e,Int.tdiv_eq_ediv_of_nonneg (by omega)]
   have h1:=Int.ediv_nonneg (show 0 ≤ -x * 2000 by omega) (show 0≤r by omega)
   have h2:=Int.ediv_le_ediv (show 0<r by omega) (show -x * 2000≤2000 * r by omega)
   rw [Int.mul_ediv_cancel _ (show r≠0 by omega)] at h2
   omega
 have e2:wrap64 ((x * 2000).tdiv r)=(x * 2000).tdiv r:=by unfold wrap64;omega
 rw [e2]
 exact key
theorem rootOf_is {n:Int} (h0:0≤n) (h1:n≤4000000000000):IsRoot n (rootOf n):=by
 have hex:∃ m,IsRoot n m:=by
  have key:∀ f:Nat,∀ a b:Int,0≤a→a<b→b≤2147483648→a * a≤n→n<b * b→(b - a).toNat≤f→∃ m,IsRoot n m:=by
   intro f
   induction f with
   | zero=>intro a b _ hab _ _ _ hf;omega
   | succ f ih =>
    intro a b ha hab hb p1 p2 hf
    by_cases hlt:a+1<b
    ·by_cases hle:(a+1) * (a+1)≤n
     ·exact ih (a+1) b (by omega) (by omega) hb hle p2 (by omega)
     ·exact ih a (a+1) ha (by omega) (by omega) p1 (by omega) (by omega)
    ·obtain rfl:b=a+1:=by omega
     refine ⟨a,ha,?_,.inr p1,.inr p2⟩
     rcases Int.lt_or_le 2000000 a with h|h
     ·have:=Int.mul_le_mul (show (2000001:Int)≤a by omega) (show (2000001:Int)≤a by omega) (by omega) (by omega)
      omega
     ·exact h
  exact key _ 0 2147483648 (by omega) (by omega) (by omega) (by omega) (by omega) (Nat.le_refl _)
 obtain ⟨m,hm⟩:=hex
 rw [rootOf_eq hm]
 exact hm
theorem clamp_slow {x y:Int} (hv:vecOk x y=true):slow (clampW x y 2000).1∧slow (clampW x y 2000).2:=by
 obtain ⟨h1,h2,h3⟩:=lenW_in hv
 obtain ⟨r1,r2,r3,r4⟩:=rootOf_is h2 (by omega)
 rw [← h1] at r1 r2 r3 r4
 obtain ⟨v1,v2,v3,v4⟩:=vecOk_iff.1 hv
 obtain ⟨a1,a2⟩:=sq_bound v1 v2
 obtain ⟨b1,b2⟩:=sq_bound v3 v4
 have hlt:x * x+y * y<(lenW x y+1) * (lenW x y+1):=by
  rcases r4 with h|h
  ·rw [h];omega
  ·exact h
 have hx:=abs_sq r1 (show x * x<(lenW x y+1) * (lenW x y+1) by omega)
 have hy:=abs_sq r1 (show y * y<(lenW x y+1) * (lenW x y+1) by omega)
 unfold clampW
 split
 ·rename_i hle
  exact ⟨⟨by omega,by omega⟩,⟨by omega,by omega⟩⟩
 ·exact ⟨div_slow (by omega) r2 hx,div_slow (by omega) r2 hy⟩
theorem slow_ok {x y:Int} (hx:slow x) (hy:slow y):vecOk x y=true:=vecOk_iff.2 ⟨by have:=hx.1;omega,by have:=hx.2;omega,by have:=hy.1;omega,by have:=hy.2;omega⟩
theorem fastW_slow {fx fy:Int} (hx:slow fx) (hy:slow fy) (d:Nat) (p:Int):slow (fastW fx fy d p).1∧slow (fastW fx fy d p).2:=by
 obtain ⟨x1,x2⟩:=hx
 obtain ⟨y1,y2⟩:=hy
 unfold fastW
 split
 ·obtain ⟨d1,d2⟩:=dirW_bound d
  obtain ⟨e1,e2⟩:=dirW_bound ((d+12) % 16)
  obtain ⟨m1,m2⟩:=mulW_slow (a:=dirW d) (b:=200) (m:=1000) ⟨d1,d2⟩ (by omega) (by omega)
  obtain ⟨n1,n2⟩:=mulW_slow (a:=dirW ((d+12) % 16)) (b:=200) (m:=1000) ⟨e1,e2⟩ (by omega) (by omega)
  have q1:wrap64 (fx+mulW (dirW d) 200)=fx+mulW (dirW d) 200:=by unfold wrap64;omega
  have q2:wrap64 (fy+mulW (dirW ((d+12) % 16)) 200)=fy+mulW (dirW ((d+12) % 16)) 200:=by unfold wrap64;omega
  rw [q1,q2]
  exact clamp_slow (vecOk_iff.2 ⟨by omega,by omega,by omega,by omega⟩)
 ·split
  ·exact ⟨mulW_slow ⟨x1,x2⟩ (by omega) (by omega),mulW_slow ⟨y1,y2⟩ (by omega) (by omega)⟩
  ·exact ⟨mulW_slow ⟨x1,x2⟩ (by omega) (by omega),mulW_slow ⟨y1,y2⟩ (by omega) (by omega)⟩
set_option maxRecDepth 100000 in
set_option maxHeartbeats 2000000 in
theorem speed_any (c:Car) (s p:Int) (d:Nat) (hd:d<16) (ht:c.turn=d) (hx:slow c.fx) (hy:slow c.fy) (w:World) :
  Calls Qy.prog 142 #[.agg #[.int .i64 s,.int .i64 p],carV c] w fun e w'=>e=.returned (vecV (fastW c.fx c.fy d p).1 (fastW c.fx c.fy d p).2)∧Below w.heap.size w w':=by
 have HV:=Lib.hid (slow_ok hx hy)
 have H700:=Lib.hid (show vecOk (mulW c.fx 700) (mulW c.fy 700)=true from slow_ok (mulW_slow hx (by omega) (by omega)) (mulW_slow hy (by omega) (by omega)))
 have H950:=Lib.hid (show vecOk (mulW c.fx 950) (mulW c.fy 950)=true from slow_ok (mulW_slow hx (by omega) (by omega)) (mulW_slow hy (by omega) (by omega)))
 have HX:=Lib.hid hx
 have HY:=Lib.hid hy
 clear hx hy
 rw [show carV c=.agg #[.int .i64 c.tick,.int .i64 c.ax,.int .i64 c.ay,.int .i64 c.fx,.int .i64 c.fy,.int .i64 c.turn,.int .i64 c.gate,.bool c.dn,.bool c.ov] from rfl,ht]
 by_cases hcond:p=1
 ·subst hcond
  obtain ⟨d1,d2⟩:=dirW_bound d
  obtain ⟨e1,e2⟩:=dirW_bound ((d+12) % 16)
  obtain ⟨m1,m2⟩:=mulW_slow (a:=dirW d) (b:=200) (m:=1000) ⟨d1,d2⟩ (by omega) (by omega)
  obtain ⟨n1,n2⟩:=mulW_slow (a:=dirW ((d+12) % 16)) (b:=200) (m:=1000) ⟨e1,e2⟩ (by omega) (by omega)
  have hx1:=HX.out.1
  have hx2:=HX.out.2
  have hy1:=HY.out.1
  have hy2:=HY.out.2
  have HF:=Lib.hid (show fastW c.fx c.fy d 1=clampW (c.fx+mulW (dirW d) 200) (c.fy+mulW (dirW ((d+12) % 16)) 200) 2000 by
   have q1:wrap64 (c.fx+mulW (dirW d) 200)=c.fx+mulW (dirW d) 200:=by unfold wrap64;omega
   have q2:wrap64 (c.fy+mulW (dirW ((d+12) % 16)) 200)=c.fy+mulW (dirW ((d+12) % 16)) 200:=by unfold wrap64;omega
   simp only [fastW,if_true,q1,q2])
  have HD:=Lib.hid (show vecOk (dirW d) (dirW ((d+12) % 16))=true from vecOk_iff.2 ⟨by omega,by omega,by omega,by omega⟩)
  have HP:=Lib.hid (show vecOk (mulW (dirW d) 200) (mulW (dirW ((d+12) % 16)) 200)=true from vecOk_iff.2 ⟨by omega,by omega,by omega,by omega⟩)
  have HS:=Lib.hid (show vecOk (c.fx+mulW (dirW d) 200) (c.fy+mulW (dirW ((d+12) % 16)) 200)=true from vecOk_iff.2 ⟨by omega,by omega,by omega,by omega⟩)
  clear d1 d2 e1 e2 m1 m2 n1 n2 hx1 hx2 hy1 hy2
  go_enter Qy.func142,Tryz.ntmps142
  go_wp2_with fail
  refine into_worldC (fun W=>Below w.heap.size w W∧Blk W (w.heap.size+1) 45 #[.int .i64 c.tick,.int .i64 c.ax,.int .i64 c.ay,.int .i64 c.fx,.int .i64 c.fy,.int .i64 d,.int .i64 c.gate,.bool c.dn,.bool c.ov]∧Blk W (w.heap.size+1+1) 24 #[.int .i64 0,.int .i64 0]) ⟨by go_grown,(Blk.newAt _ _ _ _ (by simp)).alloc _,Blk.newAt _ _ _ _ (by simp)⟩ ?_
  rintro W ⟨hb,k,r⟩
  have HB:=Lib.hid hb
  have K:=Lib.hid k
  have R:=Lib.hid r
  clear hb k r
  refine (vecDirection_any d hd _).mono ?_
  rintro e w1 ⟨rfl,hb1⟩
  replace HB:=Lib.hid (below_next HB.out hb1)
  replace K:=Lib.hid (K.out.next hb1)
  replace R:=Lib.hid (R.out.next hb1)
  clear hb1
  have z1:=R.out.lt
  go_wp2_with fail
  refine (vecScale_any _ _ 200 HD.out (by omega) HP.out _).mono ?_
  rintro e w2 ⟨rfl,hb2⟩
  replace hb2:=ba hb2
  replace HB:=Lib.hid (below_next HB.out hb2)
  replace K:=Lib.hid (K.out.next hb2)
  replace R:=Lib.hid (R.out.next hb2)
  clear hb2 z1
  have ck:=fun o=>K.out.cell o
  have fk:=fun o=>K.out.frozen o
  have zk:=K.out.lt
  go_wp2_with fail
  refine (vecAdd_any _ _ _ _ HV.out HP.out HS.out _).mono ?_
  rintro e w3 ⟨rfl,hb3⟩
  replace hb3:=ba hb3
  replace HB:=Lib.hid (below_next HB.out hb3)
  replace R:=Lib.hid (R.out.next hb3)
  clear hb3 ck fk zk
  have zr:=R.out.lt
  go_wp2_with fail
  refine (vecClamp_any _ _ 2000 HS.out (by omega) _).mono ?_
  rintro e w4 ⟨rfl,hb4⟩
  have V:=Lib.hid ((Blk.new w3 24 #[.int .i64 (c.fx+mulW (dirW d) 200),.int .i64 (c.fy+mulW (dirW ((d+12) % 16)) 200)]).next hb4)
  have R4:=Lib.hid ((R.out.alloc _).next hb4)
  have hb5:=ba hb4
  replace HB:=Lib.hid (below_next HB.out hb5)
  clear hb4 hb5 R
  have cv:=fun o=>V.out.cell o
  have fv:=fun o=>V.out.frozen o
  have zv:=V.out.lt
  have cr:=fun o=>R4.out.cell o
  have fr:=fun o=>R4.out.frozen o
  have zr:=R4.out.lt
  have hne:w.heap.size+1+1≠w3.heap.size:=by omega
  go_wp2_with fail
  have k:=(((R4.out.far (p:=⟨w3.heap.size,0,none⟩) hne (.int .i64 (clampW (c.fx+mulW (dirW d) 200) (c.fy+mulW (dirW ((d+12) % 16)) 200) 2000).1)).far (p:=⟨w3.heap.size,1,none⟩) hne (.int .i64 (clampW (c.fx+mulW (dirW d) 200) (c.fy+mulW (dirW ((d+12) % 16)) 200) 2000).2)).set_ 0 (.int .i64 (clampW (c.fx+mulW (dirW d) 200) (c.fy+mulW (dirW ((d+12) % 16)) 200) 2000).1)).set_ 1 (.int .i64 (clampW (c.fx+mulW (dirW d) 200) (c.fy+mulW (dirW ((d+12) % 16)) 200) 2000).2)
  have ck:=fun o=>k.cell o
  refine bodyPost_ret (v:=vecV (clampW (c.fx+mulW (dirW d) 200) (c.fy+mulW (dirW ((d+12) % 16)) 200) 2000).1 (clampW (c.fx+mulW (dirW d) 200) (c.fy+mulW (dirW ((d+12) % 16)) 200) 2000).2) (by simp [results,Tryz.results142,go_sem,ck]) rfl ⟨by rw [HF.out],?_⟩
  have hb:=HB.out
  go_grown
 by_cases hcond2:p=2
 ·subst hcond2
  have HF:=Lib.hid (show fastW c.fx c.fy d 2=(mulW c.fx 700,mulW c.fy 700) by simp [fastW])
  clear hcond
  go_enter Qy.func142,Tryz.ntmps142
  go_wp2_with fail
  refine into_worldC (fun W=>Below w.heap.size w W∧Blk W (w.heap.size+1+1) 24 #[.int .i64 0,.int .i64 0]) ⟨by go_grown,Blk.newAt _ _ _ _ (by simp)⟩ ?_
  rintro W ⟨hb,r⟩
  have HB:=Lib.hid hb
  have R:=Lib.hid r
  clear hb r
  refine (vecScale_any c.fx c.fy 700 HV.out (by omega) H700.out _).mono ?_
  rintro e w1 ⟨rfl,hb1⟩
  replace HB:=Lib.hid (below_next HB.out hb1)
  replace R:=Lib.hid (R.out.next hb1)
  clear hb1
  have cr:=fun o=>R.out.cell o
  have fr:=fun o=>R.out.frozen o
  have zr:=R.out.lt
  go_wp2_with fail
  have k:=((R.out.set_ 0 (.int .i64 (mulW c.fx 700))).set_ 1 (.int .i64 (mulW c.fy 700))).alloc (.cells #[.int .i64 (mulW c.fx 700),.int .i64 (mulW c.fy 700)] 24)
  have ck:=fun o=>k.cell o
  refine bodyPost_ret (v:=vecV (mulW c.fx 700) (mulW c.fy 700)) (by simp [results,Tryz.results142,go_sem,ck]) rfl ⟨by rw [HF.out],?_⟩
  have hb:=HB.out
  go_grown
 ·have HF:=Lib.hid (show fastW c.fx c.fy d p=(mulW c.fx 950,mulW c.fy 950) by simp [fastW,hcond,hcond2])
  go_enter Qy.func142,Tryz.ntmps142
  go_wp2_with fail
  refine into_worldC (fun W=>Below w.heap.size w W∧Blk W (w.heap.size+1+1) 24 #[.int .i64 0,.int .i64 0]) ⟨by go_grown,Blk.newAt _ _ _ _ (by simp)⟩ ?_
  rintro W ⟨hb,r⟩
  have HB:=Lib.hid hb
  have R:=Lib.hid r
  clear hb r
  refine (vecScale_any c.fx c.fy 950 HV.out (by omega) H950.out _).mono ?_
  rintro e w1 ⟨rfl,hb1⟩
  replace HB:=Lib.hid (below_next HB.out hb1)
  replace R:=Lib.hid (R.out.next hb1)
  clear hb1
  have cr:=fun o=>R.out.cell o
  have fr:=fun o=>R.out.frozen o
  have zr:=R.out.lt
  go_wp2_with fail
  have k:=((R.out.set_ 0 (.int .i64 (mulW c.fx 950))).set_ 1 (.int .i64 (mulW c.fy 950))).alloc (.cells #[.int .i64 (mulW c.fx 950),.int .i64 (mulW c.fy 950)] 24)
  have ck:=fun o=>k.cell o
  refine bodyPost_ret (v:=vecV (mulW c.fx 950) (mulW c.fy 950)) (by simp [results,Tryz.results142,go_sem,ck]) rfl ⟨by rw [HF.out],?_⟩
  have hb:=HB.out
  go_grown
end Go.Proofs.YtpcjdalgebgofaaGreatDoorY
namespace Go.Proofs.YtpcjdalgebgofaaGreatDoorY
open Go.RowKit Go.Sort
theorem fieldsOf_of' {P:Program} {t:TypeId} {fs:Array Field} (h:P.underlying t=some (.struct fs)):P.fieldsOf t=fs:=by unfold Program.fieldsOf;rw [h]
theorem eqV_run (a b a' b':Int) (w:World):(Op.equalIn 10000 24 (.agg #[.int .i64 a,.int .i64 b]) (.agg #[.int .i64 a',.int .i64 b'])).run Qy.prog w=.ok (decide (a=a'∧b=b')) w:=by
 have hf:=fieldsOf_of' (Qy.un Tryz.underlying24)
 rw [show (10000:Nat)=9999+1 from rfl,run_equalIn_struct w 9999 24 _ _ (by rw [hf];exact (Qy.un Tryz.underlying24)) (by kernel_rfl),hf]
 by_cases h1:a=a' <;> by_cases h2:b=b' <;> simp [Op.eqFields,go_sem,h1,h2]
theorem hasB_eq {b:Bx} (h:boxOk b=true) (x y:Int):decide (min (max x b.1) b.2.2.1=x∧min (max y b.2.1) b.2.2.2=y)=hasB b x y:=by
 simp only [boxOk,Bool.and_eq_true,decide_eq_true_eq] at h
 obtain ⟨⟨_,h1⟩,h2⟩:=h
 rw [Bool.eq_iff_iff]
 simp [hasB,inR]
 omega
set_option maxRecDepth 100000 in
set_option maxHeartbeats 2000000 in
theorem has_any (b:Bx) (x y:Int) (hb:boxOk b=true) (w:World) :
  Calls Qy.prog 143 #[.agg #[.int .i64 b.1,.int .i64 b.2.1,.int .i64 b.2.2.1,.int .i64 b.2.2.2],vecV x y] w fun e w'=>e=.returned (.bool (hasB b x y))∧Below w.heap.size w w':=by
 have HH:=Lib.hid (hasB_eq hb x y)
 clear hb
 obtain ⟨b1,b2,b3,b4⟩:=b
 obtain ⟨u,hu⟩:∃ u,u=min (max x b1) b3:=⟨_,rfl⟩
 obtain ⟨v,hv⟩:∃ v,v=min (max y b2) b4:=⟨_,rfl⟩
 have HN:=fun W=>(nearest_any (b1,b2,b3,b4) x y W).mono (fun e w' h=>(show e=.returned (.agg #[.int .i64 u,.int .i64 v])∧Below W.heap.size W w' by rw [hu,hv];exact h))
 have HNH:=Lib.hid HN
 have HU:=Lib.hid hu
 have HV:=Lib.hid hv
 clear HN hu hv
 have hG:=fun (p q:Operand) (W:World)=>run_eqGuard_agg (P:=Qy.prog) W .eql 24 p q #[.int .i64 u,.int .i64 v] #[.int .i64 x,.int .i64 y] (by kernel_rfl)
 have hN:=fun (W:World)=>run_eql_struct (P:=Qy.prog) W 24 #[.int .i64 u,.int .i64 v] #[.int .i64 x,.int .i64 y]
 simp only [eqV_run,Result.andThen_ok] at hN
 go_enter Qy.func143,Tryz.ntmps143
 go_wp2_with fail
 refine into_world (fun W=>Below w.heap.size w W∧Blk W w.heap.size 27 #[.int .i64 b1,.int .i64 b2,.int .i64 b3,.int .i64 b4]∧Blk W (w.heap.size+1) 24 #[.int .i64 x,.int .i64 y]) ⟨by go_grown,(Blk.new _ _ _).alloc _,Blk.newAt _ _ _ _ (by simp)⟩ ?_
 rintro W ⟨hb,k,r⟩
 have HB:=Lib.hid hb
 have K:=Lib.hid k
 have R:=Lib.hid r
 clear hb k r
 have rk:=fun d os o=>(K.out.next (below_regrown _ d os)).cell o
 have rr:=fun d os o=>(R.out.next (below_regrown _ d os)).cell o
 refine wp_region_qb (by kernel_rfl) (by kernel_rfl) ?_
 repeat (go_big_quiet_step ((go_at_call 114;exact Calls.regrown_of (HNH.out _))))
 refine wpQuiet_nil ?_
 intro w4 hb4
 replace HB:=Lib.hid (below_next HB.out hb4)
 clear hb4 rk rr
 go_wp2_with fail
 go_ret
 exact ⟨ret_bool (by rw [← HH.out];simp [HU.out,HV.out]),HB.out⟩
end Go.Proofs.YtpcjdalgebgofaaGreatDoorY
namespace Go.Proofs.YtpcjdalgebgofaaGreatDoorY
open Go.RowKit Go.Sort
theorem freeI_eq {bs:List Bx} (h:∀ b ∈ bs,boxOk b=true) (x y:Int):(bs.all fun b=>!touchI b x y 500)=freeW bs x y:=by
 unfold freeW
 rw [Bool.eq_iff_iff,List.all_eq_true,List.all_eq_true]
 constructor
 ·intro hh b hb;have:=hh b hb;rwa [touchI_eq (h b hb)] at this
 ·intro hh b hb;have:=hh b hb;rwa [touchI_eq (h b hb)]
theorem freeW_any (l:Lvl) (ws gs:Sl) (x y:Int) (w:World) (hr:RdB w ws.a ws.n l.walls) (hn:ws.n≤1048576) (hw:∀ b ∈ l.walls,boxOk b=true) :
  Calls Qy.prog 49 #[lvlV l ws gs,vecV x y] w fun e w'=>e=.returned (.bool (freeW l.walls x y))∧Below w.heap.size w w':=by
 have:=free_any l ws gs x y w hr hn
 rwa [freeI_eq hw] at this
abbrev tickC (c:Car):Car:=⟨wrap64 (c.tick+1),c.ax,c.ay,c.fx,c.fy,c.turn,c.gate,c.dn,c.ov⟩
end Go.Proofs.YtpcjdalgebgofaaGreatDoorY

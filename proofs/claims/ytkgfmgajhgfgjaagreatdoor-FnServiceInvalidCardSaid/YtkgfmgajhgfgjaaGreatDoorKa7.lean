/-
  Lemmas and contracts: E8 E9 An Gr Ea Li. No condition.
-/
import Derived.Test.YtkgfmgajhgfgjaaGreatDoorKa3
import Derived.Test.YtkgfmgajhgfgjaaGreatDoorKa4
import Derived.Test.YtkgfmgajhgfgjaaGreatDoorKa5
import Derived.Test.YtkgfmgajhgfgjaaGreatDoorKa6
set_option linter.unusedSimpArgs false
set_option linter.unusedVariables false
set_option linter.unusedSectionVars false
namespace Go.Proofs.YtkgfmgajhgfgjaaGreatDoor
open Go.RowKit Go.Sort
structure Rep where
 lv:Int
 pl:Int
 sc:Int
 ins:List Inp
 hs:List Int
 tag:Int
abbrev repV (r:Rep) (si sh:Sl):Value:=.agg #[.int .i64 r.lv,.int .i64 r.pl,.int .i64 r.sc,.slice si.a si.n si.c,.slice sh.a sh.n sh.c,.int .i64 r.tag]
abbrev repC (r:Rep) (si sh:Sl):Array Value:=#[.int .i64 r.lv,.int .i64 r.pl,.int .i64 r.sc,.slice si.a si.n si.c,.slice sh.a sh.n sh.c,.int .i64 r.tag]
def RdR (w:World) (r:Rep) (si sh:Sl):Prop:=RdN w si.a si.n r.ins∧RdI .i64 w sh.a sh.n r.hs∧SlOk si.n si.c∧SlOk sh.n sh.c
theorem RdR.below {w w':World} {r:Rep} {si sh:Sl} (h:RdR w r si sh) (hb:Below w.heap.size w w'):RdR w' r si sh:=⟨h.1.below hb,h.2.1.below hb,h.2.2⟩
def insOk (xs:List Inp):Bool:=xs.all inOk && decide ((xs.length:Int)≤60)
set_option maxHeartbeats 1000000 in
theorem l23Inputs_any (A:Option Addr) (n c:Nat) (xs:List Inp) (w:World) (hr:RdN w A n xs) (hn:n≤1099511627776) :
  Calls Tryz.prog 223 #[.slice A n c] w fun e w'=>e=.returned (.bool (insOk xs))∧Below w.heap.size w w':=by
 have HR:=Lib.hid hr;clear hr
 go_enter Tryz.func223,Tryz.ntmps223
 go_wp2
 go_loopw [3] (fun i wr=>∃ k:Nat,k≤n∧i=.int .i64 k∧Hid (Below w.heap.size w wr∧xs.all inOk=(xs.drop k).all inOk)) (fun i _=>n - (intOf i).toNat)
 case atStart=>exact ⟨0,Nat.zero_le _,rfl,Below.refl _ _,rfl⟩
 case round =>
  obtain ⟨k,hk,rfl,HB⟩:=hrel
  by_cases hlt:k<n
  ·obtain ⟨b,off,x,hA,hb,hx,h0,h1,h2⟩:=RdN.cells (HR.out.below HB.out.1) hlt
   subst hA
   have HD:=Lib.hid (all_drop (p:=inOk) hx)
   clear hx
   go_wp2_with fail
   refine (specInputValid_any x _).mono ?_
   rintro e w1 ⟨rfl,hb1⟩
   cases ho:inOk x
   ·have HO:=Lib.hid ho
    clear ho
    go_wp2_with fail
    go_ret
    exact ⟨ret_bool (by simp [insOk,HB.out.2,HD.out,HO.out]),below_next HB.out.1 hb1⟩
   ·have HO:=Lib.hid ho
    clear ho
    go_wp2_with fail
    exact ⟨⟨k+1,by omega,by go_num,below_next HB.out.1 hb1,by rw [HB.out.2,HD.out,HO.out];rfl⟩,by simp [intOf];omega⟩
  ·have hall:xs.all inOk=true:=by rw [HB.out.2,List.drop_of_length_le (by rw [HR.out.len];omega)];rfl
   have HALL:=Lib.hid hall
   clear hall
   go_wp2
   go_ret
   exact ⟨ret_bool (by simp [insOk,HALL.out,HR.out.len]),HB.out.1⟩
def repOk (r:Rep):Bool:=r.hs.all hashOk && inR r.lv 0 99 && inR r.pl 0 9 && inR r.sc 0 60 && insOk r.ins && decide ((r.hs.length:Int)=(r.ins.length:Int) / 5) && hashOk r.tag
set_option maxRecDepth 100000 in
set_option maxHeartbeats 4000000 in
theorem specReplayValid_any (r:Rep) (si sh:Sl) (w:World) (hr:RdR w r si sh) :
  Calls Tryz.prog 167 #[repV r si sh] w fun e w'=>e=.returned (.bool (repOk r))∧Below w.heap.size w w':=by
 obtain ⟨hi,hh,⟨_,hn1⟩,_,hn2⟩:=hr
 have HI:=Lib.hid hi
 have HH:=Lib.hid hh
 clear hi hh
 go_enter Tryz.func167,Tryz.ntmps167
 go_wp2_with fail
 go_loopw [3] (fun i wr=>∃ k:Nat,k≤sh.n∧i=.int .i64 k∧Hid (Below w.heap.size w wr∧Blk wr w.heap.size 35 (repC r si sh)∧r.hs.all hashOk=(r.hs.drop k).all hashOk)) (fun i _=>sh.n - (intOf i).toNat)
 case atStart=>exact ⟨0,Nat.zero_le _,rfl,ba (Below.refl _ _),Blk.new _ _ _,rfl⟩
 case round =>
  obtain ⟨k,hk,rfl,HQ⟩:=hrel
  obtain ⟨HB,KR,HE⟩:=HQ.out
  replace HB:=Lib.hid HB
  replace KR:=Lib.hid KR
  replace HE:=Lib.hid HE
  clear HQ
  have cr:=fun o=>KR.out.cell o
  have fr:=fun o=>KR.out.frozen o
  have zr:=KR.out.lt
  by_cases hlt:k<sh.n
  ·obtain ⟨b,off,z,hA,hb,hz,hc⟩:=(HH.out.below HB.out).at_ hlt
   have HD:=Lib.hid (all_drop (p:=hashOk) hz)
   have cr4:wr.cell? ⟨w.heap.size,4,none⟩=some (.slice sh.a sh.n sh.c):=cr 4
   rw [hA] at cr4
   clear hz cr
   go_wp2_with fail
   refine (l23Hash_any _ _).mono ?_
   rintro e w1 ⟨rfl,rfl⟩
   cases ho:hashOk z
   ·have HO:=Lib.hid ho
    clear ho
    go_wp2_with fail
    go_ret
    exact ⟨ret_bool (by simp [repOk,HE.out,HD.out,HO.out]),HB.out⟩
   ·have HO:=Lib.hid ho
    clear ho
    go_wp2_with fail
    exact ⟨⟨k+1,by omega,by go_num,HB.out,KR.out,by rw [HE.out,HD.out,HO.out];rfl⟩,by simp [intOf];omega⟩
  ·have h0:r.hs.all hashOk=true:=by rw [HE.out,List.drop_of_length_le (by rw [HH.out.len];omega)];rfl
   have H0:=Lib.hid h0
   clear h0
   go_wp2_with fail
   refine (l6In_any _ _ _ _).mono ?_
   rintro e w1 ⟨rfl,rfl⟩
   cases h1:inR r.lv 0 99
   ·go_wp2_with fail
    go_ret
    exact ⟨ret_bool (by simp [repOk,h1]),HB.out⟩
   ·go_wp2_with fail
    refine (l6In_any _ _ _ _).mono ?_
    rintro e w1 ⟨rfl,rfl⟩
    cases h2:inR r.pl 0 9
    ·go_wp2_with fail
     go_ret
     exact ⟨ret_bool (by simp [repOk,h2]),HB.out⟩
    ·go_wp2_with fail
     refine (l6In_any _ _ _ _).mono ?_
     rintro e w1 ⟨rfl,rfl⟩
     cases h3:inR r.sc 0 60
     ·go_wp2_with fail
      go_ret
      exact ⟨ret_bool (by simp [repOk,h3]),HB.out⟩
     ·go_wp2_with fail
      refine (l23Inputs_any si.a si.n si.c r.ins _ (HI.out.below HB.out) (by omega)).mono ?_
      rintro e w2 ⟨rfl,hb⟩
      replace KR:=Lib.hid (KR.out.next hb)
      replace HB:=Lib.hid (below_next HB.out hb)
      clear hb cr fr zr
      have cr:=fun o=>KR.out.cell o
      have fr:=fun o=>KR.out.frozen o
      have zr:=KR.out.lt
      cases h4:insOk r.ins
      ·go_wp2_with fail
       go_ret
       exact ⟨ret_bool (by simp [repOk,h4]),HB.out⟩
      ·by_cases h5:(sh.n:Int)=(si.n:Int) / 5
       ·have h5':((sh.n:Int) == (si.n:Int) / 5)=true:=by simpa using h5
        have H5:=Lib.hid (show (r.hs.length:Int)=(r.ins.length:Int) / 5 by rw [HH.out.len,HI.out.len];exact h5)
        clear h5
        go_wp2_with fail
        refine (l23Hash_any _ _).mono ?_
        rintro e w3 ⟨rfl,rfl⟩
        go_wp2_with fail
        go_ret
        exact ⟨ret_bool (by simp [repOk,H0.out,h1,h2,h3,h4,H5.out]),HB.out⟩
       ·have h5':((sh.n:Int) == (si.n:Int) / 5)=false:=by simpa using h5
        have H5:=Lib.hid (show ¬ (r.hs.length:Int)=(r.ins.length:Int) / 5 by rw [HH.out.len,HI.out.len];exact h5)
        clear h5
        go_wp2_with fail
        go_ret
        exact ⟨ret_bool (by simp [repOk,H5.out]),HB.out⟩
end Go.Proofs.YtkgfmgajhgfgjaaGreatDoor
namespace Go.Proofs.YtkgfmgajhgfgjaaGreatDoor
open Go.RowKit Go.Sort
def listW (r:Rep):List Int:=[r.lv,r.pl,r.sc,(r.ins.length:Int)] ++ r.ins.map codeW ++ r.hs
set_option maxRecDepth 100000 in
set_option maxHeartbeats 4000000 in
theorem l23List_any (r:Rep) (si sh:Sl) (w:World) (hr:RdR w r si sh) :
  Calls Tryz.prog 61 #[repV r si sh] w (IntsPost w.heap.size (listW r) w):=by
 obtain ⟨i0,hi0,hy0,hy1,hy2⟩:=info_parts infoZ
 have HI:=Lib.hid hi0
 have HZ:=Lib.hid hy0
 have HS:=Lib.hid hy1
 have HBY:=Lib.hid hy2
 clear hi0 hy0 hy1 hy2
 obtain ⟨hi,hh,⟨_,hn1⟩,_,hn2⟩:=hr
 have HIN:=Lib.hid hi
 have HH:=Lib.hid hh
 clear hi hh
 go_enter Tryz.func61,Tryz.ntmps61
 go_wp2_with fail
 go_loopw [3,4] (fun out i wr=>∃ (k m:Nat) (A':Option Addr) (c':Nat),k≤si.n∧m=4+k∧i=.int .i64 k∧out=.slice A' m c'∧Hid (Below w.heap.size w wr∧Blk wr w.heap.size 35 (repC r si sh)∧Ow (w.heap.size+1) wr 3 1 A' m c' (cellsI ([r.lv,r.pl,r.sc,(si.n:Int)] ++ (r.ins.take k).map codeW)))) (fun _ i _=>si.n - (intOf i).toNat)
 case atStart=>exact ⟨0,4,_,4,Nat.zero_le _,rfl,rfl,rfl,ba (ba (Below.refl _ _)),(Blk.new _ _ _).alloc _,Ow.of_blk (Blk.newAt _ _ _ _ (by simp)) rfl (by decide) (by simp)⟩
 case round =>
  obtain ⟨k,m,A',c',hk,hm,rfl,rfl,HQ⟩:=hrel
  obtain ⟨HB,KR,HOW⟩:=HQ.out
  replace HB:=Lib.hid HB
  replace KR:=Lib.hid KR
  replace HOW:=Lib.hid HOW
  have HM:=Lib.hid hm
  have hmb:m≤1048580:=by omega
  clear HQ hm
  have cr:=fun o=>KR.out.cell o
  have fr:=fun o=>KR.out.frozen o
  have zr:=KR.out.lt
  by_cases hlt:k<si.n
  ·obtain ⟨b,off,x,hA,hb,hx,h0,h1,h2⟩:=RdN.cells (HIN.out.below HB.out) hlt
   have HX:=Lib.hid hx
   have cr3:wr.cell? ⟨w.heap.size,3,none⟩=some (.slice si.a si.n si.c):=cr 3
   rw [hA] at cr3
   have HA:=Lib.hid hA
   clear hx cr hA
   go_wp2_with fail
   refine (l12Code_any x _).mono ?_
   rintro e w1 ⟨rfl,hb1⟩
   replace HOW:=Lib.hid (Ow.next HOW.out hb1)
   replace KR:=Lib.hid (KR.out.next hb1)
   replace HB:=Lib.hid (below_next HB.out hb1)
   clear hb1 cr3 fr zr h0 h1 h2
   obtain ⟨z,hz⟩:∃ z,codeW x=z:=⟨_,rfl⟩
   rw [hz]
   have HZX:=Lib.hid hz
   clear hz
   have hzs:=HB.out.size
   have hzl:=KR.out.lt
   go_wp2_with (at_builtin;refine wpList_append_ow _ rfl (.tmp 22) (.tmp 29) _ rfl (w.heap.size+1) 3 i0 _ 1 8 Tryz.underlying33 HI.out HZ.out HS.out HBY.out rfl (by omega) _ m c' _ rfl (HOW.out.alloc _) _ 1 1 (cellsI [z]) rfl (Src.blk (Blk.new _ _ _) rfl) (cellsI_one _) (by unfold maxLen;omega) (by omega) (by simp;omega) ?_;intro A2 c2 w5 hown5 hg5 _;have HO5:=Lib.hid hown5;have HG5:=Lib.hid hg5;clear hown5 hg5)
   have hrow:=HOW.out.alloc (.cells #[.int .i64 z] 3)
   refine ⟨⟨k+1,m+1,A2,c2,by omega,by have:=HM.out;omega,by go_num,rfl,?_,?_,?_⟩,by simp [intOf];omega⟩
   ·exact (hrow.grown HG5.out (HB.out.alloc HB.out.size _) (by omega) (by simp;omega))
   ·exact (KR.out.alloc _).frm (Frm.of_own (lo:=w.heap.size+1) (hi:=(w1.alloc (.cells #[.int .i64 z] 3)).heap.size) (OwI.of hrow) HG5.out) (by omega)
   ·have he:cellsI ([r.lv,r.pl,r.sc,(si.n:Int)] ++ (r.ins.take (k+1)).map codeW)=cellsI ([r.lv,r.pl,r.sc,(si.n:Int)] ++ (r.ins.take k).map codeW) ++ cellsI [z]:=by
     rw [List.take_add_one,HX.out]
     simp [cellsI,HZX.out]
    rw [he]
    exact HO5.out
  ·have hkn:k=si.n:=by omega
   subst hkn
   have HTK:=Lib.hid (show r.ins.take si.n=r.ins from List.take_of_length_le (by rw [HIN.out.len];exact Nat.le_refl _))
   have HLEN:=Lib.hid HIN.out.len
   have hzs:=HB.out.size
   have hzl:=KR.out.lt
   have hsn:=HH.out.len
   go_wp2_with (at_builtin;refine wpList_append_ow _ rfl (.tmp 31) (.tmp 33) _ rfl (w.heap.size+1) 3 i0 _ 1 8 Tryz.underlying33 HI.out HZ.out HS.out HBY.out rfl (by omega) _ m c' _ rfl HOW.out sh.a sh.n sh.c (cellsI r.hs) rfl (Src.ints (HH.out.below HB.out)) (cellsI_one _) (by unfold maxLen;omega) (by omega) (by omega) ?_;intro A2 c2 w5 hown5 hg5 _;have HO5:=Lib.hid hown5;have HG5:=Lib.hid hg5;clear hown5 hg5)
   go_ret
   have hll:(listW r).length=m+sh.n:=by
    have h1:=HM.out
    have h2:=HLEN.out
    simp [listW]
    omega
   refine ⟨A2,c2,by rw [hll];rfl,?_,HOW.out.grown HG5.out HB.out (by omega) (by omega)⟩
   have h5:=HO5.out
   rw [HTK.out,← HLEN.out] at h5
   rw [hll]
   refine Ow.mono (B:=w.heap.size+1) ?_ (by omega)
   show Ow _ _ _ 1 _ _ _ (List.map (Value.int .i64) (_ ++ r.hs))
   rw [List.map_append]
   exact h5
end Go.Proofs.YtkgfmgajhgfgjaaGreatDoor
namespace Go.Proofs.YtkgfmgajhgfgjaaGreatDoor
open Go.RowKit Go.Sort
section
variable {P:Program} {ops:Array Oper} {Q:Exit→Act→World→Prop}
def topoB (ops:Array Oper):Bool:=(List.range ops.size).all fun i=>((ops[i]?).map fun o=>o.after.all fun e=>!Region.binds .any e || decide (e.on<i)).getD true
def left_ (n:Nat) (listed:Array Bool):Nat:=(List.range n).countP fun i=>!listed.getD i true
theorem getD_set_self {listed:Array Bool} {i:Nat} (h:i<listed.size) (d:Bool):(listed.setIfInBounds i true).getD i d=true:=by
 simp [Array.getD_eq_getD_getElem?,h]
theorem getD_set_other {listed:Array Bool} {i j:Nat} (h:i≠j) (d:Bool):(listed.setIfInBounds i true).getD j d=listed.getD j d:=by
 simp [Array.getD_eq_getD_getElem?,Array.getElem?_setIfInBounds_ne h]
theorem getD_any {listed:Array Bool} {i:Nat} (h:i<listed.size) (d e:Bool):listed.getD i d=listed.getD i e:=by
 simp [Array.getD_eq_getD_getElem?,h]
theorem left_set (n i:Nat) (listed:Array Bool) (hn:n≤listed.size) (hi:i<n) (hl:listed.getD i true=false):left_ n listed=left_ n (listed.setIfInBounds i true)+1:=by
 induction n with
 | zero=>omega
 | succ n ih =>
  unfold left_ at *
  rw [List.range_succ,List.countP_append,List.countP_append]
  by_cases h:i=n
  ·subst h
   have e1:(List.range i).countP (fun j=>!listed.getD j true)=(List.range i).countP (fun j=>!(listed.setIfInBounds i true).getD j true):=by
    apply List.countP_congr
    intro j hj
    have:=List.mem_range.1 hj
    rw [getD_set_other (by omega)]
   rw [e1]
   rw [List.countP_singleton,List.countP_singleton,hl,getD_set_self (show i<listed.size by omega) true]
   simp
  ·have e1:=ih (by omega) (by omega)
   rw [e1]
   have e2:(listed.setIfInBounds i true).getD n true=listed.getD n true:=getD_set_other h true
   simp only [List.countP_singleton,e2]
   omega
theorem left_zero {n:Nat} {listed:Array Bool} (h:left_ n listed=0):∀ i,i<n→listed.getD i true=true:=by
 intro i hi
 have:=List.countP_eq_zero.1 h i (List.mem_range.2 hi)
 simpa using this
theorem ready_nil_all (ht:topoB ops=true) {listed:Array Bool} (hr:Region.ready .any ops listed=[]):∀ i,i<ops.size→listed.getD i true=true:=by
 intro i
 induction i using Nat.strongRecOn with
 | ind i ih =>
  intro hi
  cases hl:listed.getD i true with
  | true=>rfl
  | false =>
   exfalso
   have hm:i ∈ Region.ready .any ops listed:=by
    rw [mem_ready]
    refine ⟨hl,ops[i],Array.getElem?_eq_getElem hi,fun e he hbe=>?_⟩
    have h1:=List.all_eq_true.1 ht i (List.mem_range.2 hi)
    rw [Array.getElem?_eq_getElem hi] at h1
    simp only [Option.map_some,Option.getD_some] at h1
    have h2:e.on<i:=by
     rw [Array.all_eq_true] at h1
     obtain ⟨k,hk,rfl⟩:=Array.mem_iff_getElem.1 he
     simpa [hbe] using h1 k hk
    have h3:=ih e.on h2 (by omega)
    rcases Nat.lt_or_ge e.on listed.size with h4|h4
    ·rw [getD_any h4 false true];exact h3
    ·exfalso
     have:listed.getD i true=true:=by simp [Array.getD_eq_getD_getElem?,Array.getElem?_eq_none (show listed.size≤i by omega)]
     rw [hl] at this
     cases this
   rw [hr] at hm
   cases hm
theorem wpAny_inv (ht:topoB ops=true) (R:Array Bool→Act→World→Prop)
  (step:∀ (listed:Array Bool) (a:Act) (w:World) (i:Nat) (o:Oper),listed.size=ops.size→ops[i]?=some o→listed.getD i true=false→(∀ e ∈ o.after,Region.binds .any e=true→listed.getD e.on false=true)→R listed a w →
   ∀ K:Act→World→Prop,(∀ a' w',R (listed.setIfInBounds i true) a' w'→K a' w')→if Region.wanted o (yielded ops a.tmps)=true then Oper.wp P o a w K Q else K (a.put o.dst undef) w)
  (fin:∀ (listed:Array Bool) (a:Act) (w:World),(∀ i,i<ops.size→listed.getD i true=true)→R listed a w→Q .normal a w) :
  ∀ (fuel:Nat) (listed:Array Bool) (a:Act) (w:World),listed.size=ops.size→left_ ops.size listed=fuel→R listed a w→wpAny P .any ops Q fuel listed a w:=by
 intro fuel
 induction fuel with
 | zero =>
  intro listed a w _ hc hR
  have hall:=left_zero hc
  refine ⟨?_,fin _ _ _ hall hR⟩
  rw [List.eq_nil_iff_forall_not_mem]
  intro j hj
  obtain ⟨h1,o,h2,_⟩:=mem_ready.1 hj
  rw [hall j (Array.getElem?_eq_some_iff.1 h2).1] at h1
  cases h1
 | succ fuel ih =>
  intro listed a w hs hc hR
  refine ⟨fun hr=>fin _ _ _ (ready_nil_all ht hr) hR,fun i hi=>?_⟩
  obtain ⟨h1,o,h2,h3⟩:=mem_ready.1 hi
  refine wpOp_step h2 fun K' hK=>?_
  refine step listed a w i o hs h2 h1 h3 hR K' fun a' w' hR'=>hK _ _ (ih _ _ _ (by simpa using hs) ?_ hR')
  have hlt:=(Array.getElem?_eq_some_iff.1 h2).1
  have:=left_set ops.size i listed (by omega) hlt h1
  omega
theorem wp_region_inv {id:Nat} {a:Act} {w:World} (hm:P.follows .mixedOrders=true) (ht:topoB ops=true) (R:Array Bool→Act→World→Prop)
  (start:R (Array.replicate ops.size false) a w.drew)
  (step:∀ (listed:Array Bool) (a:Act) (w:World) (i:Nat) (o:Oper),listed.size=ops.size→ops[i]?=some o→listed.getD i true=false→(∀ e ∈ o.after,Region.binds .any e=true→listed.getD e.on false=true)→R listed a w →
   ∀ K:Act→World→Prop,(∀ a' w',R (listed.setIfInBounds i true) a' w'→K a' w')→if Region.wanted o (yielded ops a.tmps)=true then Oper.wp P o a w K Q else K (a.put o.dst undef) w)
  (fin:∀ (listed:Array Bool) (a:Act) (w:World),(∀ i,i<ops.size→listed.getD i true=true)→R listed a w→Q .normal a w) :
  (Code.region id ops true).wp P Q a w:=by
 refine wp_region_any hm (wpAny_inv ht R step fin _ _ _ _ (by simp) ?_ start)
 unfold left_
 have:(List.range ops.size).countP (fun i=>!(Array.replicate ops.size false).getD i true)=(List.range ops.size).countP (fun _=>true):=by
  apply List.countP_congr
  intro j hj
  have:=List.mem_range.1 hj
  simp [Array.getD_eq_getD_getElem?,this]
 rw [this]
 simp
def Closed (ops:Array Oper) (listed:Array Bool):Prop :=
 ∀ (i:Nat) (o:Oper),ops[i]?=some o→listed.getD i false=true→∀ e ∈ o.after,Region.binds .any e=true→listed.getD e.on false=true
theorem Closed.set_ {listed:Array Bool} {i:Nat} {o:Oper} (h:Closed ops listed) (hs:listed.size=ops.size) (ho:ops[i]?=some o) (hd:∀ e ∈ o.after,Region.binds .any e=true→listed.getD e.on false=true):Closed ops (listed.setIfInBounds i true):=by
 have hi:i<listed.size:=by rw [hs];exact (Array.getElem?_eq_some_iff.1 ho).1
 have keep:∀ j,listed.getD j false=true→(listed.setIfInBounds i true).getD j false=true:=fun j hj=>by
  by_cases e:i=j
  ·subst e;exact getD_set_self hi false
  ·rw [getD_set_other e];exact hj
 intro j oj hoj hj e he hb
 by_cases hij:i=j
 ·subst hij
  rw [ho] at hoj
  injection hoj with hoj
  subst hoj
  exact keep _ (hd e he hb)
 ·rw [getD_set_other hij] at hj
  exact keep _ (h j oj hoj hj e he hb)
theorem wp_region_inv2 {id:Nat} {a:Act} {w:World} (hm:P.follows .mixedOrders=true) (ht:topoB ops=true) (R:Array Bool→Act→World→Prop)
  (start:R (Array.replicate ops.size false) a w.drew)
  (step:∀ (listed:Array Bool) (a:Act) (w:World) (i:Nat) (o:Oper),listed.size=ops.size→Closed ops listed→ops[i]?=some o→listed.getD i true=false→(∀ e ∈ o.after,Region.binds .any e=true→listed.getD e.on false=true)→R listed a w →
   ∀ K:Act→World→Prop,(∀ a' w',R (listed.setIfInBounds i true) a' w'→K a' w')→if Region.wanted o (yielded ops a.tmps)=true then Oper.wp P o a w K Q else K (a.put o.dst undef) w)
  (fin:∀ (listed:Array Bool) (a:Act) (w:World),(∀ i,i<ops.size→listed.getD i true=true)→R listed a w→Q .normal a w) :
  (Code.region id ops true).wp P Q a w :=
 wp_region_inv hm ht (fun listed a w=>R listed a w∧Closed ops listed)
  ⟨start,fun i o ho hi=>by
   have hlt:=(Array.getElem?_eq_some_iff.1 ho).1
   simp [Array.getD_eq_getD_getElem?,hlt] at hi⟩
  (fun listed a w i o hs ho hl hd hR K hK=>step listed a w i o hs hR.2 ho hl hd hR.1 K fun a' w' h=>hK a' w' ⟨h,hR.2.set_ hs ho hd⟩)
  (fun listed a w hall hR=>fin listed a w hall hR.1)
end
end Go.Proofs.YtkgfmgajhgfgjaaGreatDoor
namespace Go.Proofs.YtkgfmgajhgfgjaaGreatDoor
open Go.RowKit Go.Sort
def updV (s:Nat→Value) (i:Nat) (v:Value):Nat→Value:=fun j=>if j=i then v else s j
section
variable {P:Program} {ops:Array Oper} {Q:Exit→Act→World→Prop}
def waits (o:Oper) (j:Nat):Bool:=o.after.any fun e=>Region.binds .any e && e.on == j
theorem seq_of_head {g:Nat}:∀ (f k:Nat) (listed listed':Array Bool),Region.lexHead .any ops g f k listed=true→k+f≤listed.size→listed'.size=listed.size →
  (∀ j,k≤j→j<k+f→listed'.getD j true=true)→(∀ j,(j<k∨k+f≤j)→listed'.getD j true=listed.getD j true)→Region.seqB .any ops g (k+f) listed'=true:=by
 intro f
 induction f with
 | zero =>
  intro k listed listed' h hk hs h1 h2
  have e:listed'=listed:=by
   apply Array.ext hs
   intro i h3 h4
   have:=h2 i (by omega)
   simpa [Array.getD_eq_getD_getElem?,h3,h4] using this
  rw [e]
  simpa [Region.lexHead] using h
 | succ f ih =>
  intro k listed listed' h hk hs h1 h2
  simp only [Region.lexHead,Bool.and_eq_true] at h
  rw [show k+(f+1)=k+1+f by omega]
  refine ih (k+1) _ listed' h.2 (by simp;omega) (by simpa using hs) (fun j a b=>h1 j (by omega) (by omega)) (fun j hj=>?_)
  by_cases e:k=j
  ·subst e
   rw [getD_set_self (show k<listed.size by omega),h1 k (by omega) (by omega)]
  ·rw [getD_set_other e]
   exact h2 j (by omega)
theorem wpAny_grow {n:Nat} (ht:topoB ops=true) (hs:Region.sinkB .any ops n=true) (hc:Region.chainB .any ops n=true) (hn:n<ops.size)
  (hq:Region.lexHead .any ops (ops.size - n) n 0 (Array.replicate ops.size false)=true)
  (G:World→World→Prop) (J:Nat→World→Prop) (φ:Nat→Value→World→Prop) (mk:(Nat→Value)→Act)
  (mono:∀ i v w w',G w w'→φ i v w→φ i v w')
  (step:∀ (m:Nat) (s:Nat→Value) (w:World) (i:Nat) (o:Oper),m<n→i<n→ops[i]?=some o→J m w→(∀ j,waits o j=true→j<n→φ j (s j) w) →
   ∀ K:Act→World→Prop,(∀ v w',G w w'→J (m+1) w'→φ i v w'→K (mk (updV s i v)) w')→if Region.wanted o (yielded ops (mk s).tmps)=true then Oper.wp P o (mk s) w K Q else K ((mk s).put o.dst undef) w)
  (tail:∀ (s:Nat→Value) (w:World),J n w→(∀ j,j<n→φ j (s j) w)→wpList P ops Q (ops.toList.drop n) (mk s) w) :
  ∀ (f m:Nat) (listed:Array Bool) (s:Nat→Value) (w:World),HeadInv .any ops n listed→left_ n listed=f→m+f=n→J m w→(∀ j,j<n→listed.getD j false=true→φ j (s j) w) →
   wpAny P .any ops Q (f+(ops.size - n)) listed (mk s) w:=by
 intro f
 induction f with
 | zero =>
  intro m listed s w inv hl hm hJ hφ
  have hall:=left_zero hl
  rw [Nat.zero_add]
  have hseq:Region.seqB .any ops (ops.size - n) n listed=true:=by
   have:=seq_of_head (ops:=ops) (g:=ops.size - n) n 0 (Array.replicate ops.size false) listed hq (by simp;omega) (by simpa using inv.size) (fun j _ h=>hall j (by omega)) (fun j h=>by
    by_cases hj:j<ops.size
    ·rw [inv.tail j (by omega) hj]
     simp [Array.getD_eq_getD_getElem?,hj]
    ·have h3:listed.size≤j:=by rw [inv.size];omega
     simp [Array.getD_eq_getD_getElem?,Array.getElem?_eq_none h3,hj])
   simpa using this
  have hlen:(ops.toList.drop n).length=ops.size - n:=by simp
  have:=wpAny_of_seq (md:=.any) (Q':=Q) (P:=P) (ops:=ops) (ops.toList.drop n) n listed (mk s) w (fun j=>by simp [List.getElem?_drop]) (by rw [hlen];exact hseq) (tail s w (by rw [show n=m by omega];exact hJ) (fun j hj=>hφ j hj (by
   have:=hall j hj
   have hjs:j<listed.size:=by rw [inv.size];omega
   rw [getD_any hjs false true]
   exact this)))
  rwa [hlen] at this
 | succ f ih =>
  intro m listed s w inv hl hm hJ hφ
  have hsz:=inv.size
  have hex:∃ i,i<n∧listed.getD i true=false:=by
   apply Classical.byContradiction
   intro hno
   have h0:left_ n listed=0:=by
    unfold left_
    rw [List.countP_eq_zero]
    intro j hj
    have hjn:=List.mem_range.1 hj
    cases h:listed.getD j true with
    | true=>simp
    | false=>exact absurd ⟨j,hjn,h⟩ hno
   omega
  obtain ⟨i0,hi0,hu0⟩:=hex
  rw [show f+1+(ops.size - n)=(f+(ops.size - n))+1 by omega]
  refine ⟨fun hr=>?_,fun i hi=>?_⟩
  ·have:=ready_nil_all ht hr i0 (by omega)
   rw [hu0] at this
   cases this
  ·have hin:i<n:=by
    by_cases h:i<n
    ·exact h
    ·exact absurd hi (tail_waits hs hc hn inv _ i0 rfl hi0 hu0 i (by omega))
   obtain ⟨h1,o,h2,h3⟩:=mem_ready.1 hi
   refine wpOp_step h2 fun K' hK=>?_
   refine step m s w i o (by omega) hin h2 hJ (fun j hw hj=>?_) K' (fun v w' hG hJ' hv=>hK _ _ ?_)
   ·unfold waits at hw
    obtain ⟨e,he,hb⟩:=Array.any_eq_true'.1 hw
    simp only [Bool.and_eq_true,beq_iff_eq] at hb
    have:=h3 e he hb.1
    rw [hb.2] at this
    exact hφ j hj this
   ·refine ih (m+1) _ (updV s i v) w' (inv.set hi hin) ?_ (by omega) hJ' (fun j hj hlj=>?_)
    ·have:=left_set n i listed (by omega) hin h1
     omega
    ·unfold updV
     by_cases e:j=i
     ·subst e;rw [if_pos rfl];exact hv
     ·rw [if_neg e]
      rw [getD_set_other (fun h=>e h.symm)] at hlj
      exact mono _ _ _ _ hG (hφ j hj hlj)
theorem wp_region_grow {id:Nat} {w:World} {l:List Oper} (n:Nat) (hm:P.follows .mixedOrders=true) (ht:topoB l.toArray=true) (hB:Region.lexTailB .any l.toArray n=true)
  (G:World→World→Prop) (J:Nat→World→Prop) (φ:Nat→Value→World→Prop) (mk:(Nat→Value)→Act) (s0:Nat→Value)
  (mono:∀ i v w w',G w w'→φ i v w→φ i v w')
  (start:J 0 w.drew)
  (step:∀ (m:Nat) (s:Nat→Value) (w:World) (i:Nat) (o:Oper),m<n→i<n→l[i]?=some o→J m w→(∀ j,waits o j=true→j<n→φ j (s j) w) →
   ∀ K:Act→World→Prop,(∀ v w',G w w'→J (m+1) w'→φ i v w'→K (mk (updV s i v)) w')→if Region.wanted o (yielded l.toArray (mk s).tmps)=true then Oper.wp P o (mk s) w K Q else K ((mk s).put o.dst undef) w)
  (tail:∀ (s:Nat→Value) (w:World),J n w→(∀ j,j<n→φ j (s j) w)→wpList P l.toArray Q (l.drop n) (mk s) w) :
  (Code.region id l.toArray true).wp P Q (mk s0) w:=by
 simp only [Region.lexTailB,Bool.and_eq_true,decide_eq_true_eq] at hB
 obtain ⟨⟨⟨⟨hsel,hn⟩,hs⟩,hc⟩,hlex⟩:=hB
 refine wp_region_any hm ?_
 have inv0:HeadInv .any l.toArray n (Array.replicate l.toArray.size false):=by
  refine ⟨by simp,fun j oj _ hl=>?_,fun t _ hts=>getD_in (by simpa using hts) (getD_replicate_false _ _)⟩
  rw [getD_replicate_false] at hl
  cases hl
 have hl0:left_ n (Array.replicate l.toArray.size false)=n:=by
  unfold left_
  have:(List.range n).countP (fun i=>!(Array.replicate l.toArray.size false).getD i true)=(List.range n).countP (fun _=>true):=by
   apply List.countP_congr
   intro j hj
   have:=List.mem_range.1 hj
   simp [Array.getD_eq_getD_getElem?,show j<l.length by simp at hn;omega]
  rw [this]
  simp
 have H:=wpAny_grow (P:=P) (Q:=Q) ht hs hc hn hlex G J φ mk mono (fun m s w i o a b c=>step m s w i o a b (by simpa using c)) (fun s w a b=>by simpa using tail s w a b) n 0 _ s0 w.drew inv0 hl0 (by omega) start (fun j _ h=>by rw [getD_replicate_false] at h;cases h)
 rw [show n+(l.toArray.size - n)=l.toArray.size by omega] at H
 exact H
end
end Go.Proofs.YtkgfmgajhgfgjaaGreatDoor
namespace Go.Proofs.YtkgfmgajhgfgjaaGreatDoor
open Go.RowKit Go.Sort
def rep0:Rep:=⟨0,0,0,[],[],0⟩
def makeOk (l:Lvl) (p key:Int) (xs:List Inp):Bool:=okW l xs && inR p 0 9 && inR key 1 9999
noncomputable def makeR (l:Lvl) (p:Int) (xs:List Inp) (tag:Int):Rep:=⟨l.id,p,max (scoreW l xs) 0,xs,hashesW l xs,tag⟩
noncomputable def makeW (l:Lvl) (p key:Int) (xs:List Inp):Rep × Bool :=
 if makeOk l p key xs then (makeR l p xs (tagW key (listW (makeR l p xs 0))),true) else (rep0,false)
def OwRep (w:World) (r:Rep) (si sh:Sl):Prop:=Ow 0 w 158 3 si.a si.n si.c (cellsN r.ins)∧Ow 0 w 3 1 sh.a sh.n sh.c (cellsI r.hs)∧si.n≤1048576∧sh.n≤1048576
theorem OwRep.rd {w:World} {r:Rep} {si sh:Sl} (h:OwRep w r si sh):RdR w r si sh:=⟨Ow.rd encIn_len (by decide) h.1,h.2.1.rdI,⟨h.1.le,h.2.2.1⟩,h.2.1.le,h.2.2.2⟩
theorem OwRep.next {w w':World} {r:Rep} {si sh:Sl} (h:OwRep w r si sh) (hb:Below w.heap.size w w'):OwRep w' r si sh:=⟨Ow.next h.1 hb,Ow.next h.2.1 hb,h.2.2⟩
def RepPost (B:Nat) (r:Rep × Bool) (w:World) (e:Ending) (w':World):Prop :=
 ∃ si sh:Sl,e=.returned (.tuple #[repV r.1 si sh,.bool r.2])∧OwRep w' r.1 si sh∧Below B w w'
theorem rdR_zero (w:World):OwRep w rep0 ⟨none,0,0⟩ ⟨none,0,0⟩:=⟨Ow.bare _ _ _ _ _,Ow.bare _ _ _ _ _,by simp,by simp⟩
theorem Blk.all6 {w:World} {g T:Nat} {a0 a1 a2 a3 a4 a5:Value} (h:Blk w g T #[a0,a1,a2,a3,a4,a5]) (v0 v1 v2 v3 v4 v5:Value) :
  Blk ((((((w.setCell ⟨g,0,none⟩ v0).setCell ⟨g,1,none⟩ v1).setCell ⟨g,2,none⟩ v2).setCell ⟨g,3,none⟩ v3).setCell ⟨g,4,none⟩ v4).setCell ⟨g,5,none⟩ v5) g T #[v0,v1,v2,v3,v4,v5]:=by
 have h1:Blk (w.setCell ⟨g,0,none⟩ v0) g T #[v0,a1,a2,a3,a4,a5]:=h.set_ 0 v0
 have h2:Blk ((w.setCell ⟨g,0,none⟩ v0).setCell ⟨g,1,none⟩ v1) g T #[v0,v1,a2,a3,a4,a5]:=h1.set_ 1 v1
 have h3:Blk (((w.setCell ⟨g,0,none⟩ v0).setCell ⟨g,1,none⟩ v1).setCell ⟨g,2,none⟩ v2) g T #[v0,v1,v2,a3,a4,a5]:=h2.set_ 2 v2
 have h4:Blk ((((w.setCell ⟨g,0,none⟩ v0).setCell ⟨g,1,none⟩ v1).setCell ⟨g,2,none⟩ v2).setCell ⟨g,3,none⟩ v3) g T #[v0,v1,v2,v3,a4,a5]:=h3.set_ 3 v3
 have h5:Blk (((((w.setCell ⟨g,0,none⟩ v0).setCell ⟨g,1,none⟩ v1).setCell ⟨g,2,none⟩ v2).setCell ⟨g,3,none⟩ v3).setCell ⟨g,4,none⟩ v4) g T #[v0,v1,v2,v3,v4,a5]:=h4.set_ 4 v4
 exact h5.set_ 5 v5
theorem Ow.onlyT {B T T' sz n c o:Nat} {A:Option Addr} {w W:World} {cs:Array Value} {vs:List Value} (h:Ow B w T sz A n c vs) (k:Blk w o T' cs) (hne:T≠T') (ho:Only o w W):Ow B W T sz A n c vs :=
 h.keep fun g hg hc=>by
  obtain ⟨g',cur,hA,_,hb,_⟩:=h.blk hc
  rw [hA] at hg
  have e:g'=g:=by simpa using hg
  subst e
  exact ho.block _ hb.lt (by
   intro e
   injection e with e
   exact (Blk.ne_ hb k hne) e)
set_option maxRecDepth 100000 in
set_option maxHeartbeats 4000000 in
theorem specReplayMake_any (l:Lvl) (ws gs:Sl) (p key:Int) (A:Option Addr) (n c:Nat) (xs:List Inp) (w:World) (hl:RdL w l ws gs) (hr:RdN w A n xs) (hn:n≤1048576) (_hc:n≤c) :
  Calls Tryz.prog 16 #[lvlV l ws gs,.int .i64 p,.int .i64 key,.slice A n c] w (RepPost w.heap.size (makeW l p key xs) w):=by
 have HL:=Lib.hid hl
 have HN:=Lib.hid hr
 clear hl hr
 go_enter Tryz.func16,Tryz.ntmps16
 go_wp2_with fail
 refine (l21Ok_any l ws gs A n c xs _ (HL.out.below (ba (ba (Below.refl _ _)))) (HN.out.below (ba (ba (Below.refl _ _)))) hn).mono ?_
 rintro e w1 ⟨rfl,hb⟩
 have KL:=Lib.hid (((Blk.new w 29 (lvlC l ws gs)).alloc _).next hb)
 have KR:=Lib.hid ((Blk.newAt _ 35 (repC rep0 ⟨none,0,0⟩ ⟨none,0,0⟩) (w.heap.size+1) (by simp)).next hb)
 have HB:=Lib.hid (ba (ba hb))
 have HKZ:=Lib.hid (show w.heap.size+1<w1.heap.size by have:=hb.size;simp at this;omega)
 clear hb
 cases h1:okW l xs
 ·have HF:=Lib.hid (show makeW l p key xs=(rep0,false) by simp [makeW,makeOk,h1])
  have cr:=fun o=>KR.out.cell o
  have fr:=fun o=>KR.out.frozen o
  have zr:=KR.out.lt
  go_wp2_with fail
  refine bodyPost_ret (v:=.tuple #[repV rep0 ⟨none,0,0⟩ ⟨none,0,0⟩,.bool false]) (by simp [results,Tryz.results16,go_sem,cr,rep0]) rfl ?_
  unfold RepPost
  rw [HF.out]
  exact ⟨_,_,rfl,rdR_zero _,by have hb:=HB.out;go_grown⟩
 ·have H1:=Lib.hid h1
  clear h1
  go_wp2_with fail
  refine (l6In_any _ _ _ _).mono ?_
  rintro e w' ⟨rfl,rfl⟩
  cases h2:inR p 0 9
  ·have HF:=Lib.hid (show makeW l p key xs=(rep0,false) by simp [makeW,makeOk,h2])
   have cr:=fun o=>KR.out.cell o
   have fr:=fun o=>KR.out.frozen o
   have zr:=KR.out.lt
   go_wp2_with fail
   refine bodyPost_ret (v:=.tuple #[repV rep0 ⟨none,0,0⟩ ⟨none,0,0⟩,.bool false]) (by simp [results,Tryz.results16,go_sem,cr,rep0]) rfl ?_
   unfold RepPost
   rw [HF.out]
   exact ⟨_,_,rfl,rdR_zero _,by have hb:=HB.out;go_grown⟩
  ·have H2:=Lib.hid h2
   clear h2
   go_wp2_with fail
   refine (l6In_any _ _ _ _).mono ?_
   rintro e w' ⟨rfl,rfl⟩
   cases h3:inR key 1 9999
   ·have HF:=Lib.hid (show makeW l p key xs=(rep0,false) by simp [makeW,makeOk,h3])
    have cr:=fun o=>KR.out.cell o
    have fr:=fun o=>KR.out.frozen o
    have zr:=KR.out.lt
    go_wp2_with fail
    refine bodyPost_ret (v:=.tuple #[repV rep0 ⟨none,0,0⟩ ⟨none,0,0⟩,.bool false]) (by simp [results,Tryz.results16,go_sem,cr,rep0]) rfl ?_
    unfold RepPost
    rw [HF.out]
    exact ⟨_,_,rfl,rdR_zero _,by have hb:=HB.out;go_grown⟩
   ·have HF:=Lib.hid (show makeW l p key xs=(makeR l p xs (tagW key (listW (makeR l p xs 0))),true) by simp [makeW,makeOk,H1.out,H2.out,h3])
    clear h3
    have HOKX:=Lib.hid (okW_ins H1.out)
    go_upto_region 3 with (fail)
    have hcl:=fun o=>KL.out.cell o
    have HLW:=Lib.hid (HL.out.below HB.out)
    have HNW:=Lib.hid (HN.out.below HB.out)
    obtain ⟨i0,hi0,hz0,hz1,hz2⟩:=info_parts infoN
    have HI:=Lib.hid hi0
    have HZ:=Lib.hid hz0
    have HS:=Lib.hid hz1
    have HBY:=Lib.hid hz2
    clear hi0 hz0 hz1 hz2
    obtain ⟨h,hh⟩:∃ h,(hashesW l xs).length=h:=⟨_,rfl⟩
    have HHL:=Lib.hid hh
    have hhb:h≤1048576:=by
     rw [← hh]
     unfold hashesW
     split
     ·simp;have:=HN.out.len;omega
     ·simp
    clear hh
    have hmx:(if scoreW l xs<0 then (0:Int) else scoreW l xs)=max (scoreW l xs) 0:=by
     rw [Int.max_def]
     split <;> split <;> omega
    refine wp_region_grow 15 (by kernel_rfl) (by kernel_rfl) (by kernel_rfl) (fun a b=>Below a.heap.size a b) (fun mq w'=>Below w1.heap.size w1 w') (fun iq v w'=>match iq with|0=>(v=.pointer (some ⟨w.heap.size,0,none⟩))|1=>(v=.int .i64 l.id)|2=>(v=.int .i64 p)|3=>(v=lvlV l ws gs)|4=>(v=.slice A n c)|5=>(v=.int .i64 (scoreW l xs))|6=>(v=.int .i64 (max (scoreW l xs) 0))|7=>(∃ B,v=.slice B 0 0)|8=>(v=.slice A n c)|9=>(∃ B c',v=.slice B n c'∧Ow 0 w' 158 3 B n c' (cellsN xs))|10=>(v=lvlV l ws gs)|11=>(v=.slice A n c)|12=>(∃ B c',v=.slice B h c'∧Ow 0 w' 3 1 B h c' (cellsI (hashesW l xs)))|13=>(∃ B c' B' c'',v=.agg #[.int .i64 l.id,.int .i64 p,.int .i64 (max (scoreW l xs) 0),.slice B n c',.slice B' h c'',.int .i64 0]∧Ow 0 w' 158 3 B n c' (cellsN xs)∧Ow 0 w' 3 1 B' h c'' (cellsI (hashesW l xs)))|14=>(∃ o,v=.pointer (some ⟨o,0,none⟩)∧w1.heap.size≤o∧Blk w' o 35 (repC rep0 ⟨none,0,0⟩ ⟨none,0,0⟩))|_=>True) (fun sq=>{ tmps:=#[lvlV l ws gs,Value.int .i64 p,Value.int .i64 key,Value.slice A n c,Value.pointer (some (⟨w.heap.size,0,none⟩:Addr)),undef,undef,undef,Value.pointer (some (⟨w.heap.size+1,0,none⟩:Addr)),Value.bool false,sq 14,Value.agg #[Value.int .i64 l.id,Value.int .i64 l.ticks,Value.int .i64 l.sx,Value.int .i64 l.sy,Value.slice ws.a ws.n ws.c,Value.slice gs.a gs.n gs.c,Value.int .i64 l.f.1,Value.int .i64 l.f.2.1,Value.int .i64 l.f.2.2.1,Value.int .i64 l.f.2.2.2,Value.int .i64 l.bans],Value.slice A n c,Value.bool true,Value.bool false,Value.bool false,Value.int .i64 p,Value.bool true,Value.bool false,Value.bool false,Value.bool false,Value.int .i64 key,Value.bool true,Value.bool false,Value.bool false,undef,sq 0,sq 1,sq 2,sq 3,sq 4,sq 5,sq 6,sq 7,sq 8,sq 9,sq 10,sq 11,sq 12,sq 13,undef,undef,undef,undef,undef,undef],defers:=[] }) (fun _=>undef) ?_ ?_ ?_ ?_
    ·rintro iq v a b hg h
     match iq,h with
     | 0,h=>exact h
     | 1,h=>exact h
     | 2,h=>exact h
     | 3,h=>exact h
     | 4,h=>exact h
     | 5,h=>exact h
     | 6,h=>exact h
     | 7,h=>exact h
     | 8,h=>exact h
     | 9,h=>exact (by obtain ⟨B,c',rfl,ho⟩:=h;exact ⟨B,c',rfl,Ow.next ho hg⟩)
     | 10,h=>exact h
     | 11,h=>exact h
     | 12,h=>exact (by obtain ⟨B,c',rfl,ho⟩:=h;exact ⟨B,c',rfl,Ow.next ho hg⟩)
     | 13,h=>exact (by obtain ⟨B,c',B',c'',rfl,ho,ho'⟩:=h;exact ⟨B,c',B',c'',rfl,Ow.next ho hg,Ow.next ho' hg⟩)
     | 14,h=>exact (by obtain ⟨o,rfl,h1,h2⟩:=h;exact ⟨o,rfl,h1,h2.next hg⟩)
     | (kq+15),_=>exact trivial
    ·exact ⟨rfl,rfl,rfl,Nat.le_refl _,fun _ _=>rfl⟩
    ·intro mq sq w' iq oq hmq hiq hoq hJ hd Kq hK
     have hiq':iq=0∨iq=1∨iq=2∨iq=3∨iq=4∨iq=5∨iq=6∨iq=7∨iq=8∨iq=9∨iq=10∨iq=11∨iq=12∨iq=13∨iq=14:=by omega
     rcases hiq' with rfl|rfl|rfl|rfl|rfl|rfl|rfl|rfl|rfl|rfl|rfl|rfl|rfl|rfl|rfl
     ·cases (show some _=some oq from hoq)
      have hK':=hK
      simp only [updV,Nat.reduceEqDiff,↓reduceIte] at hK'
      clear hK hd
      generalize sq 0=x0,sq 1=x1,sq 2=x2,sq 3=x3,sq 4=x4,sq 5=x5,sq 6=x6,sq 7=x7,sq 8=x8,sq 9=x9,sq 10=x10,sq 11=x11,sq 12=x12,sq 13=x13,sq 14=x14 at *
      go_simp
      exact hK' _ _ (Below.refl _ _) hJ rfl
     ·cases (show some _=some oq from hoq)
      have d0:=hd 0 (by kernel_rfl) (by decide)
      have hK':=hK
      simp only [updV,Nat.reduceEqDiff,↓reduceIte] at hK'
      clear hK hd
      generalize sq 0=x0,sq 1=x1,sq 2=x2,sq 3=x3,sq 4=x4,sq 5=x5,sq 6=x6,sq 7=x7,sq 8=x8,sq 9=x9,sq 10=x10,sq 11=x11,sq 12=x12,sq 13=x13,sq 14=x14 at *
      obtain rfl:=d0
      have cl:=(KL.out.next hJ).cell 0
      go_simp
      exact hK' _ _ (Below.refl _ _) hJ rfl
     ·cases (show some _=some oq from hoq)
      have hK':=hK
      simp only [updV,Nat.reduceEqDiff,↓reduceIte] at hK'
      clear hK hd
      generalize sq 0=x0,sq 1=x1,sq 2=x2,sq 3=x3,sq 4=x4,sq 5=x5,sq 6=x6,sq 7=x7,sq 8=x8,sq 9=x9,sq 10=x10,sq 11=x11,sq 12=x12,sq 13=x13,sq 14=x14 at *
      go_simp
      exact hK' _ _ (Below.refl _ _) hJ rfl
     ·cases (show some _=some oq from hoq)
      have hK':=hK
      simp only [updV,Nat.reduceEqDiff,↓reduceIte] at hK'
      clear hK hd
      generalize sq 0=x0,sq 1=x1,sq 2=x2,sq 3=x3,sq 4=x4,sq 5=x5,sq 6=x6,sq 7=x7,sq 8=x8,sq 9=x9,sq 10=x10,sq 11=x11,sq 12=x12,sq 13=x13,sq 14=x14 at *
      have cl:=fun o=>(KL.out.next hJ).cell o
      go_simp
      exact hK' _ _ (Below.refl _ _) hJ rfl
     ·cases (show some _=some oq from hoq)
      have hK':=hK
      simp only [updV,Nat.reduceEqDiff,↓reduceIte] at hK'
      clear hK hd
      generalize sq 0=x0,sq 1=x1,sq 2=x2,sq 3=x3,sq 4=x4,sq 5=x5,sq 6=x6,sq 7=x7,sq 8=x8,sq 9=x9,sq 10=x10,sq 11=x11,sq 12=x12,sq 13=x13,sq 14=x14 at *
      go_simp
      exact hK' _ _ (Below.refl _ _) hJ rfl
     ·cases (show some _=some oq from hoq)
      have d3:=hd 3 (by kernel_rfl) (by decide)
      have d4:=hd 4 (by kernel_rfl) (by decide)
      have hK':=hK
      simp only [updV,Nat.reduceEqDiff,↓reduceIte] at hK'
      clear hK hd
      generalize sq 0=x0,sq 1=x1,sq 2=x2,sq 3=x3,sq 4=x4,sq 5=x5,sq 6=x6,sq 7=x7,sq 8=x8,sq 9=x9,sq 10=x10,sq 11=x11,sq 12=x12,sq 13=x13,sq 14=x14 at *
      obtain rfl:=d3
      obtain rfl:=d4
      go_simp
      refine (specRunScore_any l ws gs A n c xs _ (HLW.out.below hJ) (HNW.out.below hJ) hn).mono ?_
      rintro e w2 ⟨rfl,hb⟩
      exact hK' _ _ hb (below_next hJ hb) rfl
     ·cases (show some _=some oq from hoq)
      have d5:=hd 5 (by kernel_rfl) (by decide)
      have hK':=hK
      simp only [updV,Nat.reduceEqDiff,↓reduceIte] at hK'
      clear hK hd
      generalize sq 0=x0,sq 1=x1,sq 2=x2,sq 3=x3,sq 4=x4,sq 5=x5,sq 6=x6,sq 7=x7,sq 8=x8,sq 9=x9,sq 10=x10,sq 11=x11,sq 12=x12,sq 13=x13,sq 14=x14 at *
      obtain rfl:=d5
      go_simp
      exact hK' _ _ (Below.refl _ _) hJ rfl
     ·cases (show some _=some oq from hoq)
      have hK':=hK
      simp only [updV,Nat.reduceEqDiff,↓reduceIte] at hK'
      clear hK hd
      generalize sq 0=x0,sq 1=x1,sq 2=x2,sq 3=x3,sq 4=x4,sq 5=x5,sq 6=x6,sq 7=x7,sq 8=x8,sq 9=x9,sq 10=x10,sq 11=x11,sq 12=x12,sq 13=x13,sq 14=x14 at *
      go_simp
      exact hK' _ _ (ba (Below.refl _ _)) (hJ.alloc hJ.size _) ⟨_,rfl⟩
     ·cases (show some _=some oq from hoq)
      have hK':=hK
      simp only [updV,Nat.reduceEqDiff,↓reduceIte] at hK'
      clear hK hd
      generalize sq 0=x0,sq 1=x1,sq 2=x2,sq 3=x3,sq 4=x4,sq 5=x5,sq 6=x6,sq 7=x7,sq 8=x8,sq 9=x9,sq 10=x10,sq 11=x11,sq 12=x12,sq 13=x13,sq 14=x14 at *
      go_simp
      exact hK' _ _ (Below.refl _ _) hJ rfl
     ·cases (show some _=some oq from hoq)
      have d7:=hd 7 (by kernel_rfl) (by decide)
      have d8:=hd 8 (by kernel_rfl) (by decide)
      have hK':=hK
      simp only [updV,Nat.reduceEqDiff,↓reduceIte] at hK'
      clear hK hd
      generalize sq 0=x0,sq 1=x1,sq 2=x2,sq 3=x3,sq 4=x4,sq 5=x5,sq 6=x6,sq 7=x7,sq 8=x8,sq 9=x9,sq 10=x10,sq 11=x11,sq 12=x12,sq 13=x13,sq 14=x14 at *
      obtain ⟨B,rfl⟩:=d7
      obtain rfl:=d8
      refine step_append_ow _ rfl (.tmp 33) (.tmp 34) _ rfl w'.heap.size 158 i0 _ 3 24 Tryz.underlying30 HI.out HZ.out HS.out HBY.out rfl (by omega) _ 0 0 [] rfl (Ow.bare _ _ _ _ _) _ n c (cellsN xs) rfl (Src.rd encIn_len (HNW.out.below hJ)) (cellsX_oneCell encIn_one xs) (by unfold maxLen;omega) (by omega) (Nat.le_refl _) ?_
      intro A2 c2 w3 hO hg _
      have hb3:=(Ow.bare w'.heap.size _ 158 3 _).grown hg (Below.refl _ _) (Nat.le_refl _) (Nat.le_refl _)
      rw [Nat.zero_add] at hO ⊢
      rw [List.nil_append] at hO
      exact hK' _ _ hb3 (below_next hJ hb3) ⟨_,_,rfl,Ow.mono hO (Nat.zero_le _)⟩
     ·cases (show some _=some oq from hoq)
      have hK':=hK
      simp only [updV,Nat.reduceEqDiff,↓reduceIte] at hK'
      clear hK hd
      generalize sq 0=x0,sq 1=x1,sq 2=x2,sq 3=x3,sq 4=x4,sq 5=x5,sq 6=x6,sq 7=x7,sq 8=x8,sq 9=x9,sq 10=x10,sq 11=x11,sq 12=x12,sq 13=x13,sq 14=x14 at *
      have cl:=fun o=>(KL.out.next hJ).cell o
      go_simp
      exact hK' _ _ (Below.refl _ _) hJ rfl
     ·cases (show some _=some oq from hoq)
      have hK':=hK
      simp only [updV,Nat.reduceEqDiff,↓reduceIte] at hK'
      clear hK hd
      generalize sq 0=x0,sq 1=x1,sq 2=x2,sq 3=x3,sq 4=x4,sq 5=x5,sq 6=x6,sq 7=x7,sq 8=x8,sq 9=x9,sq 10=x10,sq 11=x11,sq 12=x12,sq 13=x13,sq 14=x14 at *
      go_simp
      exact hK' _ _ (Below.refl _ _) hJ rfl
     ·cases (show some _=some oq from hoq)
      have d10:=hd 10 (by kernel_rfl) (by decide)
      have d11:=hd 11 (by kernel_rfl) (by decide)
      have hK':=hK
      simp only [updV,Nat.reduceEqDiff,↓reduceIte] at hK'
      clear hK hd
      generalize sq 0=x0,sq 1=x1,sq 2=x2,sq 3=x3,sq 4=x4,sq 5=x5,sq 6=x6,sq 7=x7,sq 8=x8,sq 9=x9,sq 10=x10,sq 11=x11,sq 12=x12,sq 13=x13,sq 14=x14 at *
      obtain rfl:=d10
      obtain rfl:=d11
      go_simp
      refine (specRunHashes_any l ws gs A n c xs _ (HLW.out.below hJ) (HNW.out.below hJ) hn).mono ?_
      rintro e w2 ⟨B,c',rfl,ho,hb⟩
      rw [HHL.out] at ho ⊢
      exact hK' _ _ hb (below_next hJ hb) ⟨_,_,rfl,Ow.mono ho (Nat.zero_le _)⟩
     ·cases (show some _=some oq from hoq)
      have d1:=hd 1 (by kernel_rfl) (by decide)
      have d2:=hd 2 (by kernel_rfl) (by decide)
      have d6:=hd 6 (by kernel_rfl) (by decide)
      have d9:=hd 9 (by kernel_rfl) (by decide)
      have d12:=hd 12 (by kernel_rfl) (by decide)
      have hK':=hK
      simp only [updV,Nat.reduceEqDiff,↓reduceIte] at hK'
      clear hK hd
      generalize sq 0=x0,sq 1=x1,sq 2=x2,sq 3=x3,sq 4=x4,sq 5=x5,sq 6=x6,sq 7=x7,sq 8=x8,sq 9=x9,sq 10=x10,sq 11=x11,sq 12=x12,sq 13=x13,sq 14=x14 at *
      obtain rfl:=d1
      obtain rfl:=d2
      obtain rfl:=d6
      obtain ⟨B,c',rfl,ho⟩:=d9
      obtain ⟨B',c'',rfl,ho'⟩:=d12
      go_simp
      exact hK' _ _ (Below.refl _ _) hJ ⟨B,c',B',c'',rfl,ho,ho'⟩
     ·cases (show some _=some oq from hoq)
      have hK':=hK
      simp only [updV,Nat.reduceEqDiff,↓reduceIte] at hK'
      clear hK hd
      generalize sq 0=x0,sq 1=x1,sq 2=x2,sq 3=x3,sq 4=x4,sq 5=x5,sq 6=x6,sq 7=x7,sq 8=x8,sq 9=x9,sq 10=x10,sq 11=x11,sq 12=x12,sq 13=x13,sq 14=x14 at *
      go_simp
      exact hK' _ _ (ba (Below.refl _ _)) (hJ.alloc hJ.size _) ⟨_,rfl,hJ.size,Blk.new _ _ _⟩
    ·intro sq w' hJ hφ
     simp only [List.drop_succ_cons,List.drop_zero]
     have d13:=hφ 13 (by decide)
     have d14:=hφ 14 (by decide)
     clear hφ
     generalize sq 0=x0,sq 1=x1,sq 2=x2,sq 3=x3,sq 4=x4,sq 5=x5,sq 6=x6,sq 7=x7,sq 8=x8,sq 9=x9,sq 10=x10,sq 11=x11,sq 12=x12,sq 13=x13,sq 14=x14 at *
     obtain ⟨B,c',B',c'',rfl,hO1,hO2⟩:=d13
     obtain ⟨o,rfl,ho1,hbo⟩:=d14
     obtain ⟨sc,hsc⟩:∃ sc,max (scoreW l xs) 0=sc:=⟨_,rfl⟩
     rw [hsc]
     have HSC:=Lib.hid hsc
     clear hmx hsc
     have HO1:=Lib.hid hO1
     have HO2:=Lib.hid hO2
     have KO:=Lib.hid hbo
     have hcc1:=hO1.le
     have hcc2:=hO2.le
     replace KR:=Lib.hid (KR.out.next hJ)
     have hzo:=KR.out.lt
     have hw1z:=HB.out.size
     have hw1k:w.heap.size+1<o:=by
      have h1:w.heap.size+1<w1.heap.size:=HKZ.out
      omega
     replace HB:=Lib.hid (below_next HB.out hJ)
     clear hO1 hO2 hbo hJ hcl
     have co:=fun o=>KO.out.cell o
     have fo:=fun o=>KO.out.frozen o
     have zo:=KO.out.lt
     go_upto_region 4 with (fail)
     refine into_world (fun W=>Only o w' W∧Blk W o 35 (repC (makeR l p xs 0) ⟨B,n,c'⟩ ⟨B',h,c''⟩)) ⟨?_,?_⟩ ?_
     ·exact (((((((Only.refl o w').set_ (p:=⟨o,0,none⟩) (.inl rfl) _).set_ (p:=⟨o,1,none⟩) (.inl rfl) _).set_ (p:=⟨o,2,none⟩) (.inl rfl) _).set_ (p:=⟨o,3,none⟩) (.inl rfl) _).set_ (p:=⟨o,4,none⟩) (.inl rfl) _).set_ (p:=⟨o,5,none⟩) (.inl rfl) _)
     ·have:=Blk.all6 KO.out (.int .i64 l.id) (.int .i64 p) (.int .i64 sc) (.slice B n c') (.slice B' h c'') (.int .i64 0)
      rw [← HSC.out] at this ⊢
      exact this
     rintro W ⟨ho,hko⟩
     replace HO1:=Lib.hid (HO1.out.onlyT KO.out (by decide) ho)
     replace HO2:=Lib.hid (HO2.out.onlyT KO.out (by decide) ho)
     replace KR:=Lib.hid (KR.out.only ho (by omega))
     replace HB:=Lib.hid (HB.out.trans (ho.below (by omega) HB.out.size))
     replace KO:=Lib.hid hko
     clear co fo zo ho hko
     have co:=fun o=>KO.out.cell o
     have fo:=fun o=>KO.out.frozen o
     have zo:=KO.out.lt
     go_wp2_with fail
     refine (l23List_any (makeR l p xs 0) ⟨B,n,c'⟩ ⟨B',h,c''⟩ _ ⟨Ow.rd encIn_len (by decide) HO1.out,HO2.out.rdI,⟨hcc1,hn⟩,hcc2,hhb⟩).mono ?_
     rintro e w2 ⟨A2,c2,rfl,hO,hb⟩
     replace KO:=Lib.hid (KO.out.next hb)
     replace KR:=Lib.hid (KR.out.next hb)
     replace HO1:=Lib.hid (HO1.out.next hb)
     replace HO2:=Lib.hid (HO2.out.next hb)
     replace HB:=Lib.hid (below_next HB.out hb)
     have HLI:=Lib.hid hO
     have hll:(listW (makeR l p xs 0)).length≤1099511627776:=by
      have e1:(makeR l p xs 0).ins.length=n:=HN.out.len
      have e2:(makeR l p xs 0).hs.length=h:=HHL.out
      simp only [listW,List.length_append,List.length_map,e1,e2,List.length_cons,List.length_nil]
      omega
     have HLL:=Lib.hid hll
     clear hO hb co fo zo hll
     go_wp2_with fail
     refine (l4Tag_any key A2 _ c2 (listW (makeR l p xs 0)) _ HLI.out.rdI HLL.out).mono ?_
     rintro e w3 ⟨rfl,rfl⟩
     obtain ⟨tg,htg⟩:∃ t,tagW key (listW (makeR l p xs 0))=t:=⟨_,rfl⟩
     rw [htg]
     have HTG:=Lib.hid htg
     clear htg
     have co:=fun o=>KO.out.cell o
     have fo:=fun o=>KO.out.frozen o
     have zo:=KO.out.lt
     have cr:=fun o=>KR.out.cell o
     have fr:=fun o=>KR.out.frozen o
     have zr:=KR.out.lt
     go_wp2_with fail
     refine bodyPost_ret (v:=.tuple #[repV (makeR l p xs tg) ⟨B,n,c'⟩ ⟨B',h,c''⟩,.bool true]) (by simp [results,Tryz.results16,go_sem,cr,makeR]) rfl ?_
     unfold RepPost
     rw [HF.out,HTG.out]
     have q1:Only o w3 (w3.setCell ⟨o,5,none⟩ (.int .i64 tg)):=(Only.refl o w3).set_ (p:=⟨o,5,none⟩) (.inl rfl) _
     have kr1:=KR.out.only q1 (by omega)
     have q2:=fun v0 v1 v2 v3 v4 v5=>(((((((Only.refl (w.heap.size+1) (w3.setCell ⟨o,5,none⟩ (.int .i64 tg))).set_ (p:=⟨w.heap.size+1,0,none⟩) (.inl rfl) v0).set_ (p:=⟨w.heap.size+1,1,none⟩) (.inl rfl) v1).set_ (p:=⟨w.heap.size+1,2,none⟩) (.inl rfl) v2).set_ (p:=⟨w.heap.size+1,3,none⟩) (.inl rfl) v3).set_ (p:=⟨w.heap.size+1,4,none⟩) (.inl rfl) v4).set_ (p:=⟨w.heap.size+1,5,none⟩) (.inl rfl) v5)
     have hb1:=HB.out.trans (q1.below (show w.heap.size≤o by omega) HB.out.size)
     refine ⟨⟨B,n,c'⟩,⟨B',h,c''⟩,rfl,⟨(HO1.out.onlyT KO.out (by decide) q1).onlyT kr1 (by decide) (q2 _ _ _ _ _ _),(HO2.out.onlyT KO.out (by decide) q1).onlyT kr1 (by decide) (q2 _ _ _ _ _ _),hn,hhb⟩,hb1.trans ((q2 _ _ _ _ _ _).below (by omega) hb1.size)⟩
theorem OwRep.onlyT {w W:World} {r:Rep} {si sh:Sl} {o T':Nat} {cs:Array Value} (h:OwRep w r si sh) (k:Blk w o T' cs) (h1:158≠T') (h2:3≠T') (ho:Only o w W):OwRep W r si sh:=⟨h.1.onlyT k h1 ho,h.2.1.onlyT k h2 ho,h.2.2⟩
end Go.Proofs.YtkgfmgajhgfgjaaGreatDoor
namespace Go.Proofs.YtkgfmgajhgfgjaaGreatDoor
open Go.RowKit Go.Sort
set_option maxHeartbeats 400000 in
theorem isCoordinate_any (x:Int) (w:World) :
  Calls Tryz.prog 197 #[.int .i64 x] w fun e w'=>e=.returned (.bool (inC x))∧w=w':=by
 go_enter Tryz.func197,Tryz.ntmps197
 go_wp2_with fail
 refine (inRange_any _ _ _ _).mono ?_
 rintro e w' ⟨rfl,rfl⟩
 go_wp2_with fail
 go_ret
 exact ⟨rfl,rfl⟩
set_option maxHeartbeats 400000 in
theorem implVecOk_any (x y:Int) (w:World) :
  Calls Tryz.prog 119 #[.agg #[.int .i64 x,.int .i64 y]] w fun e w'=>e=.returned (.bool (vecOk x y))∧Below w.heap.size w w':=by
 go_enter Tryz.func119,Tryz.ntmps119
 go_wp2_with (first|(go_at_call 197;refine (isCoordinate_any _ _).mono ?_;rintro e w' ⟨rfl,rfl⟩))
 all_goals go_ret
 all_goals exact ⟨ret_bool (by simp [vecOk, *]),(Below.refl _ _).alloc (Nat.le_refl _) _⟩
set_option maxHeartbeats 1000000 in
theorem axes_any (b:Bx) (w:World) :
  Calls Tryz.prog 200 #[.agg #[.int .i64 b.1,.int .i64 b.2.1,.int .i64 b.2.2.1,.int .i64 b.2.2.2]] w fun e w'=>e=.returned (.agg #[.int .i64 b.1,.int .i64 b.2.2.1,.int .i64 b.2.1,.int .i64 b.2.2.2])∧Below w.heap.size w w':=by
 go_enter Tryz.func200,Tryz.ntmps200
 go_wp2
 refine bodyPost_ret (v:=.agg #[.int .i64 b.1,.int .i64 b.2.2.1,.int .i64 b.2.1,.int .i64 b.2.2.2]) (by simp [results,Tryz.results200,go_sem]) rfl ⟨rfl,by go_grown⟩
set_option maxHeartbeats 2000000 in
theorem nearest_any (b:Bx) (x y:Int) (w:World) :
  Calls Tryz.prog 246 #[.agg #[.int .i64 b.1,.int .i64 b.2.1,.int .i64 b.2.2.1,.int .i64 b.2.2.2],.agg #[.int .i64 x,.int .i64 y]] w fun e w'=>e=.returned (.agg #[.int .i64 (min (max x b.1) b.2.2.1),.int .i64 (min (max y b.2.1) b.2.2.2)])∧Below w.heap.size w w':=by
 obtain ⟨b1,b2,b3,b4⟩:=b
 have AX:=fun W=>axes_any (b1,b2,b3,b4) W
 have HAX:=Lib.hid AX
 clear AX
 go_enter Tryz.func246,Tryz.ntmps246
 go_wp2_with fail
 refine (HAX.out _).mono ?_
 rintro e w1 ⟨rfl,hb1⟩
 have k2:=((Blk.newAt _ _ _ (w.heap.size+1) (by simp)).alloc _).next hb1
 have c0:w1.cell? ⟨w.heap.size+1,0,none⟩=some (.int .i64 x):=k2.cell 0
 have c1:w1.cell? ⟨w.heap.size+1,1,none⟩=some (.int .i64 y):=k2.cell 1
 have k3:=(Blk.newAt _ _ _ (w.heap.size+1+1) (by simp)).next hb1
 have r0:w1.cell? ⟨w.heap.size+1+1,0,none⟩=some (.int .i64 0):=k3.cell 0
 have r1:w1.cell? ⟨w.heap.size+1+1,1,none⟩=some (.int .i64 0):=k3.cell 1
 have f0:=k3.frozen 0
 have f1:=k3.frozen 1
 have HB1:=Lib.hid (ba (ba (ba hb1)))
 have hz1:=hb1.size
 simp at hz1
 have hz:w.heap.size+1<w1.heap.size:=by omega
 have hz2:w.heap.size+1+1<w1.heap.size:=by omega
 clear hb1 k2 k3 hz1
 go_wp2_with fail
 all_goals
  refine bodyPost_ret (v:=.agg #[.int .i64 (min (max x b1) b3),.int .i64 (min (max y b2) b4)]) (by simp [results,Tryz.results246,go_sem,r0,r1,hz2];omega) rfl ⟨rfl,?_⟩
  have hs:=HB1.out.size
  exact ((HB1.out.setCell (by simp;omega) _).setCell (by simp;omega) _).alloc (by simp;omega) _
set_option maxHeartbeats 1000000 in
theorem square_any (x y:Int) (w:World) :
  Calls Tryz.prog 247 #[.agg #[.int .i64 x,.int .i64 y]] w fun e w'=>e=.returned (.int .i64 (wrap64 (wrap64 (x * x)+wrap64 (y * y))))∧Below w.heap.size w w':=by
 go_enter Tryz.func247,Tryz.ntmps247
 go_wp2
 go_ret
 exact ⟨rfl,(Below.refl _ _).alloc (Nat.le_refl _) _⟩
def touchI (b:Bx) (x y r:Int):Bool:=nearW (min (max x b.1) b.2.2.1) (min (max y b.2.1) b.2.2.2) x y r
theorem touchI_eq {b:Bx} (h:boxOk b=true) (x y r:Int):touchI b x y r=touchW b x y r:=by
 simp only [boxOk,Bool.and_eq_true,decide_eq_true_eq] at h
 obtain ⟨⟨_,h1⟩,h2⟩:=h
 unfold touchI touchW
 rw [show min (max x b.1) b.2.2.1=max b.1 (min x b.2.2.1) by omega,show min (max y b.2.1) b.2.2.2=max b.2.1 (min y b.2.2.2) by omega]
set_option maxHeartbeats 1000000 in
theorem touches_any (b:Bx) (x y r:Int) (w:World) :
  Calls Tryz.prog 202 #[.agg #[.int .i64 b.1,.int .i64 b.2.1,.int .i64 b.2.2.1,.int .i64 b.2.2.2],.agg #[.int .i64 x,.int .i64 y],.int .i64 r] w fun e w'=>e=.returned (.bool (touchI b x y r))∧Below w.heap.size w w':=by
 have N:=fun W=>nearest_any b x y W
 unfold touchI
 generalize min (max x b.1) b.2.2.1=p at N ⊢
 generalize min (max y b.2.1) b.2.2.2=q at N ⊢
 have HN:=Lib.hid N
 clear N
 go_enter Tryz.func202,Tryz.ntmps202
 go_wp2_with fail
 refine (HN.out _).mono ?_
 rintro e w1 ⟨rfl,hb1⟩
 have k1:=(Blk.newAt _ _ _ (w.heap.size+1) (by simp)).next hb1
 have c0:w1.cell? ⟨w.heap.size+1,0,none⟩=some (.int .i64 x):=k1.cell 0
 have c1:w1.cell? ⟨w.heap.size+1,1,none⟩=some (.int .i64 y):=k1.cell 1
 have HB1:=Lib.hid (ba (ba hb1))
 have hz1:=hb1.size
 simp at hz1
 have hz:w.heap.size+1<w1.heap.size:=by omega
 clear hb1 k1 hz1
 go_wp2_with fail
 refine (square_any _ _ _).mono ?_
 rintro e w2 ⟨rfl,hb2⟩
 go_wp2_with fail
 go_ret
 exact ⟨ret_bool rfl,below_at HB1.out HB1.out.size (ba hb2)⟩
set_option maxHeartbeats 2000000 in
theorem implBoxValid_any (b:Bx) (w:World) :
  Calls Tryz.prog 123 #[.agg #[.int .i64 b.1,.int .i64 b.2.1,.int .i64 b.2.2.1,.int .i64 b.2.2.2]] w fun e w'=>e=.returned (.bool (boxOk b))∧Below w.heap.size w w':=by
 have i0:∀ W,(Instr.index 242 (.agg #[.int .i64 b.1,.int .i64 b.2.2.1,.int .i64 b.2.1,.int .i64 b.2.2.2]) (.int .i64 0)).run Tryz.prog W=.ok (.agg #[.int .i64 b.1,.int .i64 b.2.2.1]) W:=fun _=>by kernel_rfl
 have i1:∀ W,(Instr.index 242 (.agg #[.int .i64 b.1,.int .i64 b.2.2.1,.int .i64 b.2.1,.int .i64 b.2.2.2]) (.int .i64 1)).run Tryz.prog W=.ok (.agg #[.int .i64 b.2.1,.int .i64 b.2.2.2]) W:=fun _=>by kernel_rfl
 go_enter Tryz.func123,Tryz.ntmps123
 go_wp2_with fail
 refine (axes_any _ _).mono ?_
 rintro e w1 ⟨rfl,hb1⟩
 have HK1:=Lib.hid ((Blk.new _ _ _).next hb1)
 have HB1:=Lib.hid (ba hb1)
 clear hb1
 go_wp2_with fail
 go_loopw [7] (fun i wr=>∃ k:Nat,k≤2∧i=.int .i64 k∧Hid (Below w.heap.size w wr∧Blk wr w.heap.size 27 #[.int .i64 b.1,.int .i64 b.2.1,.int .i64 b.2.2.1,.int .i64 b.2.2.2]∧(0<k→b.1≤b.2.2.1)∧(1<k→b.2.1≤b.2.2.2))) (fun i _=>2 - (intOf i).toNat)
 case atStart=>exact ⟨0,by omega,rfl,HB1.out,HK1.out,fun h=>absurd h (by omega),fun h=>absurd h (by omega)⟩
 case round =>
  obtain ⟨k,hk,rfl,HB⟩:=hrel
  have hq:k=0∨k=1∨k=2:=by omega
  rcases hq with rfl|rfl|rfl
  ·by_cases h1:b.2.2.1<b.1
   ·go_wp2_with fail
    go_ret
    refine ⟨ret_bool ?_,HB.out.1.alloc HB.out.1.size _⟩
    symm
    simp only [boxOk,Bool.and_eq_false_iff,decide_eq_false_iff_not]
    exact .inl (.inr (by omega))
   ·have h1':b.1≤b.2.2.1:=by omega
    go_wp2_with fail
    exact ⟨⟨1,by omega,rfl,HB.out.1.alloc HB.out.1.size _,HB.out.2.1.alloc _,fun _=>by omega,fun h=>absurd h (by omega)⟩,by simp [intOf]⟩
  ·by_cases h1:b.2.2.2<b.2.1
   ·go_wp2_with fail
    go_ret
    refine ⟨ret_bool ?_,HB.out.1.alloc HB.out.1.size _⟩
    symm
    simp only [boxOk,Bool.and_eq_false_iff,decide_eq_false_iff_not]
    exact .inr (by omega)
   ·have h1':b.2.1≤b.2.2.2:=by omega
    go_wp2_with fail
    exact ⟨⟨2,by omega,rfl,HB.out.1.alloc HB.out.1.size _,HB.out.2.1.alloc _,fun _=>HB.out.2.2.1 (by omega),fun _=>by omega⟩,by simp [intOf]⟩
  ·have hx:=Lib.hid (HB.out.2.2.1 (by omega))
   have hy:=Lib.hid (HB.out.2.2.2 (by omega))
   have c0:wr.cell? ⟨w.heap.size,0,none⟩=some (.int .i64 b.1):=HB.out.2.1.cell 0
   have c1:wr.cell? ⟨w.heap.size,1,none⟩=some (.int .i64 b.2.1):=HB.out.2.1.cell 1
   go_wp2_with fail
   refine (implVecOk_any _ _ _).mono ?_
   rintro e w2 ⟨rfl,hb2⟩
   have k2:=HB.out.2.1.next hb2
   have d2:w2.cell? ⟨w.heap.size,2,none⟩=some (.int .i64 b.2.2.1):=k2.cell 2
   have d3:w2.cell? ⟨w.heap.size,3,none⟩=some (.int .i64 b.2.2.2):=k2.cell 3
   have HB2:=Lib.hid (below_next HB.out.1 hb2)
   clear c0 c1 hb2 k2
   cases hv:vecOk b.1 b.2.1
   ·go_wp2_with fail
    go_ret
    exact ⟨ret_bool (by simp [boxOk,hv]),HB2.out⟩
   ·go_wp2_with fail
    refine (implVecOk_any _ _ _).mono ?_
    rintro e w3 ⟨rfl,hb3⟩
    go_wp2_with fail
    go_ret
    exact ⟨ret_bool (by have h1:=hx.out;have h2:=hy.out;simp [boxOk,hv,h1,h2]),below_next HB2.out hb3⟩
end Go.Proofs.YtkgfmgajhgfgjaaGreatDoor

/-
  Lemmas and contracts: Si Nw Kd Ba De Db. No condition.
-/
import Derived.Test.YtkgfmgajhgfgjaaGreatDoorKa3
import Derived.Test.YtkgfmgajhgfgjaaGreatDoorKa4
import Derived.Test.YtkgfmgajhgfgjaaGreatDoorKa6
import Derived.Test.YtkgfmgajhgfgjaaGreatDoorKa8
set_option linter.unusedSimpArgs false
set_option linter.unusedVariables false
set_option linter.unusedSectionVars false
namespace Go.Proofs.YtkgfmgajhgfgjaaGreatDoor
open Go.RowKit Go.Sort
set_option maxHeartbeats 400000 in
theorem isHash_any (n:Int) (w:World) :
  Calls Tryz.prog 80 #[.int .i64 n] w fun e w'=>e=.returned (.bool (hashOk n))∧w=w':=by
 go_enter Tryz.func80,Tryz.ntmps80
 go_wp2_with fail
 refine (inRange_any _ _ _ _).mono ?_
 rintro e w' ⟨rfl,rfl⟩
 go_wp2_with fail
 go_ret
 exact ⟨rfl,rfl⟩
set_option maxHeartbeats 400000 in
theorem serviceValid1_any (n:Int) (w:World) :
  Calls Tryz.prog 78 #[.int .i64 n] w fun e w'=>e=.returned (.bool (!keyOk n))∧w=w':=by
 go_enter Tryz.func78,Tryz.ntmps78
 go_wp2_with fail
 refine (inRange_any _ _ _ _).mono ?_
 rintro e w' ⟨rfl,rfl⟩
 go_wp2_with fail
 go_ret
 exact ⟨rfl,rfl⟩
set_option maxHeartbeats 400000 in
theorem serviceValid2_any (n:Int) (w:World) :
  Calls Tryz.prog 79 #[.int .i64 n] w fun e w'=>e=.returned (.bool (!hashOk n))∧w=w':=by
 go_enter Tryz.func79,Tryz.ntmps79
 go_wp2_with fail
 refine (isHash_any _ _).mono ?_
 rintro e w' ⟨rfl,rfl⟩
 go_wp2_with fail
 go_ret
 exact ⟨rfl,rfl⟩
set_option maxHeartbeats 2000000 in
theorem validKeys_index (A:Option Addr) (n c:Nat) (zs:List Int) (w:World) (hr:RdI .i64 w A n zs) (hn:n≤1099511627776) :
  Calls Tryz.prog 137 #[.slice A n c,.func (.func 78) #[] #[]] w fun e w'=>∃ v:Int,e=.returned (.int .i64 v)∧decide (0≤v)=(!zs.all keyOk)∧w=w':=by
 have HR:=Lib.hid hr;clear hr
 go_enter Tryz.func137,Tryz.ntmps137
 go_wp2
 go_loop [8] (fun i=>∃ k:Nat,k≤n∧i=.int .i64 k∧Hid (zs.all keyOk=(zs.drop k).all keyOk)) (fun i=>n - (intOf i).toNat)
 case atStart=>exact ⟨0,Nat.zero_le _,rfl,rfl⟩
 case round =>
  obtain ⟨k,hk,rfl,HF⟩:=hrel
  by_cases hlt:k<n
  ·obtain ⟨b,off,x,hA,hb,hx,h0⟩:=HR.out.at_ hlt
   subst hA
   have HS:=Lib.hid (all_drop (p:=keyOk) hx)
   clear hx
   cases ho:keyOk x
   ·have HO:=Lib.hid ho
    have c1:=fun W=>serviceValid1_any x W
    rw [ho] at c1
    have C1:=Lib.hid c1
    clear ho c1
    go_wp2_with (first|(go_at_call 78;refine (C1.out _).mono ?_;rintro e w' ⟨rfl,rfl⟩))
    go_ret
    exact ⟨_,rfl,by rw [HF.out,HS.out,HO.out];simp,rfl⟩
   ·have HO:=Lib.hid ho
    have c1:=fun W=>serviceValid1_any x W
    rw [ho] at c1
    have C1:=Lib.hid c1
    clear ho c1
    go_wp2_with (first|(go_at_call 78;refine (C1.out _).mono ?_;rintro e w' ⟨rfl,rfl⟩))
    go_round
    case rel=>exact ⟨k+1,by omega,by go_num,by show _=_;rw [HF.out,HS.out,HO.out];rfl⟩
    case measure=>simp [intOf];omega
  ·go_wp2
   go_ret
   exact ⟨_,rfl,by rw [HF.out,List.drop_of_length_le (by rw [HR.out.len];omega)];rfl,rfl⟩
set_option maxHeartbeats 1000000 in
theorem validKeys_contains (A:Option Addr) (n c:Nat) (zs:List Int) (w:World) (hr:RdI .i64 w A n zs) (hn:n≤1099511627776) :
  Calls Tryz.prog 64 #[.slice A n c,.func (.func 78) #[] #[]] w fun e w'=>e=.returned (.bool (!zs.all keyOk))∧w=w':=by
 have H1:=Lib.hid (validKeys_index A n c zs w hr hn)
 clear hr
 go_enter Tryz.func64,Tryz.ntmps64
 go_wp2_with fail
 refine H1.out.mono ?_
 rintro e w1 ⟨v,rfl,hv,rfl⟩
 have HV:=Lib.hid hv
 clear hv
 go_wp2_with fail
 go_ret
 exact ⟨ret_bool HV.out,rfl⟩
set_option maxHeartbeats 2000000 in
theorem validTags_index (A:Option Addr) (n c:Nat) (zs:List Int) (w:World) (hr:RdI .i64 w A n zs) (hn:n≤1099511627776) :
  Calls Tryz.prog 137 #[.slice A n c,.func (.func 79) #[] #[]] w fun e w'=>∃ v:Int,e=.returned (.int .i64 v)∧decide (0≤v)=(!zs.all hashOk)∧w=w':=by
 have HR:=Lib.hid hr;clear hr
 go_enter Tryz.func137,Tryz.ntmps137
 go_wp2
 go_loop [8] (fun i=>∃ k:Nat,k≤n∧i=.int .i64 k∧Hid (zs.all hashOk=(zs.drop k).all hashOk)) (fun i=>n - (intOf i).toNat)
 case atStart=>exact ⟨0,Nat.zero_le _,rfl,rfl⟩
 case round =>
  obtain ⟨k,hk,rfl,HF⟩:=hrel
  by_cases hlt:k<n
  ·obtain ⟨b,off,x,hA,hb,hx,h0⟩:=HR.out.at_ hlt
   subst hA
   have HS:=Lib.hid (all_drop (p:=hashOk) hx)
   clear hx
   cases ho:hashOk x
   ·have HO:=Lib.hid ho
    have c1:=fun W=>serviceValid2_any x W
    rw [ho] at c1
    have C1:=Lib.hid c1
    clear ho c1
    go_wp2_with (first|(go_at_call 79;refine (C1.out _).mono ?_;rintro e w' ⟨rfl,rfl⟩))
    go_ret
    exact ⟨_,rfl,by rw [HF.out,HS.out,HO.out];simp,rfl⟩
   ·have HO:=Lib.hid ho
    have c1:=fun W=>serviceValid2_any x W
    rw [ho] at c1
    have C1:=Lib.hid c1
    clear ho c1
    go_wp2_with (first|(go_at_call 79;refine (C1.out _).mono ?_;rintro e w' ⟨rfl,rfl⟩))
    go_round
    case rel=>exact ⟨k+1,by omega,by go_num,by show _=_;rw [HF.out,HS.out,HO.out];rfl⟩
    case measure=>simp [intOf];omega
  ·go_wp2
   go_ret
   exact ⟨_,rfl,by rw [HF.out,List.drop_of_length_le (by rw [HR.out.len];omega)];rfl,rfl⟩
set_option maxHeartbeats 1000000 in
theorem validTags_contains (A:Option Addr) (n c:Nat) (zs:List Int) (w:World) (hr:RdI .i64 w A n zs) (hn:n≤1099511627776) :
  Calls Tryz.prog 64 #[.slice A n c,.func (.func 79) #[] #[]] w fun e w'=>e=.returned (.bool (!zs.all hashOk))∧w=w':=by
 have H1:=Lib.hid (validTags_index A n c zs w hr hn)
 clear hr
 go_enter Tryz.func64,Tryz.ntmps64
 go_wp2_with fail
 refine H1.out.mono ?_
 rintro e w1 ⟨v,rfl,hv,rfl⟩
 have HV:=Lib.hid hv
 clear hv
 go_wp2_with fail
 go_ret
 exact ⟨ret_bool HV.out,rfl⟩
set_option maxHeartbeats 1000000 in
theorem serviceValid3_any (e:Ent) (z:Int) (B:Nat) (n c b off p:Nat) (w:World) (hB:w.cell? ⟨B,1,none⟩=some (.slice (some ⟨b,off,none⟩) n c)) (he:e.1=p) (hp:p<n) (hc:w.cell? ⟨b,off+p,none⟩=some (.int .i64 z)) :
  Calls Tryz.prog 83 #[.agg #[.int .i64 e.1,.int .i64 e.2],.pointer (some ⟨B,0,none⟩)] w fun e w'=>e=.returned (.bool (decide (z=0)))∧Below w.heap.size w w':=by
 have hlt:=World.block_lt_of_cell? _ _ hB
 have hlt2:=World.block_lt_of_cell? _ _ hc
 simp at hlt hlt2
 obtain ⟨e1,e2⟩:=e
 simp only at he ⊢
 subst he
 have hp':(p:Int)<n:=by omega
 go_enter Tryz.func83,Tryz.ntmps83
 go_wp2
 go_ret
 exact ⟨ret_bool rfl,(Below.refl _ _).alloc (Nat.le_refl _) _⟩
set_option maxHeartbeats 2000000 in
theorem keyed_index (A:Option Addr) (n c:Nat) (es:List Ent) (keys:List Int) (B:Nat) (Ak:Option Addr) (ck:Nat) (w:World) (hr:RdE w A n es) (hn:n≤1099511627776) (hB:w.cell? ⟨B,1,none⟩=some (.slice Ak 10 ck)) (hk:RdI .i64 w Ak 10 keys) (hp:∀ e ∈ es,0≤e.1∧e.1≤9) :
  Calls Tryz.prog 157 #[.slice A n c,.func (.func 83) #[] #[.pointer (some ⟨B,0,none⟩)]] w fun e w'=>∃ v:Int,e=.returned (.int .i64 v)∧decide (0≤v)=(!es.all (keyed keys))∧Below w.heap.size w w':=by
 have HR:=Lib.hid hr;clear hr
 have HK:=Lib.hid hk;clear hk
 have HP:=Lib.hid hp;clear hp
 have hBl:=World.block_lt_of_cell? _ _ hB
 simp at hBl
 have HBC:=Lib.hid hB;clear hB
 go_enter Tryz.func157,Tryz.ntmps157
 go_wp2
 go_loopw [8] (fun i wr=>∃ k:Nat,k≤n∧i=.int .i64 k∧Hid (Below w.heap.size w wr∧es.all (keyed keys)=(es.drop k).all (keyed keys))) (fun i _=>n - (intOf i).toNat)
 case atStart=>exact ⟨0,Nat.zero_le _,rfl,Below.refl _ _,rfl⟩
 case round =>
  obtain ⟨k,hk,rfl,HF⟩:=hrel
  by_cases hlt:k<n
  ·obtain ⟨b,off,e,hA,hb,he,h0,h1⟩:=(HR.out.below HF.out.1).at_ hlt
   subst hA
   obtain ⟨hp0,hp9⟩:=HP.out e (List.mem_of_getElem? he)
   obtain ⟨p,hpe⟩:=Int.eq_ofNat_of_zero_le hp0
   obtain ⟨b3,off3,z,hA3,hb3,hz,hc3⟩:=(HK.out.below HF.out.1).at_ (j:=p) (by omega)
   have hBr:wr.cell? ⟨B,1,none⟩=some (.slice (some ⟨b3,off3,none⟩) 10 ck):=by rw [← hA3];exact ((bcell HF.out.1).1 B 1 hBl).trans HBC.out
   have C1:=Lib.hid (serviceValid3_any e z B 10 ck b3 off3 p wr hBr hpe (by omega) hc3)
   have hky:keyed keys e=decide (z≠0):=by unfold keyed;rw [hpe,Int.toNat_natCast,hz];rfl
   have HKY:=Lib.hid hky
   have HS:=Lib.hid (all_drop (p:=keyed keys) he)
   clear he hpe hz hky hA3 hBr hc3 hp0 hp9
   by_cases hz0:z=0
   ·subst hz0
    go_wp2_with (first|(go_at_call 83;refine C1.out.mono ?_;rintro e w' ⟨rfl,hb1⟩))
    go_ret
    exact ⟨_,rfl,by rw [HF.out.2,HS.out,HKY.out];simp,below_next HF.out.1 hb1⟩
   ·have HKT:=Lib.hid (show keyed keys e=true by rw [HKY.out];simpa using hz0)
    go_wp2_with (first|(go_at_call 83;refine C1.out.mono ?_;rintro e w' ⟨rfl,hb1⟩))
    exact ⟨⟨k+1,by omega,by go_num,below_next HF.out.1 hb1,by rw [HF.out.2,HS.out,HKT.out];rfl⟩,by simp [intOf];omega⟩
  ·go_wp2
   go_ret
   exact ⟨_,rfl,by rw [HF.out.2,List.drop_of_length_le (by rw [HR.out.len];omega)];rfl,HF.out.1⟩
set_option maxHeartbeats 1000000 in
theorem keyed_contains (A:Option Addr) (n c:Nat) (es:List Ent) (keys:List Int) (B:Nat) (Ak:Option Addr) (ck:Nat) (w:World) (hr:RdE w A n es) (hn:n≤1099511627776) (hB:w.cell? ⟨B,1,none⟩=some (.slice Ak 10 ck)) (hk:RdI .i64 w Ak 10 keys) (hp:∀ e ∈ es,0≤e.1∧e.1≤9) :
  Calls Tryz.prog 82 #[.slice A n c,.func (.func 83) #[] #[.pointer (some ⟨B,0,none⟩)]] w fun e w'=>e=.returned (.bool (!es.all (keyed keys)))∧Below w.heap.size w w':=by
 have H1:=Lib.hid (keyed_index A n c es keys B Ak ck w hr hn hB hk hp)
 clear hr hB hk hp
 go_enter Tryz.func82,Tryz.ntmps82
 go_wp2_with fail
 refine H1.out.mono ?_
 rintro e w1 ⟨v,rfl,hv,hb1⟩
 have HV:=Lib.hid hv
 clear hv
 go_wp2_with fail
 go_ret
 exact ⟨ret_bool HV.out,hb1⟩
set_option maxRecDepth 100000 in
set_option maxHeartbeats 8000000 in
theorem implServiceValid_any (t k g:Sl) (S:Svc) (w:World) (hr:RdS w t k g S) :
  Calls Tryz.prog 27 #[svV t k g] w fun e w'=>e=.returned (.bool (validS S))∧Below w.heap.size w w':=by
 obtain ⟨⟨xs,hxs,hts⟩,hk,hg,⟨_,hn1⟩,⟨_,hn2⟩,_,hn3⟩:=hr
 have hlt:xs.length=t.n:=hts.1.len
 have hlk:=hk.len
 have hlg:=hg.len
 have hxl:S.ts.length=t.n:=by rw [← hxs,List.length_map,hlt]
 by_cases hb:S.keys.length=10∧S.ts.length≤4∧S.tags.length≤12
 rotate_left
 ·have HV:=Lib.hid (validS_len hb)
  rw [hlk,hxl,hlg] at hb
  clear hts hk hg hxs
  by_cases h2:t.n≤4
  ·have h2':¬ (4:Int)<t.n:=by omega
   by_cases h1:k.n=10
   ·have h1':(k.n:Int)=10:=by omega
    have h3':(12:Int)<g.n:=by omega
    clear hb h1 hlt hlk hlg hxl
    go_enter Tryz.func27,Tryz.ntmps27
    go_wp2
    go_ret
    exact ⟨ret_bool HV.out.symm,by go_grown⟩
   ·have h1':((k.n:Int) != 10)=true:=by simp;omega
    clear hb h1 hlt hlk hlg hxl
    go_enter Tryz.func27,Tryz.ntmps27
    go_wp2
    go_ret
    exact ⟨ret_bool HV.out.symm,by go_grown⟩
  ·have h2':(4:Int)<t.n:=by omega
   clear hb hlt hlk hlg hxl
   go_enter Tryz.func27,Tryz.ntmps27
   go_wp2
   go_ret
   exact ⟨ret_bool HV.out.symm,by go_grown⟩
 ·obtain ⟨b1,b2,b3⟩:=hb
  have hq1:k.n=10:=by omega
  have hq2:t.n≤4:=by omega
  have hq3:g.n≤12:=by omega
  have h1':((k.n:Int) != 10)=false:=by simp;omega
  have h2':¬ (4:Int)<t.n:=by omega
  have h3':¬ (12:Int)<g.n:=by omega
  have HXS:=Lib.hid hxs
  have HTS:=Lib.hid hts
  have HK:=Lib.hid hk
  have HG:=Lib.hid hg
  have HXL:=Lib.hid hxl
  have HL1:=Lib.hid b1
  have HL2:=Lib.hid b2
  have HL3:=Lib.hid b3
  have HQ1:=Lib.hid hq1
  have hq1l:k.n≤10:=by omega
  clear hxs hts hk hg hxl b1 b2 b3 hlt hlk hlg hn1 hn2 hn3 hq1
  go_enter Tryz.func27,Tryz.ntmps27
  have hw1:Below w.heap.size w (w.alloc (.cells #[.slice t.a t.n t.c,.slice k.a k.n k.c,.slice g.a g.n g.c] 42)):=(Below.refl _ _).alloc (Nat.le_refl _) _
  have HW1:=Lib.hid hw1
  have HBL:=Lib.hid (Blk.new w 42 #[.slice t.a t.n t.c,.slice k.a k.n k.c,.slice g.a g.n g.c])
  clear hw1
  cases hko:S.keys.all keyOk
  ·have HKO:=Lib.hid hko
   clear hko
   go_wp2_with fail
   refine (validKeys_contains _ _ _ _ _ (HK.out.below HW1.out) (by omega)).mono ?_
   rintro e w' ⟨rfl,rfl⟩
   rw [HKO.out]
   go_wp2_with fail
   go_ret
   exact ⟨ret_bool (validS_keys HKO.out).symm,HW1.out⟩
  ·have HKO:=Lib.hid hko
   clear hko
   go_wp2_with fail
   refine (validKeys_contains _ _ _ _ _ (HK.out.below HW1.out) (by omega)).mono ?_
   rintro e w' ⟨rfl,rfl⟩
   rw [HKO.out]
   cases hgo:S.tags.all hashOk
   ·have HGO:=Lib.hid hgo
    clear hgo
    go_wp2_with fail
    refine (validTags_contains _ _ _ _ _ (HG.out.below HW1.out) (by omega)).mono ?_
    rintro e w' ⟨rfl,rfl⟩
    rw [HGO.out]
    go_wp2_with fail
    go_ret
    exact ⟨ret_bool (validS_tags HGO.out).symm,HW1.out⟩
   ·have HGO:=Lib.hid hgo
    clear hgo
    go_wp2_with fail
    refine (validTags_contains _ _ _ _ _ (HG.out.below HW1.out) (by omega)).mono ?_
    rintro e w' ⟨rfl,rfl⟩
    rw [HGO.out]
    go_wp2_with fail
    go_loopw [3,4,32] (fun _ _ i wr=>∃ j:Nat,j≤t.n∧i=.int .i64 j∧Hid (Below w.heap.size w wr∧Blk wr w.heap.size 42 #[.slice t.a t.n t.c,.slice k.a k.n k.c,.slice g.a g.n g.c]∧∀ q,q<j→trkOk S q=true)) (fun _ _ i _=>t.n - (intOf i).toNat)
    case atStart=>exact ⟨0,Nat.zero_le _,rfl,HW1.out,HBL.out,fun q hq=>absurd hq (by omega)⟩
    case round =>
     obtain ⟨j,hj,rfl,HB⟩:=hrel
     obtain ⟨wo,rfl⟩:∃ wo:World,wo=wr:=⟨_,rfl⟩
     by_cases hlt2:j<t.n
     ·obtain ⟨b,off,x,hA,hbb,hx,hrt,e0,e1,e2,e3,e4,e5,e6,e7,e8,e9,e10,e11⟩:=RdTs.cells (HTS.out.below HB.out.1) hlt2
      have HA:=Lib.hid hA
      rw [hA]
      have hS:S.ts[j]?=some x.2:=by rw [← HXS.out,List.getElem?_map,hx];rfl
      have HTR:=Lib.hid (trkOk_some hS)
      clear hA hS
      go_upto_region 8 with (fail)
      have HAL:=Lib.hid ((Below.refl wo.heap.size wo).alloc (Nat.le_refl _) (.cells (encT x).toArray 65))
      have hTB:=Blk.new wo 65 (encT x).toArray
      generalize hWT:wo.alloc (.cells (encT x).toArray 65)=WT at HAL hTB
      have HRT:=Lib.hid (hrt.below HAL.out)
      have HTSW:=Lib.hid ((HTS.out.below HB.out.1).below HAL.out)
      have HTB:=Lib.hid hTB
      have HSB:=Lib.hid (HB.out.2.1.next HAL.out)
      have HWT:=Lib.hid hWT
      clear hTB hrt hWT
      show Code.wp _ _ _ _ (wo.alloc (.cells (encT x).toArray 65))
      rw [HWT.out]
      have hz:wo.heap.size<WT.heap.size:=HTB.out.lt
      have t0:WT.cell? ⟨wo.heap.size,0,none⟩=some (.int .i64 x.2.l.id):=HTB.out.cell 0
      have t1:WT.cell? ⟨wo.heap.size,1,none⟩=some (.int .i64 x.2.l.ticks):=HTB.out.cell 1
      have t2:WT.cell? ⟨wo.heap.size,2,none⟩=some (.int .i64 x.2.l.sx):=HTB.out.cell 2
      have t3:WT.cell? ⟨wo.heap.size,3,none⟩=some (.int .i64 x.2.l.sy):=HTB.out.cell 3
      have t4:WT.cell? ⟨wo.heap.size,4,none⟩=some (.slice x.1.w.a x.1.w.n x.1.w.c):=HTB.out.cell 4
      have t5:WT.cell? ⟨wo.heap.size,5,none⟩=some (.slice x.1.g.a x.1.g.n x.1.g.c):=HTB.out.cell 5
      have t6:WT.cell? ⟨wo.heap.size,6,none⟩=some (.int .i64 x.2.l.f.1):=HTB.out.cell 6
      have t7:WT.cell? ⟨wo.heap.size,7,none⟩=some (.int .i64 x.2.l.f.2.1):=HTB.out.cell 7
      have t8:WT.cell? ⟨wo.heap.size,8,none⟩=some (.int .i64 x.2.l.f.2.2.1):=HTB.out.cell 8
      have t9:WT.cell? ⟨wo.heap.size,9,none⟩=some (.int .i64 x.2.l.f.2.2.2):=HTB.out.cell 9
      have t10:WT.cell? ⟨wo.heap.size,10,none⟩=some (.int .i64 x.2.l.bans):=HTB.out.cell 10
      have t11:WT.cell? ⟨wo.heap.size,11,none⟩=some (.slice x.1.b.a x.1.b.n x.1.b.c):=HTB.out.cell 11
      clear e0 e1 e2 e3 e4 e5 e6 e7 e8 e9 e10 e11
      have s0:WT.cell? ⟨w.heap.size,0,none⟩=some (.slice (some ⟨b,off,none⟩) t.n t.c):=by rw [← HA.out];exact HSB.out.cell 0
      have hbn:=HRT.out.2.2.2
      have hbn2:=HRT.out.2.2.1
      go_cut [64] (fun s77 wx=>s77=.bool (!(levelOk x.2.l && validE x.2.b && !(decide (0<j) && decide (x.2.l.id≤prevId S.ts j))))∧Hid (Below WT.heap.size WT wx))
      case first =>
       have t0':=fun d os=>cell_regrown t0 d os
       have t1':=fun d os=>cell_regrown t1 d os
       have t2':=fun d os=>cell_regrown t2 d os
       have t3':=fun d os=>cell_regrown t3 d os
       have t4':=fun d os=>cell_regrown t4 d os
       have t5':=fun d os=>cell_regrown t5 d os
       have t6':=fun d os=>cell_regrown t6 d os
       have t7':=fun d os=>cell_regrown t7 d os
       have t8':=fun d os=>cell_regrown t8 d os
       have t9':=fun d os=>cell_regrown t9 d os
       have t10':=fun d os=>cell_regrown t10 d os
       have t11':=fun d os=>cell_regrown t11 d os
       have s0':=fun d os=>cell_regrown s0 d os
       cases hlo:levelOk x.2.l with
       | false =>
        have HLO:=Lib.hid hlo
        clear hlo
        refine wp_region_qb (by kernel_rfl) (by kernel_rfl) ?_
        repeat (go_big_quiet_step (first|(go_at_call 50;exact Calls.regrown_of ((implLevelValid_any x.2.l x.1.w x.1.g _ (HRT.out.1.below (below_regrown _ _ _))).mono fun e w' h=>by rw [HLO.out] at h;exact h))))
        refine wpQuiet_nil ?_
        intro w5 hb5
        go_wp2_with fail
        go_meet
        exact ⟨by simp [HLO.out],hb5⟩
       | true =>
        have HLO:=Lib.hid hlo
        clear hlo
        cases hbo:validE x.2.b with
        | false =>
         have HBO:=Lib.hid hbo
         clear hbo
         refine wp_region_qb (by kernel_rfl) (by kernel_rfl) ?_
         repeat (go_big_quiet_step (first|(go_at_call 50;exact Calls.regrown_of ((implLevelValid_any x.2.l x.1.w x.1.g _ (HRT.out.1.below (below_regrown _ _ _))).mono fun e w' h=>by rw [HLO.out] at h;exact h))|(go_at_call 81;exact Calls.regrown_of ((implBoardValid_v _ _ _ _ _ (HRT.out.2.1.below (below_regrown _ _ _)) (by omega) hbn2).mono fun e w' h=>by rw [HBO.out] at h;exact h))))
         refine wpQuiet_nil ?_
         intro w5 hb5
         go_wp2_with fail
         go_meet
         exact ⟨by simp [HBO.out],hb5⟩
        | true =>
         have HBO:=Lib.hid hbo
         clear hbo
         by_cases hj0:0<j
         ·obtain ⟨b',off',y,hA',_,hy,_,p0,_⟩:=RdTs.cells HTSW.out (k:=j - 1) (by omega)
          obtain ⟨rfl,rfl⟩:b=b'∧off=off':=by rw [HA.out] at hA';simpa using hA'
          have hpv:prevId S.ts j=y.2.l.id:=by unfold prevId;rw [← HXS.out,List.getElem?_map,hy];rfl
          have HPV:=Lib.hid hpv
          have p0':=fun d os=>cell_regrown p0 d os
          have q1:IntKind.i64.wrap ((j:Int) - 1)=(j:Int) - 1:=IntWalk.i64_in _ (by omega)
          have q2:(0:Int)≤(j:Int) - 1:=by omega
          have q3:((j:Int) - 1).toNat=j - 1:=by omega
          have q4:(j:Int) - 1<t.n:=by omega
          clear hA' hy hpv p0
          by_cases hs:x.2.l.id≤y.2.l.id
          ·refine wp_region_qb (by kernel_rfl) (by kernel_rfl) ?_
           repeat (go_big_quiet_step (first|(go_at_call 50;exact Calls.regrown_of ((implLevelValid_any x.2.l x.1.w x.1.g _ (HRT.out.1.below (below_regrown _ _ _))).mono fun e w' h=>by rw [HLO.out] at h;exact h))|(go_at_call 81;exact Calls.regrown_of ((implBoardValid_v _ _ _ _ _ (HRT.out.2.1.below (below_regrown _ _ _)) (by omega) hbn2).mono fun e w' h=>by rw [HBO.out] at h;exact h))))
           refine wpQuiet_nil ?_
           intro w5 hb5
           go_wp2_with fail
           go_meet
           exact ⟨by simp [HPV.out,hj0,hs],hb5⟩
          ·have hsb:decide (x.2.l.id≤y.2.l.id)=false:=by simpa using hs
           refine wp_region_qb (by kernel_rfl) (by kernel_rfl) ?_
           repeat (go_big_quiet_step (first|(go_at_call 50;exact Calls.regrown_of ((implLevelValid_any x.2.l x.1.w x.1.g _ (HRT.out.1.below (below_regrown _ _ _))).mono fun e w' h=>by rw [HLO.out] at h;exact h))|(go_at_call 81;exact Calls.regrown_of ((implBoardValid_v _ _ _ _ _ (HRT.out.2.1.below (below_regrown _ _ _)) (by omega) hbn2).mono fun e w' h=>by rw [HBO.out] at h;exact h))))
           refine wpQuiet_nil ?_
           intro w5 hb5
           go_wp2_with fail
           go_meet
           exact ⟨by simp [HLO.out,HBO.out,HPV.out,hsb],hb5⟩
         ·refine wp_region_qb (by kernel_rfl) (by kernel_rfl) ?_
          repeat (go_big_quiet_step (first|(go_at_call 50;exact Calls.regrown_of ((implLevelValid_any x.2.l x.1.w x.1.g _ (HRT.out.1.below (below_regrown _ _ _))).mono fun e w' h=>by rw [HLO.out] at h;exact h))|(go_at_call 81;exact Calls.regrown_of ((implBoardValid_v _ _ _ _ _ (HRT.out.2.1.below (below_regrown _ _ _)) (by omega) hbn2).mono fun e w' h=>by rw [HBO.out] at h;exact h))))
          refine wpQuiet_nil ?_
          intro w5 hb5
          go_wp2_with fail
          go_meet
          exact ⟨by simp [HLO.out,HBO.out,hj0],hb5⟩
      case rest =>
       obtain ⟨rfl,HBC⟩:=hcut
       have HW5:=Lib.hid (below_next HB.out.1 (ba (by rw [HWT.out];exact HBC.out)))
       have HSB5:=Lib.hid (HSB.out.next HBC.out)
       have HRB5:=Lib.hid (HRT.out.2.1.below HBC.out)
       have HK5:=Lib.hid (HK.out.below HW5.out)
       have u11:wc.cell? ⟨wo.heap.size,11,none⟩=some (.slice x.1.b.a x.1.b.n x.1.b.c):=(HTB.out.next HBC.out).cell 11
       clear t0 t1 t2 t3 t4 t5 t6 t7 t8 t9 t10 t11 s0 HBC HRT HTSW HTB HSB HWT HAL
       cases hob:(levelOk x.2.l && validE x.2.b && !(decide (0<j) && decide (x.2.l.id≤prevId S.ts j)))
       ·have hv:validS S=false:=validS_trk (k:=j) (by rw [HXL.out];exact hlt2) (by rw [HTR.out,hob];rfl)
        have HV:=Lib.hid hv
        clear hv hob u11
        go_wp2
        go_ret
        exact ⟨ret_bool HV.out.symm,HW5.out⟩
       ·have hvb:validE x.2.b=true:=by
         simp only [Bool.and_eq_true] at hob
         exact hob.1.2
        have HPL:=Lib.hid (fun e (he:e ∈ x.2.b)=>by
         obtain ⟨q,hq⟩:=List.mem_iff_getElem?.1 he
         have:=okE_bd (validE_ok hvb hq)
         exact ⟨this.1,this.2.1⟩:∀ e ∈ x.2.b,0≤e.1∧e.1≤9)
        have HOB:=Lib.hid hob
        clear hvb hob
        have HCT:=Lib.hid (keyed_contains x.1.b.a x.1.b.n x.1.b.c x.2.b S.keys w.heap.size k.a k.c wc HRB5.out (by omega) (by rw [← HQ1.out];exact HSB5.out.cell 1) (by rw [← HQ1.out];exact HK5.out) HPL.out)
        go_wp2_with fail
        refine HCT.out.mono ?_
        rintro e w6 ⟨rfl,hb6⟩
        have HW6:=Lib.hid (below_next HW5.out hb6)
        have HSB6:=Lib.hid (HSB5.out.next hb6)
        clear hb6 u11
        cases hky:x.2.b.all (keyed S.keys)
        ·have hv:validS S=false:=validS_trk (k:=j) (by rw [HXL.out];exact hlt2) (by rw [HTR.out,hky];simp)
         have HV:=Lib.hid hv
         clear hv hky
         go_wp2_with fail
         go_ret
         exact ⟨ret_bool HV.out.symm,HW6.out⟩
        ·have hv:trkOk S j=true:=by rw [HTR.out,HOB.out,hky];rfl
         have HV:=Lib.hid hv
         clear hv hky
         go_wp2_with fail
         exact ⟨⟨j+1,by omega,by go_num,HW6.out,by have h:=HSB6.out;rw [HA.out] at h;exact h,fun q hq=>by
          by_cases hqj:q=j
          ·rw [hqj];exact HV.out
          ·exact HB.out.2.2 q (by omega)⟩,by simp [intOf];omega⟩
     ·have HKT:Hid (∀ q,q<S.ts.length→trkOk S q=true):=fun q hq=>HB.out.2.2 q (by rw [HXL.out] at hq;omega)
      have HB1:=Lib.hid HB.out.1
      clear HB
      go_wp2_with fail
      go_ret
      exact ⟨ret_bool (validS_true HL1.out HL2.out HL3.out HKO.out HKT.out HGO.out).symm,HB1.out⟩
end Go.Proofs.YtkgfmgajhgfgjaaGreatDoor
namespace Go.Proofs.YtkgfmgajhgfgjaaGreatDoor
open Go.RowKit Go.Sort
def padK (zs:List Int):List Int:=zs ++ List.replicate (10 - zs.length) 0
def newOk (zs:List Int):Bool:=decide (zs.length≤10) && zs.all keyOk
def newS (zs:List Int):Svc × Bool:=if newOk zs then (⟨[],padK zs,[]⟩,true) else (⟨[],[],[]⟩,false)
def SvcPost (B:Nat) (r:Svc × Bool) (w:World) (e:Ending) (w':World):Prop :=
 ∃ t k g,e=.returned (.tuple #[svV t k g,.bool r.2])∧OwS B w'.heap.size w' t k g r.1∧Below B w w'
theorem padK_length {zs:List Int} (h:zs.length≤10):(padK zs).length=10:=by simp [padK];omega
theorem padK_all (zs:List Int):(padK zs).all keyOk=zs.all keyOk:=by
 unfold padK
 rw [List.all_append]
 have:(List.replicate (10 - zs.length) (0:Int)).all keyOk=true:=by
  rw [List.all_eq_true]
  intro x hx
  rw [(List.mem_replicate.1 hx).2]
  rfl
 rw [this,Bool.and_true]
theorem valid_new (zs:List Int):validS ⟨[],(padK zs),[]⟩=newOk zs:=by
 unfold newOk
 by_cases h:zs.length≤10
 ·cases h2:zs.all keyOk
  ·rw [validS_keys (by show (padK zs).all keyOk=false;rw [padK_all,h2])];simp
  ·rw [validS_true (padK_length h) (by simp) (by simp) (by show (padK zs).all keyOk=true;rw [padK_all,h2]) (fun k hk=>absurd hk (by simp)) (by simp)];simp [h]
 ·rw [validS_len (by simp [padK];omega)];simp [h]
theorem newS_own {B g c:Nat} {W:World} {A A':Option Addr} {keys:List Int} (h:Ow B W 3 1 (some ⟨g,0,none⟩) 10 c (cellsI keys)):OwS B W.heap.size W ⟨A,0,0⟩ ⟨some ⟨g,0,none⟩,10,c⟩ ⟨A',0,0⟩ ⟨[],keys,[]⟩ :=
 ⟨⟨[],rfl,OwI.bare _ _ _ _ _ _,by simp,by simp [boxBlks],by simp [entBlks],by simp⟩,OwI.of h,OwI.bare _ _ _ _ _ _,by simpa [blkOf,ownB] using blkOf_nodup ⟨some ⟨g,0,none⟩,10,c⟩,by simp,by simp⟩
theorem blk_apart {B T T' sz n c x:Nat} {A:Option Addr} {w w':World} {cs:Array Value} {vs:List Value} (h:Blk w x T cs) (k:Ow B w T' sz A n c vs) (hne:T≠T') (hg:w.grownBy w' (ownB A c)):Blk w' x T cs :=
 (hg.block x h.lt (by
  intro e
  rcases Nat.eq_zero_or_pos c with h0|h0
  ·rw [h0] at e;simp [ownB] at e
  ·obtain ⟨g2,_,e2,_,hb2,_⟩:=k.blk h0
   unfold ownB at e
   rw [if_neg (by omega),e2] at e
   injection e with e
   simp only at e
   exact Blk.ne_ h hb2 hne e)).trans h
def keysN (zs:List Int) (k:Nat):List Int:=(List.range k).map fun i=>(zs[i]?).getD 0
theorem keysN_succ (zs:List Int) (k:Nat):keysN zs (k+1)=keysN zs k ++ [(zs[k]?).getD 0]:=by simp [keysN,List.range_succ]
theorem keysN_ten {zs:List Int} (h:zs.length≤10):keysN zs 10=padK zs:=by
 apply List.ext_getElem?
 intro i
 unfold keysN padK
 rw [List.getElem?_map,List.getElem?_append]
 by_cases h1:i<zs.length
 ·rw [if_pos h1,List.getElem?_range (by omega),Option.map_some,List.getElem?_eq_getElem h1,Option.getD_some]
 ·rw [if_neg h1,List.getElem?_replicate]
  by_cases h2:i<10
  ·rw [if_pos (by omega),List.getElem?_range h2,Option.map_some,List.getElem?_eq_none (by omega)]
   rfl
  ·rw [if_neg (by omega),List.getElem?_eq_none (by simp;omega)]
   rfl
set_option maxRecDepth 100000 in
set_option maxHeartbeats 4000000 in
theorem specServiceNew_any (A:Option Addr) (n c:Nat) (zs:List Int) (w:World) (hr:RdI .i64 w A n zs) (hn:n≤1048576) :
  Calls Tryz.prog 155 #[.slice A n c] w (SvcPost w.heap.size (newS zs) w):=by
 have hl:=hr.len
 have HR:=Lib.hid hr
 have HL:=Lib.hid hl
 obtain ⟨i0,hi0,hz0,hz1,hz2⟩:=info_parts infoZ
 have HI:=Lib.hid hi0
 have HZ:=Lib.hid hz0
 have HS:=Lib.hid hz1
 have HBY:=Lib.hid hz2
 clear hi0 hz0 hz1 hz2 hr hl
 go_enter Tryz.func155,Tryz.ntmps155
 go_wp2
 go_loopw [5,6] (fun i _ wr=>∃ (k:Nat) (A':Option Addr) (c':Nat),k≤10∧i=.int .i64 k∧Hid (Below w.heap.size w wr∧Blk wr w.heap.size 42 #[.slice none 0 0,.slice none 0 0,.slice none 0 0]∧Blk wr (w.heap.size+1+1+1) 42 #[.slice (some ⟨w.heap.size+1,0,none⟩) 0 0,.slice A' k c',.slice (some ⟨w.heap.size+1+1,0,none⟩) 0 0]∧Ow (w.heap.size+4) wr 3 1 A' k c' (cellsI (keysN zs k)))) (fun i _ _=>10 - (intOf i).toNat)
 case atStart=>exact ⟨0,none,0,Nat.zero_le _,rfl,by go_grown,((Blk.new _ _ _).alloc _).alloc _ |>.alloc _,Blk.newAt _ _ _ _ (by simp),Ow.bare _ _ _ _ _⟩
 case round =>
  obtain ⟨k,A',c',hk,rfl,HB⟩:=hrel
  have HB1:=Lib.hid HB.out.1
  have HBR:=Lib.hid HB.out.2.1
  have HBS:=Lib.hid HB.out.2.2.1
  have HBO:=Lib.hid HB.out.2.2.2
  have cs:=fun o=>HBS.out.cell o
  have fs:=fun o=>HBS.out.frozen o
  have zs_:=HBS.out.lt
  clear HB
  by_cases hlt:k<10
  ·obtain ⟨key,hkey⟩:∃ z,z=(zs[k]?).getD 0:=⟨_,rfl⟩
   have HSU:=Lib.hid (keysN_succ zs k)
   by_cases hkn:k<n
   all_goals
    first
     |obtain ⟨b,off,z,rfl,hb,hz,e0⟩:=(HR.out.below HB1.out).at_ hkn
      obtain rfl:key=z:=by rw [hkey,hz];rfl
      clear hz
     | obtain rfl:key=0:=by rw [hkey,List.getElem?_eq_none (by rw [HL.out];omega)];rfl
    have HK:=Lib.hid hkey
    clear hkey
    go_wp2_with (at_builtin;refine wpList_append_ow _ rfl (.tmp 23) (.tmp 25) _ rfl (w.heap.size+4) 3 i0 _ 1 8 Tryz.underlying33 HI.out HZ.out HS.out HBY.out rfl (by omega) _ k c' _ rfl (HBO.out.alloc _) _ 1 1 [_] rfl (Src.blk (Blk.new _ _ _) rfl) (cellsI_one [_]) (by unfold maxLen;omega) (by omega) (by simp;omega) ?_;intro A2 c2 w2 hown2 hg2 _;have HO:=Lib.hid hown2;have HBS2:=Lib.hid (blk_apart (HBS.out.alloc _) (HBO.out.alloc _) (by decide) hg2);have HBR2:=Lib.hid (blk_apart (HBR.out.alloc _) (HBO.out.alloc _) (by decide) hg2);have HB2:=Lib.hid (HB1.out.trans (((Ow.alloc HBO.out _).grown hg2 ((Below.refl _ _).alloc (by omega) _) (Nat.le_refl _) (by simp;omega)).mono (by omega)));have cs2:=fun o=>HBS2.out.cell o;have fs2:=fun o=>HBS2.out.frozen o;have zs2:=HBS2.out.lt;clear hown2 hg2 cs fs)
    refine ⟨⟨k+1,A2,c2,by omega,by go_num,HB2.out.setCell (by simp;omega) _,HBR2.out.far (by simp;omega) _,HBS2.out.set_ 1 _,?_⟩,by simp [intOf];omega⟩
    rw [HSU.out,← HK.out]
    show Ow _ _ _ 1 _ _ _ ((keysN zs k ++ [_]).map (Value.int .i64))
    rw [List.map_append]
    exact HO.out.onlyB (g:=w.heap.size+1+1+1) (Only.set_ (Only.refl _ _) (.inl rfl) _) (by omega)
  ·obtain rfl:k=10:=by omega
   obtain ⟨g,cur,hA,hBg,_⟩:=HBO.out.blk (Nat.lt_of_lt_of_le (by omega) HBO.out.le)
   subst hA
   have hos:OwS (w.heap.size+4) wr.heap.size wr ⟨some ⟨w.heap.size+1,0,none⟩,0,0⟩ ⟨some ⟨g,0,none⟩,10,c'⟩ ⟨some ⟨w.heap.size+1+1,0,none⟩,0,0⟩ ⟨[],keysN zs 10,[]⟩:=newS_own HBO.out
   have HOS:=Lib.hid hos
   clear hos
   go_wp2_with fail
   refine (specServiceValid_any ⟨some ⟨w.heap.size+1,0,none⟩,0,0⟩ ⟨some ⟨g,0,none⟩,10,c'⟩ ⟨some ⟨w.heap.size+1+1,0,none⟩,0,0⟩ ⟨[],keysN zs 10,[]⟩ _ HOS.out.rd).mono ?_
   rintro e w2 ⟨rfl,hb2⟩
   have HBS2:=Lib.hid (HBS.out.next hb2)
   have HBR2:=Lib.hid (HBR.out.next hb2)
   have HOS2:=Lib.hid (HOS.out.next hb2)
   have HB2:=Lib.hid (below_next HB1.out hb2)
   have hsz2:=hb2.size
   have cs2:=fun o=>HBS2.out.cell o
   have cr2:=fun o=>HBR2.out.cell o
   have fr2:=fun o=>HBR2.out.frozen o
   have zr2:=HBR2.out.lt
   clear hb2 cs fs
   by_cases h10:zs.length≤10
   ·have h1:¬ (10:Int)<n:=by have:=HL.out;omega
    have hv:validS ⟨[],keysN zs 10,[]⟩=newOk zs:=by rw [keysN_ten h10,valid_new]
    have HKT:=Lib.hid (keysN_ten h10)
    rw [hv]
    clear hv
    cases hno:newOk zs
    ·have HN:=Lib.hid (show newS zs=(⟨[],[],[]⟩,false) by simp [newS,hno])
     clear hno
     go_wp2_with fail
     refine bodyPost_ret (v:=.tuple #[svV ⟨none,0,0⟩ ⟨none,0,0⟩ ⟨none,0,0⟩,.bool false]) (by simp [results,Tryz.results155,go_sem,cr2]) rfl ?_
     rw [HN.out]
     refine ⟨⟨none,0,0⟩,⟨none,0,0⟩,⟨none,0,0⟩,rfl,OwS.bare _ _ _ _ _ _,?_⟩
     iterate 3 (refine Below.setCell ?_ (by simp) _)
     exact HB2.out
    ·have HN:=Lib.hid (show newS zs=(⟨[],padK zs,[]⟩,true) by simp [newS,hno])
     clear hno
     go_wp2_with fail
     refine bodyPost_ret (v:=.tuple #[svV ⟨some ⟨w.heap.size+1,0,none⟩,0,0⟩ ⟨some ⟨g,0,none⟩,10,c'⟩ ⟨some ⟨w.heap.size+1+1,0,none⟩,0,0⟩,.bool true]) (by simp [results,Tryz.results155,go_sem,cr2]) rfl ?_
     rw [HN.out]
     refine ⟨⟨some ⟨w.heap.size+1,0,none⟩,0,0⟩,⟨some ⟨g,0,none⟩,10,c'⟩,⟨some ⟨w.heap.size+1+1,0,none⟩,0,0⟩,rfl,?_,?_⟩
     ·have hfr:∀ W:World,Frm w.heap.size (w.heap.size+1) w2 W→OwS w.heap.size W.heap.size W ⟨some ⟨w.heap.size+1,0,none⟩,0,0⟩ ⟨some ⟨g,0,none⟩,10,c'⟩ ⟨some ⟨w.heap.size+1+1,0,none⟩,0,0⟩ ⟨[],padK zs,[]⟩:=fun W hW=>by
       rw [← HKT.out]
       exact (HOS2.out.frm hW (.inr (by omega))).mono (by omega) (Nat.le_trans hsz2 hW.size)
      refine hfr _ ?_
      iterate 3 (refine Frm.set_ ?_ (by simp) (by simp) _)
      exact Frm.refl _ _ _
     ·iterate 3 (refine Below.setCell ?_ (by simp) _)
      exact HB2.out
   ·have h1:(10:Int)<n:=by have:=HL.out;omega
    have HN:=Lib.hid (show newS zs=(⟨[],[],[]⟩,false) by simp [newS,newOk,h10])
    cases hvv:validS ⟨[],keysN zs 10,[]⟩
    all_goals
     go_wp2_with fail
     refine bodyPost_ret (v:=.tuple #[svV ⟨none,0,0⟩ ⟨none,0,0⟩ ⟨none,0,0⟩,.bool false]) (by simp [results,Tryz.results155,go_sem,cr2]) rfl ?_
     rw [HN.out]
     refine ⟨⟨none,0,0⟩,⟨none,0,0⟩,⟨none,0,0⟩,rfl,OwS.bare _ _ _ _ _ _,?_⟩
     iterate 3 (refine Below.setCell ?_ (by simp) _)
     exact HB2.out
end Go.Proofs.YtkgfmgajhgfgjaaGreatDoor
namespace Go.Proofs.YtkgfmgajhgfgjaaGreatDoor
open Go.RowKit Go.Sort
end Go.Proofs.YtkgfmgajhgfgjaaGreatDoor
namespace Go.Proofs.YtkgfmgajhgfgjaaGreatDoor
open Go.RowKit Go.Sort
def cntE (s:Int):List Ent→Nat
 | []=>0
 | e :: r=>if e.2≤s then cntE s r+1 else 0
theorem cntE_step (s:Int) (es:List Ent) (k:Nat) (h:k+cntE s (es.drop k)=cntE s es) (e:Ent) (he:es[k]?=some e) (hs:e.2≤s):k+1+cntE s (es.drop (k+1))=cntE s es:=by
 have hk:k<es.length:=(List.getElem?_eq_some_iff.1 he).1
 rw [List.drop_eq_getElem_cons hk,cntE,(List.getElem?_eq_some_iff.1 he).2,if_pos hs] at h
 omega
theorem cntE_stop (s:Int) (es:List Ent) (k:Nat) (h:k+cntE s (es.drop k)=cntE s es) (e:Ent) (he:es[k]?=some e) (hs:¬ e.2≤s):k=cntE s es:=by
 have hk:k<es.length:=(List.getElem?_eq_some_iff.1 he).1
 rw [List.drop_eq_getElem_cons hk,cntE,(List.getElem?_eq_some_iff.1 he).2,if_neg hs] at h
 omega
theorem cntE_end (s:Int) (es:List Ent) (k:Nat) (h:k+cntE s (es.drop k)=cntE s es) (hk:es.length≤k):k=cntE s es:=by
 rw [List.drop_of_length_le hk] at h
 simpa [cntE] using h
def contE (s:Int) (es:List Ent) (k:Nat):Bool :=
 match es[k]? with
 | none=>false
 | some e=>decide (e.2≤s)
theorem findE_at (p:Int):∀ (es:List Ent) (j:Int),0≤j→j≤findE p es j→∃ (k:Nat) (e:Ent),findE p es j=j+k∧es[k]?=some e∧e.1=p
 | [],j,hj,h=>by simp [findE] at h;omega
 |x :: r,j,hj,h=>by
  by_cases hx:x.1=p
  ·exact ⟨0,x,by simp [findE,hx],rfl,hx⟩
  ·rw [findE,if_neg hx] at h ⊢
   have h1:=findE_or p r (j+1)
   obtain ⟨k,e,hk,he,hp⟩:=findE_at p r (j+1) (by omega) (by omega)
   exact ⟨k+1,e,by rw [hk];omega,by simpa using he,hp⟩
theorem findE_ok {p:Int} {es:List Ent} (h:0≤findE p es 0):∃ (k:Nat) (e:Ent),findE p es 0=k∧es[k]?=some e∧e.1=p:=by
 obtain ⟨k,e,hk,he,hp⟩:=findE_at p es 0 (Int.le_refl _) h
 exact ⟨k,e,by omega,he,hp⟩
theorem contE_get {s:Int} {es:List Ent} {k:Nat} (h:contE s es k=true):∃ e,es[k]?=some e∧e.2≤s:=by
 unfold contE at h
 split at h
 ·cases h
 ·exact ⟨_,by assumption,by simpa using h⟩
theorem contE_stop {s:Int} {es:List Ent} {k:Nat} (h:contE s es k=false) (hk:k+cntE s (es.drop k)=cntE s es):k=cntE s es:=by
 unfold contE at h
 split at h
 ·rename_i he
  exact cntE_end s es k hk (by simpa using he)
 ·rename_i e he
  exact cntE_stop s es k hk e he (by simpa using h)
def worseE (es:List Ent) (e:Ent):Bool:=decide (0≤findE e.1 es 0) && decide ((es[(findE e.1 es 0).toNat]?.getD (0,0)).2≤e.2)
def outE (es:List Ent) (e:Ent):List Ent :=
 ((withoutE e.1 es).take (cntE e.2 (withoutE e.1 es)) ++ [e] ++ (withoutE e.1 es).drop (cntE e.2 (withoutE e.1 es))).take 4
def addE (es:List Ent) (e:Ent):List Ent × Int :=
 if validE es && okE e then
  (if worseE es e then (es,1) else if 4≤cntE e.2 (withoutE e.1 es) then (es,2) else (outE es e,0))
 else ([],3)
def AddPost (B:Nat) (es:List Ent) (x:Ent) (w:World) (e:Ending) (w':World):Prop :=
 ∃ A' c',e=.returned (.tuple #[.slice A' (addE es x).1.length c',.int .i64 (addE es x).2])∧OwE B w' A' (addE es x).1.length c' (addE es x).1∧Below B w w'
set_option maxRecDepth 100000 in
set_option maxHeartbeats 4000000 in
theorem specBoardAdd_any (A:Option Addr) (n c:Nat) (es:List Ent) (x:Ent) (w:World) (hr:RdE w A n es) (hn:n≤1099511627776) :
  Calls Tryz.prog 174 #[.slice A n c,.agg #[.int .i64 x.1,.int .i64 x.2]] w (AddPost w.heap.size es x w):=by
 have hw0:Below w.heap.size w (w.alloc (.cells #[.int .i64 x.1,.int .i64 x.2] 55)):=(Below.refl _ _).alloc (Nat.le_refl _) _
 have HR:=Lib.hid (hr.below hw0)
 have HW0:=Lib.hid hw0
 obtain ⟨i0,hi0,hz0,hz1,hz2⟩:=info_parts infoE
 have HI:=Lib.hid hi0
 have HZ:=Lib.hid hz0
 have HS:=Lib.hid hz1
 have HBY:=Lib.hid hz2
 clear hr hw0 hi0 hz0 hz1 hz2
 go_enter Tryz.func174,Tryz.ntmps174
 go_wp2_with fail
 refine (specBoardValid_v _ _ _ _ _ HR.out hn).mono ?_
 rintro e w1 ⟨rfl,hB1⟩
 have hw1:Below w.heap.size w w1:=below_next HW0.out hB1
 have hbx1:Blk w1 w.heap.size 55 #[.int .i64 x.1,.int .i64 x.2]:=(Blk.new _ _ _).next hB1
 have hc0:w1.cell? ⟨w.heap.size,0,none⟩=some (.int .i64 x.1):=hbx1.cell 0
 have hc1:w1.cell? ⟨w.heap.size,1,none⟩=some (.int .i64 x.2):=hbx1.cell 1
 have HR1:=Lib.hid (HR.out.below hB1)
 have HW1:=Lib.hid hw1
 have HX1:=Lib.hid hbx1
 clear hw1 hbx1 hB1
 cases hv:validE es with
 | false =>
  have hfin:addE es x=([],3):=by simp [addE,hv]
  have HF:=Lib.hid hfin;clear hfin
  go_wp2_with fail
  go_ret2
  unfold AddPost
  rw [HF.out]
  exact ⟨_,_,rfl,Ow.bare _ _ _ _ _,HW1.out.alloc HW1.out.size _⟩
 | true =>
  go_wp2_with fail
  refine (l32Entry_any x w1).mono ?_
  rintro e w2 ⟨rfl,hB2⟩
  have HW2:=Lib.hid (below_next HW1.out hB2)
  have HX2:=Lib.hid (HX1.out.next hB2)
  have HR2:=Lib.hid (HR1.out.below hB2)
  have hd0:w2.cell? ⟨w.heap.size,0,none⟩=some (.int .i64 x.1):=HX2.out.cell 0
  have hd1:w2.cell? ⟨w.heap.size,1,none⟩=some (.int .i64 x.2):=HX2.out.cell 1
  clear hB2 hc0 hc1
  cases hok:okE x with
  | false =>
   have hfin:addE es x=([],3):=by simp [addE,hok]
   have HF:=Lib.hid hfin;clear hfin
   go_wp2_with fail
   go_ret2
   unfold AddPost
   rw [HF.out]
   exact ⟨_,_,rfl,Ow.bare _ _ _ _ _,HW2.out.alloc HW2.out.size _⟩
  | true =>
   go_wp2_with fail
   refine (l32Find_any _ _ _ _ _ _ HR2.out hn).mono ?_
   rintro e _ ⟨rfl,rfl⟩
   go_wp2_with fail
   go_cut [34] (fun s34 wx=>s34=.bool (worseE es x)∧Hid (Below w2.heap.size w2 wx))
   case first =>
    have g0:=fun d os=>cell_regrown hd0 d os
    have g1:=fun d os=>cell_regrown hd1 d os
    clear hd0 hd1
    by_cases hfi:0≤findE x.1 es 0
    ·obtain ⟨k,e,hk,he,hp⟩:=findE_ok hfi
     have hkn:k<n:=by have:=(List.getElem?_eq_some_iff.1 he).1;rw [HR2.out.len] at this;exact this
     obtain ⟨b,off,e',rfl,hb,he',h0,h1⟩:=HR2.out.at_ hkn
     obtain rfl:e'=e:=by rw [he] at he';injection he' with h;exact h.symm
     have h1':=fun d os=>cell_regrown h1 d os
     have hwo:worseE es x=decide (e'.2≤x.2):=by simp [worseE,hk,he]
     have HWO:=Lib.hid hwo
     clear he he' h0 h1 hwo hfi hp
     refine wp_region_qb (by kernel_rfl) (by kernel_rfl) ?_
     repeat (go_big_quiet_step (fail))
     refine wpQuiet_nil ?_
     intro w3 hb3
     go_wp2_with fail
     go_meet
     exact ⟨by rw [HWO.out],hb3⟩
    ·have hff:decide (0≤findE x.1 es 0)=false:=by simpa using hfi
     have hwo:worseE es x=false:=by simp [worseE,hff]
     have HWO:=Lib.hid hwo
     clear hwo hfi
     refine wp_region_qb (by kernel_rfl) (by kernel_rfl) ?_
     repeat (go_big_quiet_step (fail))
     refine wpQuiet_nil ?_
     intro w3 hb3
     go_wp2_with fail
     go_meet
     exact ⟨by rw [HWO.out],hb3⟩
   case rest => 
    obtain ⟨rfl,hB3⟩:=hcut
    have HW3:=Lib.hid (below_next HW2.out hB3.out)
    have HX3:=Lib.hid (HX2.out.next hB3.out)
    have HR3:=Lib.hid (HR2.out.below hB3.out)
    have hd0:wc.cell? ⟨w.heap.size,0,none⟩=some (.int .i64 x.1):=HX3.out.cell 0
    have hd1:wc.cell? ⟨w.heap.size,1,none⟩=some (.int .i64 x.2):=HX3.out.cell 1
    have hsz3:=HW3.out.size
    have hlx:=HX3.out.lt
    clear hB3
    cases hwo:worseE es x with
    | true =>
     have hfin:addE es x=(es,1):=by simp [addE,hok,hv,hwo]
     have HF:=Lib.hid hfin;clear hfin
     go_wp2_with (at_builtin;refine wpList_append_ow _ rfl (.tmp 35) (.tmp 36) _ rfl w.heap.size 55 i0 _ 2 16 Tryz.underlying50 HI.out HZ.out HS.out HBY.out rfl (by omega) _ 0 0 [] rfl (Ow.bare _ _ _ _ _) _ n c (cellsE es) rfl (Src.ents (HR3.out.below ((Below.refl _ _).alloc (Nat.le_refl _) _))) (cellsE_one _) (by unfold maxLen;omega) (by omega) (by simp;omega) ?_;intro A2 c2 w9 hown2 hg2 _)
     have HO:=Lib.hid hown2
     have HG:=Lib.hid hg2
     clear hown2 hg2
     go_wp2
     go_ret2
     unfold AddPost
     rw [HF.out]
     refine ⟨A2,c2,by rw [HR3.out.len];simp,?_,(Ow.bare w.heap.size _ 55 2 none).grown HG.out (HW3.out.alloc HW3.out.size _) (Nat.le_refl _) (by simp;omega)⟩
     have:=HO.out
     rw [Nat.zero_add,List.nil_append,← HR3.out.len] at this
     exact this
    | false =>
     have hadd:addE es x=if 4≤cntE x.2 (withoutE x.1 es) then (es,2) else (outE es x,0):=by simp [addE,hok,hv,hwo]
     have HADD:=Lib.hid hadd
     have hwl:(withoutE x.1 es).length≤n:=by
      have:=withoutE_len x.1 es es.length
      rw [List.take_length,HR3.out.len] at this
      exact this
     clear hadd
     go_wp2_with fail
     refine (l32Without_any _ _ _ _ _ _ HR3.out hn).mono ?_
     rintro e w4 ⟨A4,c4,rfl,hO4,hB4⟩
     generalize hrest:withoutE x.1 es=rest at *
     have HREST:=Lib.hid hrest
     have HO4:=Lib.hid hO4
     have HR4:=Lib.hid (Ow.rdE hO4)
     have HRE:=Lib.hid (HR3.out.below hB4)
     have HW4:=Lib.hid (below_next HW3.out hB4)
     have HX4:=Lib.hid (HX3.out.next hB4)
     clear hrest hO4 hB4 hd0 hd1
     go_wp2_with fail
     go_loopg [8] rest.length (fun gg i wr=>∃ k:Nat,k≤rest.length∧rest.length - k≤gg∧i=.int .i64 k∧Hid (Below w4.heap.size w4 wr∧k+cntE x.2 (rest.drop k)=cntE x.2 rest))
     case atStart=>exact ⟨0,Nat.zero_le _,by omega,rfl,Below.refl _ _,by simp⟩
     case round =>
      obtain ⟨k,hk,hg,rfl,HB⟩:=hrel
      have HXr:=Lib.hid (HX4.out.next HB.out.1)
      have HRr:=Lib.hid (HR4.out.below HB.out.1)
      have hd0:wr.cell? ⟨w.heap.size,0,none⟩=some (.int .i64 x.1):=HXr.out.cell 0
      have hd1:wr.cell? ⟨w.heap.size,1,none⟩=some (.int .i64 x.2):=HXr.out.cell 1
      go_upto_region 8 with (fail)
      go_cut [55] (fun s55 wx=>s55=.bool (contE x.2 rest k)∧Hid (Below wr.heap.size wr wx))
      case first =>
       have g0:=fun d os=>cell_regrown hd0 d os
       have g1:=fun d os=>cell_regrown hd1 d os
       clear hd0 hd1
       by_cases hlt:k<rest.length
       ·obtain ⟨b,off,e,rfl,hb,he,h0,h1⟩:=HRr.out.at_ hlt
        have h1':=fun d os=>cell_regrown h1 d os
        have hct:contE x.2 rest k=decide (e.2≤x.2):=by simp [contE,he]
        have HC:=Lib.hid hct
        clear he h0 h1 hct
        refine wp_region_qb (by kernel_rfl) (by kernel_rfl) ?_
        repeat (go_big_quiet_step (fail))
        refine wpQuiet_nil ?_
        intro w5 hb5
        go_wp2_with fail
        go_meet
        exact ⟨by rw [HC.out],hb5⟩
       ·have hct:contE x.2 rest k=false:=by simp [contE,List.getElem?_eq_none (Nat.le_of_not_lt hlt)]
        have HC:=Lib.hid hct
        clear hct
        refine wp_region_qb (by kernel_rfl) (by kernel_rfl) ?_
        repeat (go_big_quiet_step (fail))
        refine wpQuiet_nil ?_
        intro w5 hb5
        go_wp2_with fail
        go_meet
        exact ⟨by rw [HC.out],hb5⟩
      case rest =>
       obtain ⟨rfl,hB5⟩:=hcut
       cases hct:contE x.2 rest k with
       | true =>
        obtain ⟨e,he,hes⟩:=contE_get hct
        have hlt:k<rest.length:=(List.getElem?_eq_some_iff.1 he).1
        have HE:=Lib.hid he
        clear he
        go_wp2
        go_roundg (rest.length - (k+1))
        case measure=>omega
        case rel=>exact ⟨k+1,by omega,by omega,by go_num,below_next HB.out.1 hB5.out,cntE_step x.2 rest k HB.out.2 e HE.out hes⟩
       | false =>
        have hkc:=contE_stop hct HB.out.2
        have HWc:=Lib.hid (below_next (below_next HW4.out HB.out.1) hB5.out)
        have HXc:=Lib.hid (HXr.out.next hB5.out)
        have HRc:=Lib.hid ((HRE.out.below HB.out.1).below hB5.out)
        have HOc:=Lib.hid (HRr.out.below hB5.out)
        have he0:wc.cell? ⟨w.heap.size,0,none⟩=some (.int .i64 x.1):=HXc.out.cell 0
        have he1:wc.cell? ⟨w.heap.size,1,none⟩=some (.int .i64 x.2):=HXc.out.cell 1
        have hszc:=HWc.out.size
        have hlxc:=HXc.out.lt
        clear hd0 hd1 hsz3 hlx
        by_cases h4:4≤k
        ·have hfin:addE es x=(es,2):=by rw [HADD.out,← hkc,if_pos h4]
         have HF:=Lib.hid hfin
         have HK:=Lib.hid hkc
         clear hfin hkc
         go_wp2_with (at_builtin;refine wpList_append_ow _ rfl (.tmp 60) (.tmp 61) _ rfl w.heap.size 55 i0 _ 2 16 Tryz.underlying50 HI.out HZ.out HS.out HBY.out rfl (by omega) _ 0 0 [] rfl (Ow.bare _ _ _ _ _) _ n c (cellsE es) rfl (Src.ents (HRc.out.below ((Below.refl _ _).alloc (Nat.le_refl _) _))) (cellsE_one _) (by unfold maxLen;omega) (by omega) (by simp;omega) ?_;intro A2 c2 w9 hown2 hg2 _)
         have HO:=Lib.hid hown2
         have HG:=Lib.hid hg2
         clear hown2 hg2
         go_wp2
         go_ret2
         unfold AddPost
         rw [HF.out]
         refine ⟨A2,c2,by rw [HRc.out.len];simp,?_,(Ow.bare w.heap.size _ 55 2 none).grown HG.out (HWc.out.alloc HWc.out.size _) (Nat.le_refl _) (by simp;omega)⟩
         have:=HO.out
         rw [Nat.zero_add,List.nil_append,← HRc.out.len] at this
         exact this
        ·have hfin:addE es x=(outE es x,0):=by rw [HADD.out,← hkc,if_neg h4]
         have hout:outE es x=(rest.take k ++ [x] ++ rest.drop k).take 4:=by unfold outE;rw [HREST.out,← hkc]
         have HF:=Lib.hid hfin
         have HK:=Lib.hid hkc
         have HT:=Lib.hid hout
         clear hfin hkc hout
         go_wp2_with fail
         go_cut [9] (fun s9 wx=>∃ (A7:Option Addr) (c7:Nat),s9=.slice A7 (rest.length+1) c7∧Hid (Below wc.heap.size wc wx∧OwE wc.heap.size wx A7 (rest.length+1) c7 (rest.take k ++ [x] ++ rest.drop k)))
         case first =>
          have hSt:=Lib.hid (Src.ents (HOc.out.take hk))
          rcases Nat.eq_zero_or_pos c4 with hc40|hc4p
          ·have hl0:rest.length=0:=by have:=HO4.out.le;omega
           obtain rfl:rest=[]:=List.eq_nil_of_length_eq_zero hl0
           obtain rfl:k=0:=by simpa using hk
           subst hc40
           have hSd:Hid (Src wc 2 A4 0 (cellsE (([]:List Ent).drop 0))):=hSt
           simp only [List.length_nil] at *
           go_region_law (first
            | (refine step_append_ow _ rfl (.tmp 63) (.tmp 66) _ rfl wc.heap.size 55 i0 _ 2 16 Tryz.underlying50 HI.out HZ.out HS.out HBY.out rfl (by omega) _ 0 0 [] rfl (Ow.bare _ _ _ _ _) _ 0 _ (cellsE (([]:List Ent).take 0)) rfl (hSt.out.below (by go_grown)) (cellsE_one _) (by unfold maxLen;omega) (by omega) (by go_size) ?_;intro A5 c5 w5 hO5 hg5 _;simp only [Nat.zero_add,List.nil_append] at hO5;have hb5:Below wc.heap.size wc w5:=(Ow.bare wc.heap.size _ 55 2 none).grown hg5 (by go_grown) (Nat.le_refl _) (by go_size);have hcl5:=(bcell hb5).1;have hs5:=hb5.size)
            | (refine step_append_ow _ rfl (.tmp 67) (.tmp 69) _ rfl wc.heap.size 55 i0 _ 2 16 Tryz.underlying50 HI.out HZ.out HS.out HBY.out rfl (by omega) _ 0 c5 _ rfl (hO5.alloc _) _ 1 1 (cellsE [x]) rfl (Src.blk (Blk.new _ _ _) rfl) (cellsE_one _) (by unfold maxLen;omega) (by omega) (by go_size) ?_;intro A6 c6 w6 hO6 hg6 _;have hb6:Below wc.heap.size wc w6:=(hO5.alloc _).grown hg6 (by go_grown) (Nat.le_refl _) (by go_size))
            | (refine step_append_ow _ rfl (.tmp 67) (.tmp 69) _ rfl wc.heap.size 55 i0 _ 2 16 Tryz.underlying50 HI.out HZ.out HS.out HBY.out rfl (by omega) _ 0 c5 _ rfl hO5 _ 1 1 (cellsE [x]) rfl (Src.blk (Blk.bare (Blk.drew (Blk.newAt _ _ _ _ (by simp))) hg5) rfl) (cellsE_one _) (by unfold maxLen;omega) (by omega) hb5.size ?_;intro A6 c6 w6 hO6 hg6 _;have hb6:Below wc.heap.size wc w6:=hO5.grown hg6 hb5 (Nat.le_refl _) hb5.size)
            | (refine step_append_ow _ rfl (.tmp 67) (.tmp 69) _ rfl wc.heap.size 55 i0 _ 2 16 Tryz.underlying50 HI.out HZ.out HS.out HBY.out rfl (by omega) _ 0 c5 _ rfl hO5 _ 1 1 (cellsE [x]) rfl (Src.blk (Blk.bare (Blk.drew ((Blk.new _ _ _).alloc _)) hg5) rfl) (cellsE_one _) (by unfold maxLen;omega) (by omega) hb5.size ?_;intro A6 c6 w6 hO6 hg6 _;have hb6:Below wc.heap.size wc w6:=hO5.grown hg6 hb5 (Nat.le_refl _) hb5.size)
            | (refine step_append_ow _ rfl (.tmp 70) (.tmp 73) _ rfl wc.heap.size 55 i0 _ 2 16 Tryz.underlying50 HI.out HZ.out HS.out HBY.out rfl (by omega) _ (0+1) c6 _ rfl hO6 A4 0 _ (cellsE (([]:List Ent).drop 0)) rfl (hSd.out.below hb6) (cellsE_one _) (by unfold maxLen;omega) (by omega) hb6.size ?_;intro A7 c7 w7 hO7 hg7 _;have hb7:Below wc.heap.size wc w7:=hO6.grown hg7 hb6 (Nat.le_refl _) hb6.size;clear hg5 hg6 hg7))
           all_goals (go_wp2_with fail;go_meet;exact ⟨A7,c7,rfl,hb7,hO7⟩)
          ·obtain ⟨g,cur,rfl,hg4,hb4,hlc4,hm4,_⟩:=HO4.out.blk hc4p
           have HBc:=Lib.hid ((hb4.next HB.out.1).next hB5.out)
           have hkc':k≤c4:=by omega
           have hkn':(k:Int)≤rest.length:=by omega
           obtain ⟨D,hD⟩:∃ D,(if c4=k then some (⟨g,0,none⟩:Addr) else some ⟨g,k * 2,none⟩)=D:=⟨_,rfl⟩
           have hSd:Hid (Src wc 2 D (rest.length - k) (cellsE (rest.drop k))):=by
            refine ⟨by rw [cellsE_length,List.length_drop],fun hm=>?_⟩
            have hne:¬ c4=k:=by omega
            rw [if_neg hne] at hD
            subst hD
            refine ⟨_,rfl,fun j u hu=>?_⟩
            rw [← cellsE_drop,List.getElem?_drop] at hu
            obtain ⟨ad,had,hcell⟩:=(Src.ents HOc.out).2 (by omega)
            injection had with had
            subst had
            have:=hcell _ u hu
            rw [Addr.add_lit] at this ⊢
            simpa using this
           have hlen:k+1+(rest.length - k)=rest.length+1:=by omega
           clear hb4
           go_region_law (first
            | (refine step_append_ow _ rfl (.tmp 63) (.tmp 66) _ rfl wc.heap.size 55 i0 _ 2 16 Tryz.underlying50 HI.out HZ.out HS.out HBY.out rfl (by omega) _ 0 0 [] rfl (Ow.bare _ _ _ _ _) _ k _ (cellsE (rest.take k)) rfl (hSt.out.below (by go_grown)) (cellsE_one _) (by unfold maxLen;omega) (by omega) (by go_size) ?_;intro A5 c5 w5 hO5 hg5 _;simp only [Nat.zero_add,List.nil_append] at hO5;have hb5:Below wc.heap.size wc w5:=(Ow.bare wc.heap.size _ 55 2 none).grown hg5 (by go_grown) (Nat.le_refl _) (by go_size);have hcl5:=(bcell hb5).1;have hs5:=hb5.size)
            | (refine step_append_ow _ rfl (.tmp 67) (.tmp 69) _ rfl wc.heap.size 55 i0 _ 2 16 Tryz.underlying50 HI.out HZ.out HS.out HBY.out rfl (by omega) _ k c5 _ rfl (hO5.alloc _) _ 1 1 (cellsE [x]) rfl (Src.blk (Blk.new _ _ _) rfl) (cellsE_one _) (by unfold maxLen;omega) (by omega) (by go_size) ?_;intro A6 c6 w6 hO6 hg6 _;have hb6:Below wc.heap.size wc w6:=(hO5.alloc _).grown hg6 (by go_grown) (Nat.le_refl _) (by go_size))
            | (refine step_append_ow _ rfl (.tmp 67) (.tmp 69) _ rfl wc.heap.size 55 i0 _ 2 16 Tryz.underlying50 HI.out HZ.out HS.out HBY.out rfl (by omega) _ k c5 _ rfl hO5 _ 1 1 (cellsE [x]) rfl (Src.blk (Blk.bare (Blk.drew (Blk.newAt _ _ _ _ (by simp))) hg5) rfl) (cellsE_one _) (by unfold maxLen;omega) (by omega) hb5.size ?_;intro A6 c6 w6 hO6 hg6 _;have hb6:Below wc.heap.size wc w6:=hO5.grown hg6 hb5 (Nat.le_refl _) hb5.size)
            | (refine step_append_ow _ rfl (.tmp 67) (.tmp 69) _ rfl wc.heap.size 55 i0 _ 2 16 Tryz.underlying50 HI.out HZ.out HS.out HBY.out rfl (by omega) _ k c5 _ rfl hO5 _ 1 1 (cellsE [x]) rfl (Src.blk (Blk.bare (Blk.drew ((Blk.new _ _ _).alloc _)) hg5) rfl) (cellsE_one _) (by unfold maxLen;omega) (by omega) hb5.size ?_;intro A6 c6 w6 hO6 hg6 _;have hb6:Below wc.heap.size wc w6:=hO5.grown hg6 hb5 (Nat.le_refl _) hb5.size)
            | (refine step_append_ow _ rfl (.tmp 70) (.tmp 73) _ rfl wc.heap.size 55 i0 _ 2 16 Tryz.underlying50 HI.out HZ.out HS.out HBY.out rfl (by omega) _ (k+1) c6 _ rfl hO6 D (rest.length - k) _ (cellsE (rest.drop k)) rfl (hSd.out.below hb6) (cellsE_one _) (by unfold maxLen;omega) (by omega) hb6.size ?_;intro A7 c7 w7 hO7 hg7 _;have hb7:Below wc.heap.size wc w7:=hO6.grown hg7 hb6 (Nat.le_refl _) hb6.size;clear hg5 hg6 hg7))
           all_goals (go_wp2_with fail;go_meet;exact ⟨A7,c7,rfl,hb7,by rw [hlen] at hO7;show Ow _ _ _ _ _ _ _ _;rw [cellsE_append,cellsE_append];exact hO7⟩)
         case rest =>
          obtain ⟨A7,c7,rfl,hC⟩:=hcut
          have HWd:=Lib.hid (below_next HWc.out hC.out.1)
          generalize hL:rest.take k ++ [x] ++ rest.drop k=L at *
          have hll:L.length=rest.length+1:=by rw [← hL];simp;omega
          have HLL:=Lib.hid hll
          have HT2:Hid (outE es x=L.take 4):=by exact HT.out
          have HRd:=Lib.hid (Ow.rdE hC.out.2)
          have HLE:rest.length+1≤c7:=Ow.le hC.out.2
          have hszd:=HWd.out.size
          rcases Nat.eq_zero_or_pos c7 with h70|h7p
          ·omega
          ·obtain ⟨g7,cur7,rfl,_⟩:=hC.out.2.blk h7p
           clear hL hll HT HK he0 he1
           by_cases h3:rest.length≤3
           ·have hmn:¬ (4:Int)<(rest.length:Int)+1:=by omega
            have hmn2:((rest.length:Int)+1).toNat=rest.length+1:=by omega
            go_wp2_with (at_builtin;refine wpList_append_ow _ rfl (.tmp 75) (.tmp 80) _ rfl w.heap.size 55 i0 _ 2 16 Tryz.underlying50 HI.out HZ.out HS.out HBY.out rfl (by omega) _ 0 0 [] rfl (Ow.bare _ _ _ _ _) _ (rest.length+1) _ (cellsE (L.take (rest.length+1))) rfl (Src.ents ((HRd.out.take (by omega)).below ((Below.refl _ _).alloc (Nat.le_refl _) _))) (cellsE_one _) (by unfold maxLen;omega) (by omega) (by simp;omega) ?_;intro A2 c2 w9 hown2 hg2 _)
            have HO:=Lib.hid hown2
            have HG:=Lib.hid hg2
            clear hown2 hg2
            go_wp2
            go_ret2
            unfold AddPost
            rw [HF.out]
            have hlo:(L.take 4).length=(rest.length+1):=by rw [List.length_take,HLL.out];omega
            have htk:L.take (rest.length+1)=L.take 4:=by rw [List.take_of_length_le (by rw [HLL.out];exact Nat.le_refl _),List.take_of_length_le (by rw [HLL.out];omega)]
            refine ⟨A2,c2,by rw [HT2.out,hlo];rfl,?_,(Ow.bare w.heap.size _ 55 2 none).grown HG.out (HWd.out.alloc HWd.out.size _) (Nat.le_refl _) (by simp;omega)⟩
            have:=HO.out
            rw [Nat.zero_add,List.nil_append,htk] at this
            rw [HT2.out,hlo]
            exact this
           ·have hmn:(4:Int)<(rest.length:Int)+1:=by omega
            go_wp2_with (at_builtin;refine wpList_append_ow _ rfl (.tmp 75) (.tmp 80) _ rfl w.heap.size 55 i0 _ 2 16 Tryz.underlying50 HI.out HZ.out HS.out HBY.out rfl (by omega) _ 0 0 [] rfl (Ow.bare _ _ _ _ _) _ 4 _ (cellsE (L.take 4)) rfl (Src.ents ((HRd.out.take (by omega)).below ((Below.refl _ _).alloc (Nat.le_refl _) _))) (cellsE_one _) (by unfold maxLen;omega) (by omega) (by simp;omega) ?_;intro A2 c2 w9 hown2 hg2 _)
            have HO:=Lib.hid hown2
            have HG:=Lib.hid hg2
            clear hown2 hg2
            go_wp2
            go_ret2
            unfold AddPost
            rw [HF.out]
            have hlo:(L.take 4).length=4:=by rw [List.length_take,HLL.out];omega
            have htk:L.take 4=L.take 4:=by rfl
            refine ⟨A2,c2,by rw [HT2.out,hlo];rfl,?_,(Ow.bare w.heap.size _ 55 2 none).grown HG.out (HWd.out.alloc HWd.out.size _) (Nat.le_refl _) (by simp;omega)⟩
            have:=HO.out
            rw [Nat.zero_add,List.nil_append,htk] at this
            rw [HT2.out,hlo]
            exact this
end Go.Proofs.YtkgfmgajhgfgjaaGreatDoor
namespace Go.Proofs.YtkgfmgajhgfgjaaGreatDoor
open Go.RowKit Go.Sort
end Go.Proofs.YtkgfmgajhgfgjaaGreatDoor
namespace Go.Proofs.YtkgfmgajhgfgjaaGreatDoor
open Go.RowKit Go.Sort
theorem cellsE_set (es:List Ent):∀ (k:Nat) (e:Ent) (s:Int),es[k]?=some e→(cellsE es).set (k * 2+1) (.int .i64 s)=cellsE (es.set k (e.1,s)):=by
 induction es with
 | nil=>intro k e s h;simp at h
 | cons x r ih =>
  intro k e s h
  cases k with
  | zero =>
   simp at h
   subst h
   rfl
  | succ k =>
   have:=ih k e s (by simpa using h)
   rw [show (k+1) * 2+1=(k * 2+1)+1+1 by omega,cellsE_cons,List.set_cons_succ,List.set_cons_succ,this,List.set_cons_succ,cellsE_cons]
theorem Only.own_ {g:Nat} {a b c:World} {row:Option Nat} (h:Only g a b) (k:b.grownBy c row) (hr:∀ x,row=some x→a.heap.size≤x):Only g a c :=
 ⟨k.os.trans h.os,k.tape.trans h.tape,k.output.trans h.output,Nat.le_trans h.size k.size,fun i hi hne=>(k.block i (Nat.lt_of_lt_of_le hi h.size) (by
  intro e
  have:=hr i e.symm
  omega)).trans (h.block i hi hne)⟩
end Go.Proofs.YtkgfmgajhgfgjaaGreatDoor

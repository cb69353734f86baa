/-
  Lemmas and contracts: YE5 YE6 YMk YOw YMz YE7 YSp YSs YE8 YE9 YLi. No condition.
-/
import Derived.Test.YtpcjdalgebgofaaGreatDoorKa13
import Derived.Test.YtpcjdalgebgofaaGreatDoorKa14
set_option linter.unusedSimpArgs false
set_option linter.unusedVariables false
set_option linter.unusedSectionVars false
namespace Go.Proofs.YtpcjdalgebgofaaGreatDoorY
open Go.RowKit Go.Sort
def encIn (x:Inp):List Value:=[.int .i64 x.s,.int .i64 x.p,.bool x.z]
theorem encIn_len (x:Inp):(encIn x).length=3:=rfl
theorem encIn_one:∀ x,∀ u ∈ encIn x,u.oneCell'=true:=by
 intro b u hu
 simp [encIn] at hu
 rcases hu with rfl|rfl|rfl <;> rfl
abbrev cellsN:List Inp→List Value:=cellsX encIn
abbrev RdN (w:World) (A:Option Addr) (n:Nat) (xs:List Inp):Prop:=Rd encIn 3 w A n xs
theorem infoN:(Qy.prog.info? 74).map (fun i=>(i.zero,i.size,i.bytes))=some (some (.agg #[.int .i64 0,.int .i64 0,.bool false]),3,24):=by kernel_rfl
theorem RdN.cells {w:World} {A:Option Addr} {n:Nat} {xs:List Inp} (h:RdN w A n xs) {k:Nat} (hk:k<n):∃ b off x,A=some ⟨b,off,none⟩∧b<w.heap.size∧xs[k]?=some x∧w.cell? ⟨b,off+k * 3,none⟩=some (.int .i64 x.s)∧w.cell? ⟨b,off+k * 3+1,none⟩=some (.int .i64 x.p)∧w.cell? ⟨b,off+k * 3+2,none⟩=some (.bool x.z):=by
 obtain ⟨b,off,x,hA,hb,hx,hc⟩:=h.at_ hk
 exact ⟨b,off,x,hA,hb,hx,hc 0 _ rfl,hc 1 _ rfl,hc 2 _ rfl⟩
def inOk (x:Inp):Bool:=inR x.s (-1) 1 && inR x.p 0 2 && (!x.z || (decide (x.s=0) && decide (x.p=0)))
theorem inOk_bd {x:Inp} (h:inOk x=true) : -1≤x.s∧x.s≤1∧0≤x.p∧x.p≤2:=by
 simp [inOk,inR] at h
 omega
set_option maxRecDepth 100000 in
set_option maxHeartbeats 1000000 in
theorem specInputValid_any (x:Inp) (w:World):Calls Qy.prog 106 #[inV x] w fun e w'=>e=.returned (.bool (inOk x))∧Below w.heap.size w w':=by
 obtain ⟨s,p,z⟩:=x
 go_enter Qy.func106,Tryz.ntmps106
 go_wp2_with fail
 refine (l6In_any _ _ _ _).mono ?_
 rintro e w' ⟨rfl,rfl⟩
 cases h1:inR s (-1) 1
 ·go_wp2_with fail
  go_ret
  exact ⟨ret_bool (by simp [inOk,h1]),by go_grown⟩
 ·go_wp2_with fail
  refine (l6In_any _ _ _ _).mono ?_
  rintro e w' ⟨rfl,rfl⟩
  cases h2:inR p 0 2
  ·go_wp2_with fail
   go_ret
   exact ⟨ret_bool (by simp [inOk,h2]),by go_grown⟩
  ·cases z
   ·go_wp2_with fail
    go_ret
    exact ⟨ret_bool (by simp [inOk,h1,h2]),by go_grown⟩
   ·by_cases h3:s=0
    ·subst h3
     by_cases h4:p=0
     ·subst h4
      go_wp2_with fail
      go_ret
      exact ⟨ret_bool (by simp [inOk,h1,h2]),by go_grown⟩
     ·have h4':(p == 0)=false:=by simpa using h4
      go_wp2_with fail
      go_ret
      exact ⟨ret_bool (by simp [inOk,h4]),by go_grown⟩
    ·have h3':(s == 0)=false:=by simpa using h3
     go_wp2_with fail
     go_ret
     exact ⟨ret_bool (by simp [inOk,h3]),by go_grown⟩
def codeW (x:Inp):Int:=if x.z then 9 else wrap64 (wrap64 (wrap64 (3 * x.p)+x.s)+1)
set_option maxRecDepth 100000 in
theorem l12Code_any (x:Inp) (w:World):Calls Qy.prog 76 #[inV x] w fun e w'=>e=.returned (.int .i64 (codeW x))∧Below w.heap.size w w':=by
 obtain ⟨s,p,z⟩:=x
 cases z
 ·go_enter Qy.func76,Tryz.ntmps76
  go_wp2_with fail
  go_ret
  exact ⟨ret_int (by simp [codeW]),by go_grown⟩
 ·go_enter Qy.func76,Tryz.ntmps76
  go_wp2_with fail
  go_ret
  exact ⟨ret_int (by simp [codeW]),by go_grown⟩
def inOf (k:Int):Inp × Bool:=if inR k 0 9 then (if k=9 then (⟨0,0,true⟩,true) else (⟨k % 3 - 1,k / 3,false⟩,true)) else (⟨0,0,false⟩,false)
set_option maxRecDepth 100000 in
set_option maxHeartbeats 1000000 in
theorem specInputOf_any (k:Int) (w:World):Calls Qy.prog 105 #[.int .i64 k] w fun e w'=>e=.returned (.tuple #[inV (inOf k).1,.bool (inOf k).2])∧Below w.heap.size w w':=by
 go_enter Qy.func105,Tryz.ntmps105
 go_wp2_with fail
 refine (l6In_any _ _ _ _).mono ?_
 rintro e w' ⟨rfl,rfl⟩
 cases h1:inR k 0 9
 ·have hf:inOf k=(⟨0,0,false⟩,false):=by simp [inOf,h1]
  have HF:=Lib.hid hf
  clear hf
  go_wp2_with fail
  refine bodyPost_ret (v:=.tuple #[inV ⟨0,0,false⟩,.bool false]) (by simp [results,Tryz.results105,go_sem]) rfl ⟨by rw [HF.out],?_⟩
  go_grown
 ·by_cases h9:k=9
  ·subst h9
   go_wp2_with fail
   refine bodyPost_ret (v:=.tuple #[inV ⟨0,0,true⟩,.bool true]) (by simp [results,Tryz.results105,go_sem]) rfl ⟨rfl,?_⟩
   go_grown
  ·have h9':(k == 9)=false:=by simpa using h9
   have hf:inOf k=(⟨k % 3 - 1,k / 3,false⟩,true):=by simp [inOf,h1,h9]
   have hb:0≤k∧k≤9:=by simpa [inR] using h1
   obtain ⟨hb0,hb9⟩:=hb
   have HF:=Lib.hid hf
   clear hf h1 h9
   go_wp2_with fail
   refine bodyPost_ret (v:=.tuple #[inV ⟨k % 3 - 1,k / 3,false⟩,.bool true]) (by simp [results,Tryz.results105,go_sem]) rfl ⟨by rw [HF.out],?_⟩
   go_grown
def bansW (b k:Int):Bool:=(wrap64 (b.tdiv k)).tmod 2 == 1
set_option maxRecDepth 100000 in
theorem l11Bans_any (l:Lvl) (ws gs:Sl) (k:Int) (hk:¬ k=0) (w:World):Calls Qy.prog 108 #[lvlV l ws gs,.int .i64 k] w fun e w'=>e=.returned (.bool (bansW l.bans k))∧Below w.heap.size w w':=by
 have hk':(k == 0)=false:=by simpa using hk
 go_enter Qy.func108,Tryz.ntmps108
 go_wp2_with fail
 go_ret
 exact ⟨ret_bool (by simp [bansW]),by go_grown⟩
def followsW (l:Lvl) (b x:Inp):Bool:=inOk x && !(x.z && bansW l.bans 2) && !(decide (x.p=2) && bansW l.bans 1) && inR (wrap64 (x.s - b.s)) (-1) 1
set_option maxRecDepth 100000 in
set_option maxHeartbeats 2000000 in
theorem l12Follows_any (l:Lvl) (ws gs:Sl) (b x:Inp) (w:World):Calls Qy.prog 77 #[lvlV l ws gs,inV b,inV x] w fun e w'=>e=.returned (.bool (followsW l b x))∧Below w.heap.size w w':=by
 obtain ⟨bs,bp,bz⟩:=b
 obtain ⟨xs,xp,xz⟩:=x
 go_enter Qy.func77,Tryz.ntmps77
 go_wp2_with fail
 refine (specInputValid_any ⟨xs,xp,xz⟩ _).mono ?_
 rintro e w1 ⟨rfl,hb⟩
 have KL:=Lib.hid ((((Blk.new w 29 (lvlC l ws gs)).alloc _).alloc _).next hb)
 have KP:=Lib.hid (((Blk.newAt _ 74 #[.int .i64 bs,.int .i64 bp,.bool bz] (w.heap.size+1) (by simp)).alloc _).next hb)
 have KX:=Lib.hid ((Blk.newAt _ 74 #[.int .i64 xs,.int .i64 xp,.bool xz] (w.heap.size+1+1) (by simp)).next hb)
 have HB:=Lib.hid (ba (ba (ba hb)))
 clear hb
 have cl:=fun o=>KL.out.cell o
 have fl:=fun o=>KL.out.frozen o
 have zl:=KL.out.lt
 have cp:=fun o=>KP.out.cell o
 have fp:=fun o=>KP.out.frozen o
 have zp:=KP.out.lt
 have cx:=fun o=>KX.out.cell o
 have fx:=fun o=>KX.out.frozen o
 have zx:=KX.out.lt
 cases hv:inOk ⟨xs,xp,xz⟩
 ·go_wp2_with fail
  go_ret
  exact ⟨ret_bool (by simp [followsW,hv]),by have hb:=HB.out;go_grown⟩
 ·have HV:=Lib.hid hv
  clear hv
  cases xz
  ·by_cases hp:xp=2
   ·subst hp
    go_wp2_with fail
    refine (l11Bans_any l ws gs 1 (by decide) _).mono ?_
    rintro e w3 ⟨rfl,hb⟩
    replace KL:=Lib.hid (KL.out.next hb)
    replace KP:=Lib.hid (KP.out.next hb)
    replace KX:=Lib.hid (KX.out.next hb)
    replace HB:=Lib.hid (below_next HB.out hb)
    clear cl fl zl cp fp zp cx fx zx hb
    have cp:=fun o=>KP.out.cell o
    have fp:=fun o=>KP.out.frozen o
    have zp:=KP.out.lt
    have cx:=fun o=>KX.out.cell o
    have fx:=fun o=>KX.out.frozen o
    have zx:=KX.out.lt
    cases hb1:bansW l.bans 1
    ·go_wp2_with fail
     refine (l6In_any _ _ _ _).mono ?_
     rintro e w' ⟨rfl,rfl⟩
     go_wp2_with fail
     go_ret
     exact ⟨ret_bool (by simp [followsW,Bool.false_and,HV.out,hb1]),by have hb:=HB.out;go_grown⟩
    ·go_wp2_with fail
     go_ret
     exact ⟨ret_bool (by simp [followsW,hb1]),by have hb:=HB.out;go_grown⟩
   ·have hp':(xp == 2)=false:=by simpa using hp
    have HP:=Lib.hid hp
    clear hp
    go_wp2_with fail
    refine (l6In_any _ _ _ _).mono ?_
    rintro e w' ⟨rfl,rfl⟩
    go_wp2_with fail
    go_ret
    exact ⟨ret_bool (by simp [followsW,Bool.false_and,HV.out,HP.out]),by have hb:=HB.out;go_grown⟩
  ·go_wp2_with fail
   refine (l11Bans_any l ws gs 2 (by decide) _).mono ?_
   rintro e w2 ⟨rfl,hb⟩
   replace KL:=Lib.hid (KL.out.next hb)
   replace KP:=Lib.hid (KP.out.next hb)
   replace KX:=Lib.hid (KX.out.next hb)
   replace HB:=Lib.hid (below_next HB.out hb)
   clear cl fl zl cp fp zp cx fx zx hb
   have cl:=fun o=>KL.out.cell o
   have fl:=fun o=>KL.out.frozen o
   have zl:=KL.out.lt
   have cp:=fun o=>KP.out.cell o
   have fp:=fun o=>KP.out.frozen o
   have zp:=KP.out.lt
   have cx:=fun o=>KX.out.cell o
   have fx:=fun o=>KX.out.frozen o
   have zx:=KX.out.lt
   cases hb2:bansW l.bans 2
   ·by_cases hp:xp=2
    ·subst hp
     go_wp2_with fail
     refine (l11Bans_any l ws gs 1 (by decide) _).mono ?_
     rintro e w3 ⟨rfl,hb⟩
     replace KL:=Lib.hid (KL.out.next hb)
     replace KP:=Lib.hid (KP.out.next hb)
     replace KX:=Lib.hid (KX.out.next hb)
     replace HB:=Lib.hid (below_next HB.out hb)
     clear cl fl zl cp fp zp cx fx zx hb
     have cp:=fun o=>KP.out.cell o
     have fp:=fun o=>KP.out.frozen o
     have zp:=KP.out.lt
     have cx:=fun o=>KX.out.cell o
     have fx:=fun o=>KX.out.frozen o
     have zx:=KX.out.lt
     cases hb1:bansW l.bans 1
     ·go_wp2_with fail
      refine (l6In_any _ _ _ _).mono ?_
      rintro e w' ⟨rfl,rfl⟩
      go_wp2_with fail
      go_ret
      exact ⟨ret_bool (by simp [followsW,hb2,HV.out,hb1]),by have hb:=HB.out;go_grown⟩
     ·go_wp2_with fail
      go_ret
      exact ⟨ret_bool (by simp [followsW,hb1]),by have hb:=HB.out;go_grown⟩
    ·have hp':(xp == 2)=false:=by simpa using hp
     have HP:=Lib.hid hp
     clear hp
     go_wp2_with fail
     refine (l6In_any _ _ _ _).mono ?_
     rintro e w' ⟨rfl,rfl⟩
     go_wp2_with fail
     go_ret
     exact ⟨ret_bool (by simp [followsW,hb2,HV.out,HP.out]),by have hb:=HB.out;go_grown⟩
   ·go_wp2_with fail
    go_ret
    exact ⟨ret_bool (by simp [followsW,hb2]),by have hb:=HB.out;go_grown⟩
end Go.Proofs.YtpcjdalgebgofaaGreatDoorY
namespace Go.Proofs.YtpcjdalgebgofaaGreatDoorY
open Go.RowKit Go.Sort
def inp0:Inp:=⟨0,0,false⟩
def legalFrom (l:Lvl):Int→Inp→List Inp→Int→Int
 | _,_,[],_ => -1
 | p,b,x :: r,i=>if l.ticks≤i∨3<(if x.z then p+1 else p)∨followsW l b x=false then i else legalFrom l (if x.z then p+1 else p) x r (i+1)
def legalW (l:Lvl) (xs:List Inp):Int:=legalFrom l 0 inp0 xs 0
theorem legal_step {l:Lvl} {xs:List Inp} {k:Nat} {x:Inp} (h:xs[k]?=some x) (p:Int) (b:Inp):legalFrom l p b (xs.drop k) k=if l.ticks≤k∨3<(if x.z then p+1 else p)∨followsW l b x=false then (k:Int) else legalFrom l (if x.z then p+1 else p) x (xs.drop (k+1)) ((k+1:Nat):Int):=by
 obtain ⟨hk',he⟩:=List.getElem?_eq_some_iff.1 h
 rw [List.drop_eq_getElem_cons hk',he]
 rfl
set_option maxRecDepth 100000 in
set_option maxHeartbeats 4000000 in
theorem l12Legal_any (l:Lvl) (ws gs:Sl) (A:Option Addr) (n c:Nat) (xs:List Inp) (w:World) (hr:RdN w A n xs) (hn:n≤1048576) :
  Calls Qy.prog 37 #[lvlV l ws gs,.slice A n c] w fun e w'=>e=.returned (.int .i64 (legalW l xs))∧Below w.heap.size w w':=by
 have HR:=Lib.hid hr
 clear hr
 go_enter Qy.func37,Tryz.ntmps37
 go_wp2_with fail
 go_loopw [6,7] (fun ps i wr=>∃ (k:Nat) (p:Int) (b:Inp),k≤n∧i=.int .i64 k∧ps=.int .i64 p∧0≤p∧p≤k∧Hid (Below w.heap.size w wr∧Blk wr w.heap.size 29 (lvlC l ws gs)∧Blk wr (w.heap.size+1) 74 #[.int .i64 b.s,.int .i64 b.p,.bool b.z]∧legalW l xs=legalFrom l p b (xs.drop k) k)) (fun _ i _=>n - (intOf i).toNat)
 case atStart=>exact ⟨0,0,inp0,Nat.zero_le _,rfl,rfl,by omega,by omega,by go_grown,(Blk.new _ _ _).alloc _,Blk.newAt _ _ _ _ (by simp),rfl⟩
 case round =>
  obtain ⟨k,p,b,hk,rfl,rfl,hp0,hp1,HH⟩:=hrel
  obtain ⟨HB,KL,KP,HEQ⟩:=HH.out
  replace HB:=Lib.hid HB
  replace KL:=Lib.hid KL
  replace KP:=Lib.hid KP
  replace HEQ:=Lib.hid HEQ
  clear HH
  by_cases hlt:k<n
  ·obtain ⟨bb,off,x,hA,hbb,hx,h0,h1,h2⟩:=RdN.cells (HR.out.below HB.out) hlt
   subst hA
   have HST:=Lib.hid (legal_step (l:=l) hx p b)
   obtain ⟨bs,bp,bz⟩:=b
   obtain ⟨xs',xp,xz⟩:=x
   clear hx
   cases xz
   ·by_cases ht:l.ticks≤(k:Int)
    ·have ht':decide (l.ticks≤(k:Int))=true:=by simpa using ht
     have HE:=Lib.hid (show legalFrom l p ⟨bs,bp,bz⟩ (xs.drop k) k=k by rw [HST.out];simp [ht])
     clear ht
     have rl:=fun d os o=>(KL.out.next (below_regrown _ d os)).cell o
     go_wp2_with fail
     refine wp_region_qb (by kernel_rfl) (by kernel_rfl) ?_
     repeat (go_big_quiet_step ((fail)))
     refine wpQuiet_nil ?_
     intro w4 hb
     replace HB:=Lib.hid (below_next HB.out hb)
     go_wp2_with fail
     go_ret
     exact ⟨ret_int (by rw [HEQ.out,HE.out]),HB.out⟩
    ·have ht':decide (l.ticks≤(k:Int))=false:=by simpa using ht
     by_cases hp3:3<p
     ·have hp3':decide (3<p)=true:=by simpa using hp3
      have HE:=Lib.hid (show legalFrom l p ⟨bs,bp,bz⟩ (xs.drop k) k=k by rw [HST.out];simp [hp3])
      clear ht hp3
      have rl:=fun d os o=>(KL.out.next (below_regrown _ d os)).cell o
      go_wp2_with fail
      refine wp_region_qb (by kernel_rfl) (by kernel_rfl) ?_
      repeat (go_big_quiet_step ((fail)))
      refine wpQuiet_nil ?_
      intro w4 hb
      replace HB:=Lib.hid (below_next HB.out hb)
      go_wp2_with fail
      go_ret
      exact ⟨ret_int (by rw [HEQ.out,HE.out]),HB.out⟩
     ·have hp3':decide (3<p)=false:=by simpa using hp3
      have rl:=fun d os o=>(KL.out.next (below_regrown _ d os)).cell o
      have rp:=fun d os o=>(KP.out.next (below_regrown _ d os)).cell o
      have g0:=fun d os=>cell_regrown h0 d os
      have g1:=fun d os=>cell_regrown h1 d os
      have g2:=fun d os=>cell_regrown h2 d os
      go_wp2_with fail
      refine wp_region_qb (by kernel_rfl) (by kernel_rfl) ?_
      repeat (go_big_quiet_step ((go_at_call 77;exact Calls.regrown_of (l12Follows_any l ws gs ⟨bs,bp,bz⟩ ⟨xs',xp,false⟩ _))))
      refine wpQuiet_nil ?_
      intro w4 hb
      have X0:=Lib.hid ((bcell hb).1 _ (off+k * 3) hbb |>.trans h0)
      have X1:=Lib.hid ((bcell hb).1 _ (off+k * 3+1) hbb |>.trans h1)
      have X2:=Lib.hid ((bcell hb).1 _ (off+k * 3+2) hbb |>.trans h2)
      replace KL:=Lib.hid (KL.out.next hb)
      replace KP:=Lib.hid (KP.out.next hb)
      replace HB:=Lib.hid (below_next HB.out hb)
      clear rl rp g0 g1 g2 h0 h1 h2 hb
      cases hf:followsW l ⟨bs,bp,bz⟩ ⟨xs',xp,false⟩
      ·have HE:=Lib.hid (show legalFrom l p ⟨bs,bp,bz⟩ (xs.drop k) k=k by rw [HST.out];simp [hf])
       clear hf
       go_wp2_with fail
       go_ret
       exact ⟨ret_int (by rw [HEQ.out,HE.out]),HB.out⟩
      ·have hi:¬ (l.ticks≤(k:Int)∨3<p∨followsW l ⟨bs,bp,bz⟩ ⟨xs',xp,false⟩=false):=by rw [hf];simp;omega
       have HE:=Lib.hid (show legalW l xs=legalFrom l (p) ⟨xs',xp,false⟩ (xs.drop (k+1)) ((k+1:Nat):Int) by rw [HEQ.out,HST.out];exact if_neg hi)
       clear hi hf
       have h0:=X0.out
       have h1:=X1.out
       have h2:=X2.out
       have cp:=fun o=>KP.out.cell o
       have fp:=fun o=>KP.out.frozen o
       have zp:=KP.out.lt
       go_wp2_with fail
       exact ⟨⟨k+1,p,⟨xs',xp,false⟩,by omega,by go_num,rfl,by omega,by omega,((HB.out.setCell (p:=⟨w.heap.size+1,0,none⟩) (by simp) _).setCell (p:=⟨w.heap.size+1,1,none⟩) (by simp) _).setCell (p:=⟨w.heap.size+1,2,none⟩) (by simp) _,((KL.out.far (by simp) _).far (by simp) _).far (by simp) _,((KP.out.set_ 0 _).set_ 1 _).set_ 2 _,HE.out⟩,by simp [intOf];omega⟩
   ·by_cases ht:l.ticks≤(k:Int)
    ·have ht':decide (l.ticks≤(k:Int))=true:=by simpa using ht
     have HE:=Lib.hid (show legalFrom l p ⟨bs,bp,bz⟩ (xs.drop k) k=k by rw [HST.out];simp [ht])
     clear ht
     have rl:=fun d os o=>(KL.out.next (below_regrown _ d os)).cell o
     go_wp2_with fail
     refine wp_region_qb (by kernel_rfl) (by kernel_rfl) ?_
     repeat (go_big_quiet_step ((fail)))
     refine wpQuiet_nil ?_
     intro w4 hb
     replace HB:=Lib.hid (below_next HB.out hb)
     go_wp2_with fail
     go_ret
     exact ⟨ret_int (by rw [HEQ.out,HE.out]),HB.out⟩
    ·have ht':decide (l.ticks≤(k:Int))=false:=by simpa using ht
     by_cases hp3:3<(p+1)
     ·have hp3':decide (3<(p+1))=true:=by simpa using hp3
      have HE:=Lib.hid (show legalFrom l p ⟨bs,bp,bz⟩ (xs.drop k) k=k by rw [HST.out];simp [hp3])
      clear ht hp3
      have rl:=fun d os o=>(KL.out.next (below_regrown _ d os)).cell o
      go_wp2_with fail
      refine wp_region_qb (by kernel_rfl) (by kernel_rfl) ?_
      repeat (go_big_quiet_step ((fail)))
      refine wpQuiet_nil ?_
      intro w4 hb
      replace HB:=Lib.hid (below_next HB.out hb)
      go_wp2_with fail
      go_ret
      exact ⟨ret_int (by rw [HEQ.out,HE.out]),HB.out⟩
     ·have hp3':decide (3<(p+1))=false:=by simpa using hp3
      have rl:=fun d os o=>(KL.out.next (below_regrown _ d os)).cell o
      have rp:=fun d os o=>(KP.out.next (below_regrown _ d os)).cell o
      have g0:=fun d os=>cell_regrown h0 d os
      have g1:=fun d os=>cell_regrown h1 d os
      have g2:=fun d os=>cell_regrown h2 d os
      go_wp2_with fail
      refine wp_region_qb (by kernel_rfl) (by kernel_rfl) ?_
      repeat (go_big_quiet_step ((go_at_call 77;exact Calls.regrown_of (l12Follows_any l ws gs ⟨bs,bp,bz⟩ ⟨xs',xp,true⟩ _))))
      refine wpQuiet_nil ?_
      intro w4 hb
      have X0:=Lib.hid ((bcell hb).1 _ (off+k * 3) hbb |>.trans h0)
      have X1:=Lib.hid ((bcell hb).1 _ (off+k * 3+1) hbb |>.trans h1)
      have X2:=Lib.hid ((bcell hb).1 _ (off+k * 3+2) hbb |>.trans h2)
      replace KL:=Lib.hid (KL.out.next hb)
      replace KP:=Lib.hid (KP.out.next hb)
      replace HB:=Lib.hid (below_next HB.out hb)
      clear rl rp g0 g1 g2 h0 h1 h2 hb
      cases hf:followsW l ⟨bs,bp,bz⟩ ⟨xs',xp,true⟩
      ·have HE:=Lib.hid (show legalFrom l p ⟨bs,bp,bz⟩ (xs.drop k) k=k by rw [HST.out];simp [hf])
       clear hf
       go_wp2_with fail
       go_ret
       exact ⟨ret_int (by rw [HEQ.out,HE.out]),HB.out⟩
      ·have hi:¬ (l.ticks≤(k:Int)∨3<(p+1)∨followsW l ⟨bs,bp,bz⟩ ⟨xs',xp,true⟩=false):=by rw [hf];simp;omega
       have HE:=Lib.hid (show legalW l xs=legalFrom l ((p+1)) ⟨xs',xp,true⟩ (xs.drop (k+1)) ((k+1:Nat):Int) by rw [HEQ.out,HST.out];exact if_neg hi)
       clear hi hf
       have h0:=X0.out
       have h1:=X1.out
       have h2:=X2.out
       have cp:=fun o=>KP.out.cell o
       have fp:=fun o=>KP.out.frozen o
       have zp:=KP.out.lt
       go_wp2_with fail
       exact ⟨⟨k+1,(p+1),⟨xs',xp,true⟩,by omega,by go_num,rfl,by omega,by omega,((HB.out.setCell (p:=⟨w.heap.size+1,0,none⟩) (by simp) _).setCell (p:=⟨w.heap.size+1,1,none⟩) (by simp) _).setCell (p:=⟨w.heap.size+1,2,none⟩) (by simp) _,((KL.out.far (by simp) _).far (by simp) _).far (by simp) _,((KP.out.set_ 0 _).set_ 1 _).set_ 2 _,HE.out⟩,by simp [intOf];omega⟩
  ·have hkn:xs.drop k=[]:=List.drop_of_length_le (by rw [HR.out.len];omega)
   go_wp2
   go_ret
   exact ⟨ret_int (by rw [HEQ.out,hkn];rfl),HB.out⟩
theorem legalFrom_ok {l:Lvl}:∀ {xs:List Inp} {p:Int} {b:Inp} {i:Int},0≤i→legalFrom l p b xs i<0→∀ x ∈ xs,inOk x=true:=by
 intro xs
 induction xs with
 | nil=>intro p b i _ _ x hx;cases hx
 | cons y r ih =>
  intro p b i hi h x hx
  rw [legalFrom] at h
  by_cases hc:l.ticks≤i∨3<(if y.z then p+1 else p)∨followsW l b y=false
  ·rw [if_pos hc] at h
   omega
  ·rw [if_neg hc] at h
   rcases List.mem_cons.1 hx with rfl|hx
   ·have:followsW l b x=true:=by
     cases hf:followsW l b x
     ·exact absurd (Or.inr (Or.inr hf)) hc
     ·rfl
    simp only [followsW,Bool.and_eq_true] at this
    exact this.1.1.1
   ·exact ih (by omega) h x hx
theorem legalW_ok {l:Lvl} {xs:List Inp} (h:legalW l xs<0):∀ x ∈ xs,inOk x=true:=legalFrom_ok (Int.le_refl _) h
def okW (l:Lvl) (xs:List Inp):Bool:=levelOk l && decide (legalW l xs<0)
theorem okW_ins {l:Lvl} {xs:List Inp} (h:okW l xs=true):∀ x ∈ xs,inOk x=true:=by
 simp only [okW,Bool.and_eq_true,decide_eq_true_eq] at h
 exact legalW_ok h.2
set_option maxRecDepth 100000 in
set_option maxHeartbeats 1000000 in
theorem l21Ok_any (l:Lvl) (ws gs:Sl) (A:Option Addr) (n c:Nat) (xs:List Inp) (w:World) (hl:RdL w l ws gs) (hr:RdN w A n xs) (hn:n≤1048576) :
  Calls Qy.prog 100 #[lvlV l ws gs,.slice A n c] w fun e w'=>e=.returned (.bool (okW l xs))∧Below w.heap.size w w':=by
 have HL:=Lib.hid hl
 have HR:=Lib.hid hr
 clear hl hr
 go_enter Qy.func100,Tryz.ntmps100
 go_wp2_with fail
 refine (specLevelValid_any l ws gs _ (HL.out.below (ba (Below.refl _ _)))).mono ?_
 rintro e w1 ⟨rfl,hb⟩
 have KL:=Lib.hid ((Blk.new w 29 (lvlC l ws gs)).next hb)
 have HB:=Lib.hid (ba hb)
 clear hb
 cases ho:levelOk l
 ·go_wp2_with fail
  go_ret
  exact ⟨ret_bool (by simp [okW,ho]),HB.out⟩
 ·have cl:=fun o=>KL.out.cell o
  have fl:=fun o=>KL.out.frozen o
  have zl:=KL.out.lt
  go_wp2_with fail
  refine (l12Legal_any l ws gs A n c xs _ (HR.out.below HB.out) hn).mono ?_
  rintro e w2 ⟨rfl,hb⟩
  replace HB:=Lib.hid (below_next HB.out hb)
  clear hb
  go_wp2_with fail
  go_ret
  exact ⟨ret_bool (by simp [okW,ho]),HB.out⟩
def startW (l:Lvl):Car:=⟨0,l.sx,l.sy,0,0,0,0,false,false⟩
theorem startW_ok (l:Lvl):CarOk (startW l):=by simp [CarOk,startW]
set_option maxRecDepth 100000 in
theorem l13Start_any (l:Lvl) (ws gs:Sl) (w:World):Calls Qy.prog 102 #[lvlV l ws gs] w fun e w'=>e=.returned (carV (startW l))∧Below w.heap.size w w':=by
 go_enter Qy.func102,Tryz.ntmps102
 go_wp2_with fail
 refine bodyPost_ret (v:=carV (startW l)) (by simp [results,Tryz.results102,go_sem,carV,startW]) rfl ⟨rfl,?_⟩
 go_grown
noncomputable def runW (l:Lvl) (xs:List Inp) (n:Nat):Car:=(xs.take n).foldl (stepW l) (startW l)
theorem runW_ok (l:Lvl) (xs:List Inp) (n:Nat):CarOk (runW l xs n):=by
 unfold runW
 have:∀ (ys:List Inp) (c:Car),CarOk c→CarOk (ys.foldl (stepW l) c):=by
  intro ys
  induction ys with
  | nil=>intro c h;exact h
  | cons y r ih=>intro c h;exact ih _ (stepW_ok h)
 exact this _ _ (startW_ok l)
theorem runW_succ {l:Lvl} {xs:List Inp} {k:Nat} {x:Inp} (h:xs[k]?=some x):stepW l (runW l xs k) x=runW l xs (k+1):=by
 unfold runW
 rw [List.take_add_one,h]
 simp
set_option maxRecDepth 100000 in
set_option maxHeartbeats 4000000 in
theorem l21To_any (l:Lvl) (ws gs:Sl) (A:Option Addr) (n c m:Nat) (xs:List Inp) (w:World) (hl:RdL w l ws gs) (hr:RdN w A n xs) (hn:n≤1048576) (hm:m≤n) (hx:∀ x ∈ xs,inOk x=true) :
  Calls Qy.prog 78 #[lvlV l ws gs,.slice A n c,.int .i64 m] w fun e w'=>e=.returned (carV (runW l xs m))∧Below w.heap.size w w':=by
 have HL:=Lib.hid hl
 have HR:=Lib.hid hr
 have HX:=Lib.hid hx
 clear hl hr hx
 go_enter Qy.func78,Tryz.ntmps78
 go_wp2_with fail
 refine (l13Start_any l ws gs _).mono ?_
 rintro e w1 ⟨rfl,hb⟩
 have KL:=Lib.hid (((Blk.new w 29 (lvlC l ws gs)).alloc _).next hb)
 have KR:=Lib.hid ((Blk.newAt _ 45 car0 (w.heap.size+1) (by simp)).next hb)
 have HB:=Lib.hid (ba (ba hb))
 have hs:=hb.size
 simp at hs
 clear hb
 rw [show carV (startW l)=.agg #[.int .i64 0,.int .i64 l.sx,.int .i64 l.sy,.int .i64 0,.int .i64 0,.int .i64 0,.int .i64 0,.bool false,.bool false] from rfl]
 go_wp2_with fail
 go_loopw [8] (fun i wr=>∃ k:Nat,k≤m∧i=.int .i64 k∧Hid (Below w.heap.size w wr∧Blk wr w.heap.size 29 (lvlC l ws gs)∧Blk wr (w.heap.size+1) 45 car0∧Blk wr w1.heap.size 45 (carC (runW l xs k)))) (fun i _=>m - (intOf i).toNat)
 case atStart=>exact ⟨0,Nat.zero_le _,rfl,HB.out.alloc HB.out.size _,KL.out.alloc _,KR.out.alloc _,Blk.newAt _ _ _ _ (by simp)⟩
 case round =>
  obtain ⟨k,hk,rfl,HH⟩:=hrel
  obtain ⟨HB2,KL2,KR2,KO⟩:=HH.out
  replace HB2:=Lib.hid HB2
  replace KL2:=Lib.hid KL2
  replace KR2:=Lib.hid KR2
  replace KO:=Lib.hid KO
  clear HH
  by_cases hlt:k<m
  ·obtain ⟨bb,off,x,hA,hbb,hxk,h0,h1,h2⟩:=RdN.cells (HR.out.below HB2.out) (show k<n by omega)
   subst hA
   have HRS:=Lib.hid (runW_succ (l:=l) hxk)
   have hbd:=inOk_bd (HX.out x (List.mem_of_getElem? hxk))
   have hok:=runW_ok l xs k
   have HLW:=Lib.hid (HL.out.below HB2.out)
   generalize runW l xs k=car at *
   have rl:=fun d os o=>(KL2.out.next (below_regrown _ d os)).cell o
   have ro:=fun d os o=>(KO.out.next (below_regrown _ d os)).cell o
   have g0:=fun d os=>cell_regrown h0 d os
   have g1:=fun d os=>cell_regrown h1 d os
   have g2:=fun d os=>cell_regrown h2 d os
   have HC:=Lib.hid (fun (d:Nat) (os:Array Obj)=>l13Step_any l ws gs car x (grow (redrawn wr d) os) (HLW.out.below (below_regrown _ d os)) hok.1 hok.2.1 hok.2.2 hbd.1 hbd.2.1)
   clear hxk h0 h1 h2 hbd hok
   go_upto_region 5 with (fail)
   refine wp_region_qbt 7 (by kernel_rfl) (by kernel_rfl) ?_
   simp only [List.take_succ_cons,List.take_zero,List.drop_succ_cons,List.drop_zero]
   repeat (go_big_quiet_step ((go_at_call 104;exact Calls.regrown_of (HC.out _ _))))
   refine wpQuiet_nil ?_
   intro w5 hb
   replace KL2:=Lib.hid (KL2.out.next hb)
   replace KR2:=Lib.hid (KR2.out.next hb)
   replace KO:=Lib.hid (KO.out.next hb)
   replace HB2:=Lib.hid (below_next HB2.out hb)
   clear rl ro g0 g1 g2 hb HC
   have hz5:=HB2.out.size
   rw [HRS.out]
   obtain ⟨cr2,hcr⟩:∃ c,runW l xs (k+1)=c:=⟨_,rfl⟩
   rw [hcr]
   have HCR:=Lib.hid hcr
   clear hcr
   rw [show carV cr2=.agg #[.int .i64 cr2.tick,.int .i64 cr2.ax,.int .i64 cr2.ay,.int .i64 cr2.fx,.int .i64 cr2.fy,.int .i64 cr2.turn,.int .i64 cr2.gate,.bool cr2.dn,.bool cr2.ov] from rfl]
   have co:=fun o=>KO.out.cell o
   have fo:=fun o=>KO.out.frozen o
   have zo:=KO.out.lt
   go_wp2_with fail
   refine ⟨⟨k+1,by omega,by go_num,below_set9 HB2.out (by omega) _ _ _ _ _ _ _ _ _,KL2.out.far9 (by omega) _ _ _ _ _ _ _ _ _,KR2.out.far9 (by omega) _ _ _ _ _ _ _ _ _,?_⟩,by simp [intOf];omega⟩
   rw [HCR.out]
   exact KO.out.all9 _ _ _ _ _ _ _ _ _
  ·have hkm:k=m:=by omega
   subst hkm
   obtain ⟨car,hcr⟩:∃ c,runW l xs k=c:=⟨_,rfl⟩
   rw [hcr] at KO
   have HCR:=Lib.hid hcr
   clear hcr
   have co:=fun o=>KO.out.cell o
   have fo:=fun o=>KO.out.frozen o
   have zo:=KO.out.lt
   have cr:=fun o=>KR2.out.cell o
   have fr:=fun o=>KR2.out.frozen o
   have zr:=KR2.out.lt
   go_wp2_with fail
   refine bodyPost_ret (v:=carV car) (by simp [results,Tryz.results78,go_sem,cr,carV]) rfl ⟨by rw [HCR.out],?_⟩
   have hb:=HB2.out
   go_grown
noncomputable def scoreW (l:Lvl) (xs:List Inp):Int:=if okW l xs then (if (runW l xs xs.length).dn then (runW l xs xs.length).tick else -1) else -1
set_option maxRecDepth 100000 in
set_option maxHeartbeats 2000000 in
theorem specRunScore_any (l:Lvl) (ws gs:Sl) (A:Option Addr) (n c:Nat) (xs:List Inp) (w:World) (hl:RdL w l ws gs) (hr:RdN w A n xs) (hn:n≤1048576) :
  Calls Qy.prog 101 #[lvlV l ws gs,.slice A n c] w fun e w'=>e=.returned (.int .i64 (scoreW l xs))∧Below w.heap.size w w':=by
 have HL:=Lib.hid hl
 have HR:=Lib.hid hr
 clear hl hr
 go_enter Qy.func101,Tryz.ntmps101
 go_wp2_with fail
 refine (l21Ok_any l ws gs A n c xs _ (HL.out.below (ba (Below.refl _ _))) (HR.out.below (ba (Below.refl _ _))) hn).mono ?_
 rintro e w1 ⟨rfl,hb⟩
 have KL:=Lib.hid ((Blk.new w 29 (lvlC l ws gs)).next hb)
 have HB:=Lib.hid (ba hb)
 clear hb
 cases ho:okW l xs
 ·go_wp2_with fail
  go_ret
  exact ⟨ret_int (by simp [scoreW,ho]),HB.out⟩
 ·have HO:=Lib.hid ho
  clear ho
  have cl:=fun o=>KL.out.cell o
  have fl:=fun o=>KL.out.frozen o
  have zl:=KL.out.lt
  go_wp2_with fail
  refine (l21To_any l ws gs A n c n xs _ (HL.out.below HB.out) (HR.out.below HB.out) hn (Nat.le_refl _) (okW_ins HO.out)).mono ?_
  rintro e w2 ⟨rfl,hb⟩
  replace HB:=Lib.hid (below_next HB.out hb)
  clear hb cl fl zl
  obtain ⟨car,hcr⟩:∃ c,runW l xs n=c:=⟨_,rfl⟩
  rw [hcr]
  have HCR:=Lib.hid (show runW l xs xs.length=car by rw [HR.out.len];exact hcr)
  clear hcr
  obtain ⟨tick,ax,ay,fx,fy,turn,gate,dn,ov⟩:=car
  rw [show carV ⟨tick,ax,ay,fx,fy,turn,gate,dn,ov⟩=.agg #[.int .i64 tick,.int .i64 ax,.int .i64 ay,.int .i64 fx,.int .i64 fy,.int .i64 turn,.int .i64 gate,.bool dn,.bool ov] from rfl]
  cases dn
  ·go_wp2_with fail
   go_ret
   exact ⟨ret_int (by simp [scoreW,HO.out,HCR.out]),HB.out.alloc HB.out.size _⟩
  ·go_wp2_with fail
   go_ret
   exact ⟨ret_int (by simp [scoreW,HO.out,HCR.out]),HB.out.alloc HB.out.size _⟩
end Go.Proofs.YtpcjdalgebgofaaGreatDoorY
namespace Go.Proofs.YtpcjdalgebgofaaGreatDoorY
open Go.RowKit Go.Sort
end Go.Proofs.YtpcjdalgebgofaaGreatDoorY
namespace Go.Proofs.YtpcjdalgebgofaaGreatDoorY
open Go.RowKit Go.Sort
def setRun:Array Value→Nat→List Value→Array Value
 | cur,_,[]=>cur
 | cur,m,v :: r=>setRun (cur.setIfInBounds m v) (m+1) r
theorem setRun_take:∀ (vs:List Value) (cur:Array Value) (m:Nat),m+vs.length≤cur.size→(setRun cur m vs).size=cur.size∧(setRun cur m vs).toList.take (m+vs.length)=cur.toList.take m ++ vs
 | [],cur,m,_=>⟨rfl,by simp [setRun]⟩
 |v :: r,cur,m,h=>by
  simp only [List.length_cons] at h
  obtain ⟨h1,h2⟩:=setRun_take r (cur.setIfInBounds m v) (m+1) (by simp;omega)
  refine ⟨by rw [setRun,h1];simp,?_⟩
  rw [setRun,List.length_cons,show m+(r.length+1)=m+1+r.length by omega,h2]
  have:(cur.setIfInBounds m v).toList.take (m+1)=cur.toList.take m ++ [v]:=by
   rw [Array.toList_setIfInBounds,List.take_add_one,List.getElem?_set_self (by simp;omega),List.take_set_of_le (Nat.le_refl m)]
   rfl
  rw [this,List.append_assoc]
  rfl
theorem Ow.of_blk {B g T sz n:Nat} {w:World} {xs:List Value} (h:Blk w g T xs.toArray) (hl:xs.length=n * sz) (hn:n≤1048576) (hB:B≤g):Ow B w T sz (some ⟨g,0,none⟩) n n xs :=
 Ow.mk_ hl hB h (Nat.le_refl _) (by unfold maxLen;omega) (by simp [hl]) (by rw [List.take_of_length_le (by simp [hl])])
section
variable {lo hi T sz:Nat} {w w':World} {s:Sl} {vs:List Value} {l:Lvl} {ws gs:Sl} {x:Row} {xs ys:List Row} {t k g:Sl} {S:Svc}
end
end Go.Proofs.YtpcjdalgebgofaaGreatDoorY
namespace Go.Proofs.YtpcjdalgebgofaaGreatDoorY
open Go.RowKit Go.Sort
theorem Ow.set_ {B T sz n c g j:Nat} {w:World} {vs:List Value} (h:Ow B w T sz (some ⟨g,0,none⟩) n c vs) (hj:j<vs.length) (v:Value):Ow B (w.setCell ⟨g,j,none⟩ v) T sz (some ⟨g,0,none⟩) n c (vs.set j v):=by
 have hl:=h.len
 have hn:0<n:=by
  rcases Nat.eq_zero_or_pos n with h0|h0
  ·subst h0;rw [Nat.zero_mul] at hl;omega
  ·exact h0
 have hle:=h.le
 obtain ⟨g',cur,hg,hB,hb,hnc,hcm,hcs,htk⟩:=h.blk (by omega)
 injection hg with hg
 injection hg with hg
 subst hg
 refine Ow.mk_ (by rw [List.length_set];exact hl) hB (hb.set_ j v) hle hcm (by simpa using hcs) ?_
 rw [Array.toList_setIfInBounds,List.take_set,htk]
theorem Frm.of_own {lo hi T sz n c:Nat} {A:Option Addr} {w w':World} {vs:List Value} (h:OwI lo hi w T sz A n c vs) (hg:w.grownBy w' (ownB A c)):Frm lo hi w w' :=
 ⟨hg.os,hg.tape,hg.output,hg.size,fun i hi' ho=>hg.block i hi' (by
  intro e
  unfold ownB at e
  split at e
  ·cases e
  ·have:=h.lt e.symm (by omega)
   omega)⟩
section
variable {lo hi:Nat} {w w':World} {t:Sl} {a b:List Row} {x:Row}
end
end Go.Proofs.YtpcjdalgebgofaaGreatDoorY
namespace Go.Proofs.YtpcjdalgebgofaaGreatDoorY
open Go.RowKit Go.Sort
noncomputable def hashesW (l:Lvl) (xs:List Inp):List Int:=if okW l xs then (List.range (xs.length / 5)).map (fun j=>carHash (runW l xs (5 * (j+1)))) else []
def IntsPost (B:Nat) (zs:List Int) (w:World) (e:Ending) (w':World):Prop :=
 ∃ (A:Option Addr) (c:Nat),e=.returned (.slice A zs.length c)∧Ow B w' 3 1 A zs.length c (cellsI zs)∧Below B w w'
set_option maxRecDepth 100000 in
set_option maxHeartbeats 4000000 in
theorem specRunHashes_any (l:Lvl) (ws gs:Sl) (A:Option Addr) (n c:Nat) (xs:List Inp) (w:World) (hl:RdL w l ws gs) (hr:RdN w A n xs) (hn:n≤1048576) :
  Calls Qy.prog 80 #[lvlV l ws gs,.slice A n c] w (IntsPost w.heap.size (hashesW l xs) w):=by
 obtain ⟨i0,hi0,hy0,hy1,hy2⟩:=info_parts infoZ
 have HI:=Lib.hid hi0
 have HZ:=Lib.hid hy0
 have HS:=Lib.hid hy1
 have HBY:=Lib.hid hy2
 clear hi0 hy0 hy1 hy2
 have HL:=Lib.hid hl
 have HR:=Lib.hid hr
 clear hl hr
 go_enter Qy.func80,Tryz.ntmps80
 go_wp2_with fail
 go_loopw [5,6] (fun out i wr=>∃ (k:Nat) (A':Option Addr) (c':Nat),5 * k≤n∧i=.int .i64 (5 * (k+1):Nat)∧out=.slice A' k c'∧Hid (Below w.heap.size w wr∧Blk wr w.heap.size 29 (lvlC l ws gs)∧Ow (w.heap.size+1) wr 3 1 A' k c' (cellsI ((List.range k).map fun j=>carHash (runW l xs (5 * (j+1)))))∧(0<k→okW l xs=true))) (fun _ i _=>n+5 - (intOf i).toNat)
 case atStart=>exact ⟨0,_,0,by omega,rfl,rfl,by go_grown,(Blk.new _ _ _).alloc _,Ow.bare _ _ _ _ _,by omega⟩
 case round =>
  obtain ⟨k,A',c',hk,rfl,rfl,HH⟩:=hrel
  obtain ⟨HB,KL,HOW,HOK⟩:=HH.out
  replace HB:=Lib.hid HB
  replace KL:=Lib.hid KL
  replace HOW:=Lib.hid HOW
  replace HOK:=Lib.hid HOK
  clear HH
  obtain ⟨K5,hK5⟩:∃ K5:Nat,K5=5 * (k+1):=⟨_,rfl⟩
  rw [← hK5]
  have HK5:=Lib.hid hK5
  have hKb:K5≤n+5:=by omega
  clear hK5
  by_cases hlt:K5≤n
  ·have hlt':decide ((K5:Int)≤(n:Int))=true:=by simp;omega
   have cl:=fun o=>KL.out.cell o
   have fl:=fun o=>KL.out.frozen o
   have zl:=KL.out.lt
   go_wp2_with fail
   refine (l21Ok_any l ws gs A n c xs _ (HL.out.below HB.out) (HR.out.below HB.out) hn).mono ?_
   rintro e w1 ⟨rfl,hb⟩
   replace HOW:=Lib.hid (Ow.next HOW.out hb)
   replace KL:=Lib.hid (KL.out.next hb)
   replace HB:=Lib.hid (below_next HB.out hb)
   clear hb cl fl zl
   cases ho:okW l xs
   ·have hk0:k=0:=by
     rcases Nat.eq_zero_or_pos k with h|h
     ·exact h
     ·have:=HOK.out h;rw [ho] at this;cases this
    have HO:=Lib.hid (show hashesW l xs=[] by simp [hashesW,ho])
    clear ho
    subst hk0
    go_wp2_with fail
    go_ret
    unfold IntsPost
    rw [HO.out]
    exact ⟨A',c',rfl,HOW.out.mono (by omega),HB.out⟩
   ·have HO:=Lib.hid ho
    clear ho
    have cl:=fun o=>KL.out.cell o
    have fl:=fun o=>KL.out.frozen o
    have zl:=KL.out.lt
    go_wp2_with fail
    refine (l21To_any l ws gs A n c K5 xs _ (HL.out.below HB.out) (HR.out.below HB.out) hn hlt (okW_ins HO.out)).mono ?_
    rintro e w2 ⟨rfl,hb⟩
    replace HOW:=Lib.hid (Ow.next HOW.out hb)
    replace KL:=Lib.hid (KL.out.next hb)
    replace HB:=Lib.hid (below_next HB.out hb)
    clear hb cl fl zl
    go_wp2_with fail
    refine (l13Hash_any (runW l xs K5) _).mono ?_
    rintro e w3 ⟨rfl,hb⟩
    replace HOW:=Lib.hid (Ow.next HOW.out hb)
    replace KL:=Lib.hid (KL.out.next hb)
    replace HB:=Lib.hid (below_next HB.out hb)
    clear hb
    obtain ⟨z,hz⟩:∃ z,carHash (runW l xs K5)=z:=⟨_,rfl⟩
    rw [hz]
    have HZK:=Lib.hid hz
    clear hz
    have hzs:=HB.out.size
    have hzl:=KL.out.lt
    go_wp2_with (at_builtin;refine wpList_append_ow _ rfl (.tmp 19) (.tmp 25) _ rfl (w.heap.size+1) 3 i0 _ 1 8 (Qy.un Tryz.underlying31) HI.out HZ.out HS.out HBY.out rfl (by omega) _ k c' _ rfl (HOW.out.alloc _) _ 1 1 (cellsI [z]) rfl (Src.blk (Blk.new _ _ _) rfl) (cellsI_one _) (by unfold maxLen;omega) (by omega) (by simp;omega) ?_;intro A2 c2 w5 hown5 hg5 _;have HO5:=Lib.hid hown5;have HG5:=Lib.hid hg5;clear hown5 hg5)
    have hrow:=HOW.out.alloc (.cells #[.int .i64 z] 3)
    refine ⟨⟨k+1,A2,c2,by have:=HK5.out;omega,by have:=HK5.out;go_num,rfl,?_,?_,?_,fun _=>HO.out⟩,by simp [intOf];omega⟩
    ·exact (hrow.grown HG5.out (HB.out.alloc HB.out.size _) (by omega) (by simp;omega))
    ·exact (KL.out.alloc _).frm (Frm.of_own (lo:=w.heap.size+1) (hi:=(w3.alloc (.cells #[.int .i64 z] 3)).heap.size) (OwI.of hrow) HG5.out) (by omega)
    ·have:=HO5.out
     have hzk:carHash (runW l xs (5 * (k+1)))=z:=by rw [← HK5.out];exact HZK.out
     rw [List.range_succ,List.map_append]
     show Ow _ _ _ 1 _ _ _ (List.map (Value.int .i64) (_ ++ [carHash (runW l xs (5 * (k+1)))]))
     rw [List.map_append,hzk]
     exact this
  ·have hlt':decide ((K5:Int)≤(n:Int))=false:=by simp;omega
   have hres:hashesW l xs=(List.range k).map fun j=>carHash (runW l xs (5 * (j+1))):=by
    unfold hashesW
    cases ho:okW l xs
    ·have hk0:k=0:=by
      rcases Nat.eq_zero_or_pos k with h|h
      ·exact h
      ·have:=HOK.out h;rw [ho] at this;cases this
     subst hk0
     rfl
    ·have hk5:xs.length / 5=k:=by rw [HR.out.len];have:=HK5.out;omega
     rw [hk5]
     rfl
   have HRES:=Lib.hid hres
   clear hres
   go_wp2_with fail
   go_ret
   unfold IntsPost
   rw [HRES.out]
   exact ⟨A',c',by simp,by simpa using HOW.out.mono (by omega),HB.out⟩
end Go.Proofs.YtpcjdalgebgofaaGreatDoorY
namespace Go.Proofs.YtpcjdalgebgofaaGreatDoorY
open Go.RowKit Go.Sort
def hashOk (n:Int):Bool:=inR n 0 1000002
theorem all_drop {α:Type} {p:α→Bool} {xs:List α} {k:Nat} {x:α} (h:xs[k]?=some x):(xs.drop k).all p=(p x && (xs.drop (k+1)).all p):=by
 obtain ⟨hk',he⟩:=List.getElem?_eq_some_iff.1 h
 rw [List.drop_eq_getElem_cons hk',he];rfl
end Go.Proofs.YtpcjdalgebgofaaGreatDoorY
namespace Go.Proofs.YtpcjdalgebgofaaGreatDoorY
open Go.RowKit Go.Sort
set_option maxHeartbeats 400000 in
theorem l23Hash_any (n:Int) (w:World) :
  Calls Qy.prog 68 #[.int .i64 n] w fun e w'=>e=.returned (.bool (hashOk n))∧w=w':=by
 go_enter Qy.func68,Tryz.ntmps68
 go_wp2_with fail
 refine (l6In_any _ _ _ _).mono ?_
 rintro e w' ⟨rfl,rfl⟩
 go_wp2_with fail
 go_ret
 exact ⟨rfl,rfl⟩
end Go.Proofs.YtpcjdalgebgofaaGreatDoorY
namespace Go.Proofs.YtpcjdalgebgofaaGreatDoorY
open Go.RowKit Go.Sort
structure Rep where
 lv:Int
 pl:Int
 sc:Int
 ins:List Inp
 hs:List Int
 tag:Int
abbrev repV (r:Rep) (si sh:Sl):Value:=.agg #[.int .i64 r.lv,.int .i64 r.pl,.int .i64 r.sc,.slice si.a si.n si.c,.slice sh.a sh.n sh.c,.int .i64 r.tag]
abbrev repC (r:Rep) (si sh:Sl):Array Value:=#[.int .i64 r.lv,.int .i64 r.pl,.int .i64 r.sc,.slice si.a si.n si.c,.slice sh.a sh.n sh.c,.int .i64 r.tag]
def RdR (w:World) (r:Rep) (si sh:Sl):Prop:=RdN w si.a si.n r.ins∧RdI .i64 w sh.a sh.n r.hs∧SlOk si.n si.c∧SlOk sh.n sh.c
theorem RdR.below {w w':World} {r:Rep} {si sh:Sl} (h:RdR w r si sh) (hb:Below w.heap.size w w'):RdR w' r si sh:=⟨h.1.below hb,h.2.1.below hb,h.2.2⟩
def insOk (xs:List Inp):Bool:=xs.all inOk && decide ((xs.length:Int)≤60)
set_option maxHeartbeats 1000000 in
theorem l23Inputs_any (A:Option Addr) (n c:Nat) (xs:List Inp) (w:World) (hr:RdN w A n xs) (hn:n≤1099511627776) :
  Calls Qy.prog 69 #[.slice A n c] w fun e w'=>e=.returned (.bool (insOk xs))∧Below w.heap.size w w':=by
 have HR:=Lib.hid hr;clear hr
 go_enter Qy.func69,Tryz.ntmps69
 go_wp2
 go_loopw [3] (fun i wr=>∃ k:Nat,k≤n∧i=.int .i64 k∧Hid (Below w.heap.size w wr∧xs.all inOk=(xs.drop k).all inOk)) (fun i _=>n - (intOf i).toNat)
 case atStart=>exact ⟨0,Nat.zero_le _,rfl,Below.refl _ _,rfl⟩
 case round =>
  obtain ⟨k,hk,rfl,HB⟩:=hrel
  by_cases hlt:k<n
  ·obtain ⟨b,off,x,hA,hb,hx,h0,h1,h2⟩:=RdN.cells (HR.out.below HB.out.1) hlt
   subst hA
   have HD:=Lib.hid (all_drop (p:=inOk) hx)
   clear hx
   go_wp2_with fail
   refine (specInputValid_any x _).mono ?_
   rintro e w1 ⟨rfl,hb1⟩
   cases ho:inOk x
   ·have HO:=Lib.hid ho
    clear ho
    go_wp2_with fail
    go_ret
    exact ⟨ret_bool (by simp [insOk,HB.out.2,HD.out,HO.out]),below_next HB.out.1 hb1⟩
   ·have HO:=Lib.hid ho
    clear ho
    go_wp2_with fail
    exact ⟨⟨k+1,by omega,by go_num,below_next HB.out.1 hb1,by rw [HB.out.2,HD.out,HO.out];rfl⟩,by simp [intOf];omega⟩
  ·have hall:xs.all inOk=true:=by rw [HB.out.2,List.drop_of_length_le (by rw [HR.out.len];omega)];rfl
   have HALL:=Lib.hid hall
   clear hall
   go_wp2
   go_ret
   exact ⟨ret_bool (by simp [insOk,HALL.out,HR.out.len]),HB.out.1⟩
def repOk (r:Rep):Bool:=r.hs.all hashOk && inR r.lv 0 99 && inR r.pl 0 9 && inR r.sc 0 60 && insOk r.ins && decide ((r.hs.length:Int)=(r.ins.length:Int) / 5) && hashOk r.tag
set_option maxRecDepth 100000 in
set_option maxHeartbeats 4000000 in
theorem specReplayValid_any (r:Rep) (si sh:Sl) (w:World) (hr:RdR w r si sh) :
  Calls Qy.prog 32 #[repV r si sh] w fun e w'=>e=.returned (.bool (repOk r))∧Below w.heap.size w w':=by
 obtain ⟨hi,hh,⟨_,hn1⟩,_,hn2⟩:=hr
 have HI:=Lib.hid hi
 have HH:=Lib.hid hh
 clear hi hh
 go_enter Qy.func32,Tryz.ntmps32
 go_wp2_with fail
 go_loopw [3] (fun i wr=>∃ k:Nat,k≤sh.n∧i=.int .i64 k∧Hid (Below w.heap.size w wr∧Blk wr w.heap.size 33 (repC r si sh)∧r.hs.all hashOk=(r.hs.drop k).all hashOk)) (fun i _=>sh.n - (intOf i).toNat)
 case atStart=>exact ⟨0,Nat.zero_le _,rfl,ba (Below.refl _ _),Blk.new _ _ _,rfl⟩
 case round =>
  obtain ⟨k,hk,rfl,HQ⟩:=hrel
  obtain ⟨HB,KR,HE⟩:=HQ.out
  replace HB:=Lib.hid HB
  replace KR:=Lib.hid KR
  replace HE:=Lib.hid HE
  clear HQ
  have cr:=fun o=>KR.out.cell o
  have fr:=fun o=>KR.out.frozen o
  have zr:=KR.out.lt
  by_cases hlt:k<sh.n
  ·obtain ⟨b,off,z,hA,hb,hz,hc⟩:=(HH.out.below HB.out).at_ hlt
   have HD:=Lib.hid (all_drop (p:=hashOk) hz)
   have cr4:wr.cell? ⟨w.heap.size,4,none⟩=some (.slice sh.a sh.n sh.c):=cr 4
   rw [hA] at cr4
   clear hz cr
   go_wp2_with fail
   refine (l23Hash_any _ _).mono ?_
   rintro e w1 ⟨rfl,rfl⟩
   cases ho:hashOk z
   ·have HO:=Lib.hid ho
    clear ho
    go_wp2_with fail
    go_ret
    exact ⟨ret_bool (by simp [repOk,HE.out,HD.out,HO.out]),HB.out⟩
   ·have HO:=Lib.hid ho
    clear ho
    go_wp2_with fail
    exact ⟨⟨k+1,by omega,by go_num,HB.out,KR.out,by rw [HE.out,HD.out,HO.out];rfl⟩,by simp [intOf];omega⟩
  ·have h0:r.hs.all hashOk=true:=by rw [HE.out,List.drop_of_length_le (by rw [HH.out.len];omega)];rfl
   have H0:=Lib.hid h0
   clear h0
   go_wp2_with fail
   refine (l6In_any _ _ _ _).mono ?_
   rintro e w1 ⟨rfl,rfl⟩
   cases h1:inR r.lv 0 99
   ·go_wp2_with fail
    go_ret
    exact ⟨ret_bool (by simp [repOk,h1]),HB.out⟩
   ·go_wp2_with fail
    refine (l6In_any _ _ _ _).mono ?_
    rintro e w1 ⟨rfl,rfl⟩
    cases h2:inR r.pl 0 9
    ·go_wp2_with fail
     go_ret
     exact ⟨ret_bool (by simp [repOk,h2]),HB.out⟩
    ·go_wp2_with fail
     refine (l6In_any _ _ _ _).mono ?_
     rintro e w1 ⟨rfl,rfl⟩
     cases h3:inR r.sc 0 60
     ·go_wp2_with fail
      go_ret
      exact ⟨ret_bool (by simp [repOk,h3]),HB.out⟩
     ·go_wp2_with fail
      refine (l23Inputs_any si.a si.n si.c r.ins _ (HI.out.below HB.out) (by omega)).mono ?_
      rintro e w2 ⟨rfl,hb⟩
      replace KR:=Lib.hid (KR.out.next hb)
      replace HB:=Lib.hid (below_next HB.out hb)
      clear hb cr fr zr
      have cr:=fun o=>KR.out.cell o
      have fr:=fun o=>KR.out.frozen o
      have zr:=KR.out.lt
      cases h4:insOk r.ins
      ·go_wp2_with fail
       go_ret
       exact ⟨ret_bool (by simp [repOk,h4]),HB.out⟩
      ·by_cases h5:(sh.n:Int)=(si.n:Int) / 5
       ·have h5':((sh.n:Int) == (si.n:Int) / 5)=true:=by simpa using h5
        have H5:=Lib.hid (show (r.hs.length:Int)=(r.ins.length:Int) / 5 by rw [HH.out.len,HI.out.len];exact h5)
        clear h5
        go_wp2_with fail
        refine (l23Hash_any _ _).mono ?_
        rintro e w3 ⟨rfl,rfl⟩
        go_wp2_with fail
        go_ret
        exact ⟨ret_bool (by simp [repOk,H0.out,h1,h2,h3,h4,H5.out]),HB.out⟩
       ·have h5':((sh.n:Int) == (si.n:Int) / 5)=false:=by simpa using h5
        have H5:=Lib.hid (show ¬ (r.hs.length:Int)=(r.ins.length:Int) / 5 by rw [HH.out.len,HI.out.len];exact h5)
        clear h5
        go_wp2_with fail
        go_ret
        exact ⟨ret_bool (by simp [repOk,H5.out]),HB.out⟩
end Go.Proofs.YtpcjdalgebgofaaGreatDoorY
namespace Go.Proofs.YtpcjdalgebgofaaGreatDoorY
open Go.RowKit Go.Sort
def listW (r:Rep):List Int:=[r.lv,r.pl,r.sc,(r.ins.length:Int)] ++ r.ins.map codeW ++ r.hs
set_option maxRecDepth 100000 in
set_option maxHeartbeats 4000000 in
theorem l23List_any (r:Rep) (si sh:Sl) (w:World) (hr:RdR w r si sh) :
  Calls Qy.prog 36 #[repV r si sh] w (IntsPost w.heap.size (listW r) w):=by
 obtain ⟨i0,hi0,hy0,hy1,hy2⟩:=info_parts infoZ
 have HI:=Lib.hid hi0
 have HZ:=Lib.hid hy0
 have HS:=Lib.hid hy1
 have HBY:=Lib.hid hy2
 clear hi0 hy0 hy1 hy2
 obtain ⟨hi,hh,⟨_,hn1⟩,_,hn2⟩:=hr
 have HIN:=Lib.hid hi
 have HH:=Lib.hid hh
 clear hi hh
 go_enter Qy.func36,Tryz.ntmps36
 go_wp2_with fail
 go_loopw [3,4] (fun out i wr=>∃ (k m:Nat) (A':Option Addr) (c':Nat),k≤si.n∧m=4+k∧i=.int .i64 k∧out=.slice A' m c'∧Hid (Below w.heap.size w wr∧Blk wr w.heap.size 33 (repC r si sh)∧Ow (w.heap.size+1) wr 3 1 A' m c' (cellsI ([r.lv,r.pl,r.sc,(si.n:Int)] ++ (r.ins.take k).map codeW)))) (fun _ i _=>si.n - (intOf i).toNat)
 case atStart=>exact ⟨0,4,_,4,Nat.zero_le _,rfl,rfl,rfl,ba (ba (Below.refl _ _)),(Blk.new _ _ _).alloc _,Ow.of_blk (Blk.newAt _ _ _ _ (by simp)) rfl (by decide) (by simp)⟩
 case round =>
  obtain ⟨k,m,A',c',hk,hm,rfl,rfl,HQ⟩:=hrel
  obtain ⟨HB,KR,HOW⟩:=HQ.out
  replace HB:=Lib.hid HB
  replace KR:=Lib.hid KR
  replace HOW:=Lib.hid HOW
  have HM:=Lib.hid hm
  have hmb:m≤1048580:=by omega
  clear HQ hm
  have cr:=fun o=>KR.out.cell o
  have fr:=fun o=>KR.out.frozen o
  have zr:=KR.out.lt
  by_cases hlt:k<si.n
  ·obtain ⟨b,off,x,hA,hb,hx,h0,h1,h2⟩:=RdN.cells (HIN.out.below HB.out) hlt
   have HX:=Lib.hid hx
   have cr3:wr.cell? ⟨w.heap.size,3,none⟩=some (.slice si.a si.n si.c):=cr 3
   rw [hA] at cr3
   have HA:=Lib.hid hA
   clear hx cr hA
   go_wp2_with fail
   refine (l12Code_any x _).mono ?_
   rintro e w1 ⟨rfl,hb1⟩
   replace HOW:=Lib.hid (Ow.next HOW.out hb1)
   replace KR:=Lib.hid (KR.out.next hb1)
   replace HB:=Lib.hid (below_next HB.out hb1)
   clear hb1 cr3 fr zr h0 h1 h2
   obtain ⟨z,hz⟩:∃ z,codeW x=z:=⟨_,rfl⟩
   rw [hz]
   have HZX:=Lib.hid hz
   clear hz
   have hzs:=HB.out.size
   have hzl:=KR.out.lt
   go_wp2_with (at_builtin;refine wpList_append_ow _ rfl (.tmp 22) (.tmp 29) _ rfl (w.heap.size+1) 3 i0 _ 1 8 (Qy.un Tryz.underlying31) HI.out HZ.out HS.out HBY.out rfl (by omega) _ m c' _ rfl (HOW.out.alloc _) _ 1 1 (cellsI [z]) rfl (Src.blk (Blk.new _ _ _) rfl) (cellsI_one _) (by unfold maxLen;omega) (by omega) (by simp;omega) ?_;intro A2 c2 w5 hown5 hg5 _;have HO5:=Lib.hid hown5;have HG5:=Lib.hid hg5;clear hown5 hg5)
   have hrow:=HOW.out.alloc (.cells #[.int .i64 z] 3)
   refine ⟨⟨k+1,m+1,A2,c2,by omega,by have:=HM.out;omega,by go_num,rfl,?_,?_,?_⟩,by simp [intOf];omega⟩
   ·exact (hrow.grown HG5.out (HB.out.alloc HB.out.size _) (by omega) (by simp;omega))
   ·exact (KR.out.alloc _).frm (Frm.of_own (lo:=w.heap.size+1) (hi:=(w1.alloc (.cells #[.int .i64 z] 3)).heap.size) (OwI.of hrow) HG5.out) (by omega)
   ·have he:cellsI ([r.lv,r.pl,r.sc,(si.n:Int)] ++ (r.ins.take (k+1)).map codeW)=cellsI ([r.lv,r.pl,r.sc,(si.n:Int)] ++ (r.ins.take k).map codeW) ++ cellsI [z]:=by
     rw [List.take_add_one,HX.out]
     simp [cellsI,HZX.out]
    rw [he]
    exact HO5.out
  ·have hkn:k=si.n:=by omega
   subst hkn
   have HTK:=Lib.hid (show r.ins.take si.n=r.ins from List.take_of_length_le (by rw [HIN.out.len];exact Nat.le_refl _))
   have HLEN:=Lib.hid HIN.out.len
   have hzs:=HB.out.size
   have hzl:=KR.out.lt
   have hsn:=HH.out.len
   go_wp2_with (at_builtin;refine wpList_append_ow _ rfl (.tmp 31) (.tmp 33) _ rfl (w.heap.size+1) 3 i0 _ 1 8 (Qy.un Tryz.underlying31) HI.out HZ.out HS.out HBY.out rfl (by omega) _ m c' _ rfl HOW.out sh.a sh.n sh.c (cellsI r.hs) rfl (Src.ints (HH.out.below HB.out)) (cellsI_one _) (by unfold maxLen;omega) (by omega) (by omega) ?_;intro A2 c2 w5 hown5 hg5 _;have HO5:=Lib.hid hown5;have HG5:=Lib.hid hg5;clear hown5 hg5)
   go_ret
   have hll:(listW r).length=m+sh.n:=by
    have h1:=HM.out
    have h2:=HLEN.out
    simp [listW]
    omega
   refine ⟨A2,c2,by rw [hll];rfl,?_,HOW.out.grown HG5.out HB.out (by omega) (by omega)⟩
   have h5:=HO5.out
   rw [HTK.out,← HLEN.out] at h5
   rw [hll]
   refine Ow.mono (B:=w.heap.size+1) ?_ (by omega)
   show Ow _ _ _ 1 _ _ _ (List.map (Value.int .i64) (_ ++ r.hs))
   rw [List.map_append]
   exact h5
end Go.Proofs.YtpcjdalgebgofaaGreatDoorY
namespace Go.Proofs.YtpcjdalgebgofaaGreatDoorY
open Go.RowKit Go.Sort
set_option maxHeartbeats 400000 in
theorem isCoordinate_any (x:Int) (w:World) :
  Calls Qy.prog 85 #[.int .i64 x] w fun e w'=>e=.returned (.bool (inC x))∧w=w':=by
 go_enter Qy.func85,Tryz.ntmps85
 go_wp2_with fail
 refine (inRange_any _ _ _ _).mono ?_
 rintro e w' ⟨rfl,rfl⟩
 go_wp2_with fail
 go_ret
 exact ⟨rfl,rfl⟩
set_option maxHeartbeats 400000 in
theorem implVecOk_any (x y:Int) (w:World) :
  Calls Qy.prog 44 #[.agg #[.int .i64 x,.int .i64 y]] w fun e w'=>e=.returned (.bool (vecOk x y))∧Below w.heap.size w w':=by
 go_enter Qy.func44,Tryz.ntmps44
 go_wp2_with (first|(go_at_call 85;refine (isCoordinate_any _ _).mono ?_;rintro e w' ⟨rfl,rfl⟩))
 all_goals go_ret
 all_goals exact ⟨ret_bool (by simp [vecOk, *]),(Below.refl _ _).alloc (Nat.le_refl _) _⟩
set_option maxHeartbeats 1000000 in
theorem axes_any (b:Bx) (w:World) :
  Calls Qy.prog 88 #[.agg #[.int .i64 b.1,.int .i64 b.2.1,.int .i64 b.2.2.1,.int .i64 b.2.2.2]] w fun e w'=>e=.returned (.agg #[.int .i64 b.1,.int .i64 b.2.2.1,.int .i64 b.2.1,.int .i64 b.2.2.2])∧Below w.heap.size w w':=by
 go_enter Qy.func88,Tryz.ntmps88
 go_wp2
 refine bodyPost_ret (v:=.agg #[.int .i64 b.1,.int .i64 b.2.2.1,.int .i64 b.2.1,.int .i64 b.2.2.2]) (by simp [results,Tryz.results88,go_sem]) rfl ⟨rfl,by go_grown⟩
set_option maxHeartbeats 2000000 in
theorem nearest_any (b:Bx) (x y:Int) (w:World) :
  Calls Qy.prog 114 #[.agg #[.int .i64 b.1,.int .i64 b.2.1,.int .i64 b.2.2.1,.int .i64 b.2.2.2],.agg #[.int .i64 x,.int .i64 y]] w fun e w'=>e=.returned (.agg #[.int .i64 (min (max x b.1) b.2.2.1),.int .i64 (min (max y b.2.1) b.2.2.2)])∧Below w.heap.size w w':=by
 obtain ⟨b1,b2,b3,b4⟩:=b
 have AX:=fun W=>axes_any (b1,b2,b3,b4) W
 have HAX:=Lib.hid AX
 clear AX
 go_enter Qy.func114,Tryz.ntmps114
 go_wp2_with fail
 refine (HAX.out _).mono ?_
 rintro e w1 ⟨rfl,hb1⟩
 have k2:=((Blk.newAt _ _ _ (w.heap.size+1) (by simp)).alloc _).next hb1
 have c0:w1.cell? ⟨w.heap.size+1,0,none⟩=some (.int .i64 x):=k2.cell 0
 have c1:w1.cell? ⟨w.heap.size+1,1,none⟩=some (.int .i64 y):=k2.cell 1
 have k3:=(Blk.newAt _ _ _ (w.heap.size+1+1) (by simp)).next hb1
 have r0:w1.cell? ⟨w.heap.size+1+1,0,none⟩=some (.int .i64 0):=k3.cell 0
 have r1:w1.cell? ⟨w.heap.size+1+1,1,none⟩=some (.int .i64 0):=k3.cell 1
 have f0:=k3.frozen 0
 have f1:=k3.frozen 1
 have HB1:=Lib.hid (ba (ba (ba hb1)))
 have hz1:=hb1.size
 simp at hz1
 have hz:w.heap.size+1<w1.heap.size:=by omega
 have hz2:w.heap.size+1+1<w1.heap.size:=by omega
 clear hb1 k2 k3 hz1
 go_wp2_with fail
 all_goals
  refine bodyPost_ret (v:=.agg #[.int .i64 (min (max x b1) b3),.int .i64 (min (max y b2) b4)]) (by simp [results,Tryz.results114,go_sem,r0,r1,hz2];omega) rfl ⟨rfl,?_⟩
  have hs:=HB1.out.size
  exact ((HB1.out.setCell (by simp;omega) _).setCell (by simp;omega) _).alloc (by simp;omega) _
set_option maxHeartbeats 1000000 in
theorem square_any (x y:Int) (w:World) :
  Calls Qy.prog 115 #[.agg #[.int .i64 x,.int .i64 y]] w fun e w'=>e=.returned (.int .i64 (wrap64 (wrap64 (x * x)+wrap64 (y * y))))∧Below w.heap.size w w':=by
 go_enter Qy.func115,Tryz.ntmps115
 go_wp2
 go_ret
 exact ⟨rfl,(Below.refl _ _).alloc (Nat.le_refl _) _⟩
def touchI (b:Bx) (x y r:Int):Bool:=nearW (min (max x b.1) b.2.2.1) (min (max y b.2.1) b.2.2.2) x y r
theorem touchI_eq {b:Bx} (h:boxOk b=true) (x y r:Int):touchI b x y r=touchW b x y r:=by
 simp only [boxOk,Bool.and_eq_true,decide_eq_true_eq] at h
 obtain ⟨⟨_,h1⟩,h2⟩:=h
 unfold touchI touchW
 rw [show min (max x b.1) b.2.2.1=max b.1 (min x b.2.2.1) by omega,show min (max y b.2.1) b.2.2.2=max b.2.1 (min y b.2.2.2) by omega]
set_option maxHeartbeats 1000000 in
theorem touches_any (b:Bx) (x y r:Int) (w:World) :
  Calls Qy.prog 90 #[.agg #[.int .i64 b.1,.int .i64 b.2.1,.int .i64 b.2.2.1,.int .i64 b.2.2.2],.agg #[.int .i64 x,.int .i64 y],.int .i64 r] w fun e w'=>e=.returned (.bool (touchI b x y r))∧Below w.heap.size w w':=by
 have N:=fun W=>nearest_any b x y W
 unfold touchI
 generalize min (max x b.1) b.2.2.1=p at N ⊢
 generalize min (max y b.2.1) b.2.2.2=q at N ⊢
 have HN:=Lib.hid N
 clear N
 go_enter Qy.func90,Tryz.ntmps90
 go_wp2_with fail
 refine (HN.out _).mono ?_
 rintro e w1 ⟨rfl,hb1⟩
 have k1:=(Blk.newAt _ _ _ (w.heap.size+1) (by simp)).next hb1
 have c0:w1.cell? ⟨w.heap.size+1,0,none⟩=some (.int .i64 x):=k1.cell 0
 have c1:w1.cell? ⟨w.heap.size+1,1,none⟩=some (.int .i64 y):=k1.cell 1
 have HB1:=Lib.hid (ba (ba hb1))
 have hz1:=hb1.size
 simp at hz1
 have hz:w.heap.size+1<w1.heap.size:=by omega
 clear hb1 k1 hz1
 go_wp2_with fail
 refine (square_any _ _ _).mono ?_
 rintro e w2 ⟨rfl,hb2⟩
 go_wp2_with fail
 go_ret
 exact ⟨ret_bool rfl,below_at HB1.out HB1.out.size (ba hb2)⟩
set_option maxHeartbeats 2000000 in
theorem implBoxValid_any (b:Bx) (w:World) :
  Calls Qy.prog 48 #[.agg #[.int .i64 b.1,.int .i64 b.2.1,.int .i64 b.2.2.1,.int .i64 b.2.2.2]] w fun e w'=>e=.returned (.bool (boxOk b))∧Below w.heap.size w w':=by
 have i0:∀ W,(Instr.index 117 (.agg #[.int .i64 b.1,.int .i64 b.2.2.1,.int .i64 b.2.1,.int .i64 b.2.2.2]) (.int .i64 0)).run Qy.prog W=.ok (.agg #[.int .i64 b.1,.int .i64 b.2.2.1]) W:=fun _=>by kernel_rfl
 have i1:∀ W,(Instr.index 117 (.agg #[.int .i64 b.1,.int .i64 b.2.2.1,.int .i64 b.2.1,.int .i64 b.2.2.2]) (.int .i64 1)).run Qy.prog W=.ok (.agg #[.int .i64 b.2.1,.int .i64 b.2.2.2]) W:=fun _=>by kernel_rfl
 go_enter Qy.func48,Tryz.ntmps48
 go_wp2_with fail
 refine (axes_any _ _).mono ?_
 rintro e w1 ⟨rfl,hb1⟩
 have HK1:=Lib.hid ((Blk.new _ _ _).next hb1)
 have HB1:=Lib.hid (ba hb1)
 clear hb1
 go_wp2_with fail
 go_loopw [7] (fun i wr=>∃ k:Nat,k≤2∧i=.int .i64 k∧Hid (Below w.heap.size w wr∧Blk wr w.heap.size 27 #[.int .i64 b.1,.int .i64 b.2.1,.int .i64 b.2.2.1,.int .i64 b.2.2.2]∧(0<k→b.1≤b.2.2.1)∧(1<k→b.2.1≤b.2.2.2))) (fun i _=>2 - (intOf i).toNat)
 case atStart=>exact ⟨0,by omega,rfl,HB1.out,HK1.out,fun h=>absurd h (by omega),fun h=>absurd h (by omega)⟩
 case round =>
  obtain ⟨k,hk,rfl,HB⟩:=hrel
  have hq:k=0∨k=1∨k=2:=by omega
  rcases hq with rfl|rfl|rfl
  ·by_cases h1:b.2.2.1<b.1
   ·go_wp2_with fail
    go_ret
    refine ⟨ret_bool ?_,HB.out.1.alloc HB.out.1.size _⟩
    symm
    simp only [boxOk,Bool.and_eq_false_iff,decide_eq_false_iff_not]
    exact .inl (.inr (by omega))
   ·have h1':b.1≤b.2.2.1:=by omega
    go_wp2_with fail
    exact ⟨⟨1,by omega,rfl,HB.out.1.alloc HB.out.1.size _,HB.out.2.1.alloc _,fun _=>by omega,fun h=>absurd h (by omega)⟩,by simp [intOf]⟩
  ·by_cases h1:b.2.2.2<b.2.1
   ·go_wp2_with fail
    go_ret
    refine ⟨ret_bool ?_,HB.out.1.alloc HB.out.1.size _⟩
    symm
    simp only [boxOk,Bool.and_eq_false_iff,decide_eq_false_iff_not]
    exact .inr (by omega)
   ·have h1':b.2.1≤b.2.2.2:=by omega
    go_wp2_with fail
    exact ⟨⟨2,by omega,rfl,HB.out.1.alloc HB.out.1.size _,HB.out.2.1.alloc _,fun _=>HB.out.2.2.1 (by omega),fun _=>by omega⟩,by simp [intOf]⟩
  ·have hx:=Lib.hid (HB.out.2.2.1 (by omega))
   have hy:=Lib.hid (HB.out.2.2.2 (by omega))
   have c0:wr.cell? ⟨w.heap.size,0,none⟩=some (.int .i64 b.1):=HB.out.2.1.cell 0
   have c1:wr.cell? ⟨w.heap.size,1,none⟩=some (.int .i64 b.2.1):=HB.out.2.1.cell 1
   go_wp2_with fail
   refine (implVecOk_any _ _ _).mono ?_
   rintro e w2 ⟨rfl,hb2⟩
   have k2:=HB.out.2.1.next hb2
   have d2:w2.cell? ⟨w.heap.size,2,none⟩=some (.int .i64 b.2.2.1):=k2.cell 2
   have d3:w2.cell? ⟨w.heap.size,3,none⟩=some (.int .i64 b.2.2.2):=k2.cell 3
   have HB2:=Lib.hid (below_next HB.out.1 hb2)
   clear c0 c1 hb2 k2
   cases hv:vecOk b.1 b.2.1
   ·go_wp2_with fail
    go_ret
    exact ⟨ret_bool (by simp [boxOk,hv]),HB2.out⟩
   ·go_wp2_with fail
    refine (implVecOk_any _ _ _).mono ?_
    rintro e w3 ⟨rfl,hb3⟩
    go_wp2_with fail
    go_ret
    exact ⟨ret_bool (by have h1:=hx.out;have h2:=hy.out;simp [boxOk,hv,h1,h2]),below_next HB2.out hb3⟩
end Go.Proofs.YtpcjdalgebgofaaGreatDoorY

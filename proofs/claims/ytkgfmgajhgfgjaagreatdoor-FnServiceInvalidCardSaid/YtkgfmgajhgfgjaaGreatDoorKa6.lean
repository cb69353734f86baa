/-
  Lemmas and contracts: E5 E6 Mk Ow Mz E7 Sp Ss. No condition.
-/
import Derived.Test.YtkgfmgajhgfgjaaGreatDoorKa4
import Derived.Test.YtkgfmgajhgfgjaaGreatDoorKa5
set_option linter.unusedSimpArgs false
set_option linter.unusedVariables false
set_option linter.unusedSectionVars false
namespace Go.Proofs.YtkgfmgajhgfgjaaGreatDoor
open Go.RowKit Go.Sort
def encIn (x:Inp):List Value:=[.int .i64 x.s,.int .i64 x.p,.bool x.z]
theorem encIn_len (x:Inp):(encIn x).length=3:=rfl
theorem encIn_one:∀ x,∀ u ∈ encIn x,u.oneCell'=true:=by
 intro b u hu
 simp [encIn] at hu
 rcases hu with rfl|rfl|rfl <;> rfl
abbrev cellsN:List Inp→List Value:=cellsX encIn
abbrev RdN (w:World) (A:Option Addr) (n:Nat) (xs:List Inp):Prop:=Rd encIn 3 w A n xs
theorem infoN:(Tryz.prog.info? 158).map (fun i=>(i.zero,i.size,i.bytes))=some (some (.agg #[.int .i64 0,.int .i64 0,.bool false]),3,24):=by kernel_rfl
theorem RdN.cells {w:World} {A:Option Addr} {n:Nat} {xs:List Inp} (h:RdN w A n xs) {k:Nat} (hk:k<n):∃ b off x,A=some ⟨b,off,none⟩∧b<w.heap.size∧xs[k]?=some x∧w.cell? ⟨b,off+k * 3,none⟩=some (.int .i64 x.s)∧w.cell? ⟨b,off+k * 3+1,none⟩=some (.int .i64 x.p)∧w.cell? ⟨b,off+k * 3+2,none⟩=some (.bool x.z):=by
 obtain ⟨b,off,x,hA,hb,hx,hc⟩:=h.at_ hk
 exact ⟨b,off,x,hA,hb,hx,hc 0 _ rfl,hc 1 _ rfl,hc 2 _ rfl⟩
def inOk (x:Inp):Bool:=inR x.s (-1) 1 && inR x.p 0 2 && (!x.z || (decide (x.s=0) && decide (x.p=0)))
theorem inOk_bd {x:Inp} (h:inOk x=true) : -1≤x.s∧x.s≤1∧0≤x.p∧x.p≤2:=by
 simp [inOk,inR] at h
 omega
set_option maxRecDepth 100000 in
set_option maxHeartbeats 1000000 in
theorem specInputValid_any (x:Inp) (w:World):Calls Tryz.prog 253 #[inV x] w fun e w'=>e=.returned (.bool (inOk x))∧Below w.heap.size w w':=by
 obtain ⟨s,p,z⟩:=x
 go_enter Tryz.func253,Tryz.ntmps253
 go_wp2_with fail
 refine (l6In_any _ _ _ _).mono ?_
 rintro e w' ⟨rfl,rfl⟩
 cases h1:inR s (-1) 1
 ·go_wp2_with fail
  go_ret
  exact ⟨ret_bool (by simp [inOk,h1]),by go_grown⟩
 ·go_wp2_with fail
  refine (l6In_any _ _ _ _).mono ?_
  rintro e w' ⟨rfl,rfl⟩
  cases h2:inR p 0 2
  ·go_wp2_with fail
   go_ret
   exact ⟨ret_bool (by simp [inOk,h2]),by go_grown⟩
  ·cases z
   ·go_wp2_with fail
    go_ret
    exact ⟨ret_bool (by simp [inOk,h1,h2]),by go_grown⟩
   ·by_cases h3:s=0
    ·subst h3
     by_cases h4:p=0
     ·subst h4
      go_wp2_with fail
      go_ret
      exact ⟨ret_bool (by simp [inOk,h1,h2]),by go_grown⟩
     ·have h4':(p == 0)=false:=by simpa using h4
      go_wp2_with fail
      go_ret
      exact ⟨ret_bool (by simp [inOk,h4]),by go_grown⟩
    ·have h3':(s == 0)=false:=by simpa using h3
     go_wp2_with fail
     go_ret
     exact ⟨ret_bool (by simp [inOk,h3]),by go_grown⟩
def codeW (x:Inp):Int:=if x.z then 9 else wrap64 (wrap64 (wrap64 (3 * x.p)+x.s)+1)
set_option maxRecDepth 100000 in
theorem l12Code_any (x:Inp) (w:World):Calls Tryz.prog 136 #[inV x] w fun e w'=>e=.returned (.int .i64 (codeW x))∧Below w.heap.size w w':=by
 obtain ⟨s,p,z⟩:=x
 cases z
 ·go_enter Tryz.func136,Tryz.ntmps136
  go_wp2_with fail
  go_ret
  exact ⟨ret_int (by simp [codeW]),by go_grown⟩
 ·go_enter Tryz.func136,Tryz.ntmps136
  go_wp2_with fail
  go_ret
  exact ⟨ret_int (by simp [codeW]),by go_grown⟩
def inOf (k:Int):Inp × Bool:=if inR k 0 9 then (if k=9 then (⟨0,0,true⟩,true) else (⟨k % 3 - 1,k / 3,false⟩,true)) else (⟨0,0,false⟩,false)
set_option maxRecDepth 100000 in
set_option maxHeartbeats 1000000 in
theorem specInputOf_any (k:Int) (w:World):Calls Tryz.prog 196 #[.int .i64 k] w fun e w'=>e=.returned (.tuple #[inV (inOf k).1,.bool (inOf k).2])∧Below w.heap.size w w':=by
 go_enter Tryz.func196,Tryz.ntmps196
 go_wp2_with fail
 refine (l6In_any _ _ _ _).mono ?_
 rintro e w' ⟨rfl,rfl⟩
 cases h1:inR k 0 9
 ·have hf:inOf k=(⟨0,0,false⟩,false):=by simp [inOf,h1]
  have HF:=Lib.hid hf
  clear hf
  go_wp2_with fail
  refine bodyPost_ret (v:=.tuple #[inV ⟨0,0,false⟩,.bool false]) (by simp [results,Tryz.results196,go_sem]) rfl ⟨by rw [HF.out],?_⟩
  go_grown
 ·by_cases h9:k=9
  ·subst h9
   go_wp2_with fail
   refine bodyPost_ret (v:=.tuple #[inV ⟨0,0,true⟩,.bool true]) (by simp [results,Tryz.results196,go_sem]) rfl ⟨rfl,?_⟩
   go_grown
  ·have h9':(k == 9)=false:=by simpa using h9
   have hf:inOf k=(⟨k % 3 - 1,k / 3,false⟩,true):=by simp [inOf,h1,h9]
   have hb:0≤k∧k≤9:=by simpa [inR] using h1
   obtain ⟨hb0,hb9⟩:=hb
   have HF:=Lib.hid hf
   clear hf h1 h9
   go_wp2_with fail
   refine bodyPost_ret (v:=.tuple #[inV ⟨k % 3 - 1,k / 3,false⟩,.bool true]) (by simp [results,Tryz.results196,go_sem]) rfl ⟨by rw [HF.out],?_⟩
   go_grown
def bansW (b k:Int):Bool:=(wrap64 (b.tdiv k)).tmod 2 == 1
set_option maxRecDepth 100000 in
theorem l11Bans_any (l:Lvl) (ws gs:Sl) (k:Int) (hk:¬ k=0) (w:World):Calls Tryz.prog 254 #[lvlV l ws gs,.int .i64 k] w fun e w'=>e=.returned (.bool (bansW l.bans k))∧Below w.heap.size w w':=by
 have hk':(k == 0)=false:=by simpa using hk
 go_enter Tryz.func254,Tryz.ntmps254
 go_wp2_with fail
 go_ret
 exact ⟨ret_bool (by simp [bansW]),by go_grown⟩
def followsW (l:Lvl) (b x:Inp):Bool:=inOk x && !(x.z && bansW l.bans 2) && !(decide (x.p=2) && bansW l.bans 1) && inR (wrap64 (x.s - b.s)) (-1) 1
set_option maxRecDepth 100000 in
set_option maxHeartbeats 2000000 in
theorem l12Follows_any (l:Lvl) (ws gs:Sl) (b x:Inp) (w:World):Calls Tryz.prog 209 #[lvlV l ws gs,inV b,inV x] w fun e w'=>e=.returned (.bool (followsW l b x))∧Below w.heap.size w w':=by
 obtain ⟨bs,bp,bz⟩:=b
 obtain ⟨xs,xp,xz⟩:=x
 go_enter Tryz.func209,Tryz.ntmps209
 go_wp2_with fail
 refine (specInputValid_any ⟨xs,xp,xz⟩ _).mono ?_
 rintro e w1 ⟨rfl,hb⟩
 have KL:=Lib.hid ((((Blk.new w 29 (lvlC l ws gs)).alloc _).alloc _).next hb)
 have KP:=Lib.hid (((Blk.newAt _ 158 #[.int .i64 bs,.int .i64 bp,.bool bz] (w.heap.size+1) (by simp)).alloc _).next hb)
 have KX:=Lib.hid ((Blk.newAt _ 158 #[.int .i64 xs,.int .i64 xp,.bool xz] (w.heap.size+1+1) (by simp)).next hb)
 have HB:=Lib.hid (ba (ba (ba hb)))
 clear hb
 have cl:=fun o=>KL.out.cell o
 have fl:=fun o=>KL.out.frozen o
 have zl:=KL.out.lt
 have cp:=fun o=>KP.out.cell o
 have fp:=fun o=>KP.out.frozen o
 have zp:=KP.out.lt
 have cx:=fun o=>KX.out.cell o
 have fx:=fun o=>KX.out.frozen o
 have zx:=KX.out.lt
 cases hv:inOk ⟨xs,xp,xz⟩
 ·go_wp2_with fail
  go_ret
  exact ⟨ret_bool (by simp [followsW,hv]),by have hb:=HB.out;go_grown⟩
 ·have HV:=Lib.hid hv
  clear hv
  cases xz
  ·by_cases hp:xp=2
   ·subst hp
    go_wp2_with fail
    refine (l11Bans_any l ws gs 1 (by decide) _).mono ?_
    rintro e w3 ⟨rfl,hb⟩
    replace KL:=Lib.hid (KL.out.next hb)
    replace KP:=Lib.hid (KP.out.next hb)
    replace KX:=Lib.hid (KX.out.next hb)
    replace HB:=Lib.hid (below_next HB.out hb)
    clear cl fl zl cp fp zp cx fx zx hb
    have cp:=fun o=>KP.out.cell o
    have fp:=fun o=>KP.out.frozen o
    have zp:=KP.out.lt
    have cx:=fun o=>KX.out.cell o
    have fx:=fun o=>KX.out.frozen o
    have zx:=KX.out.lt
    cases hb1:bansW l.bans 1
    ·go_wp2_with fail
     refine (l6In_any _ _ _ _).mono ?_
     rintro e w' ⟨rfl,rfl⟩
     go_wp2_with fail
     go_ret
     exact ⟨ret_bool (by simp [followsW,Bool.false_and,HV.out,hb1]),by have hb:=HB.out;go_grown⟩
    ·go_wp2_with fail
     go_ret
     exact ⟨ret_bool (by simp [followsW,hb1]),by have hb:=HB.out;go_grown⟩
   ·have hp':(xp == 2)=false:=by simpa using hp
    have HP:=Lib.hid hp
    clear hp
    go_wp2_with fail
    refine (l6In_any _ _ _ _).mono ?_
    rintro e w' ⟨rfl,rfl⟩
    go_wp2_with fail
    go_ret
    exact ⟨ret_bool (by simp [followsW,Bool.false_and,HV.out,HP.out]),by have hb:=HB.out;go_grown⟩
  ·go_wp2_with fail
   refine (l11Bans_any l ws gs 2 (by decide) _).mono ?_
   rintro e w2 ⟨rfl,hb⟩
   replace KL:=Lib.hid (KL.out.next hb)
   replace KP:=Lib.hid (KP.out.next hb)
   replace KX:=Lib.hid (KX.out.next hb)
   replace HB:=Lib.hid (below_next HB.out hb)
   clear cl fl zl cp fp zp cx fx zx hb
   have cl:=fun o=>KL.out.cell o
   have fl:=fun o=>KL.out.frozen o
   have zl:=KL.out.lt
   have cp:=fun o=>KP.out.cell o
   have fp:=fun o=>KP.out.frozen o
   have zp:=KP.out.lt
   have cx:=fun o=>KX.out.cell o
   have fx:=fun o=>KX.out.frozen o
   have zx:=KX.out.lt
   cases hb2:bansW l.bans 2
   ·by_cases hp:xp=2
    ·subst hp
     go_wp2_with fail
     refine (l11Bans_any l ws gs 1 (by decide) _).mono ?_
     rintro e w3 ⟨rfl,hb⟩
     replace KL:=Lib.hid (KL.out.next hb)
     replace KP:=Lib.hid (KP.out.next hb)
     replace KX:=Lib.hid (KX.out.next hb)
     replace HB:=Lib.hid (below_next HB.out hb)
     clear cl fl zl cp fp zp cx fx zx hb
     have cp:=fun o=>KP.out.cell o
     have fp:=fun o=>KP.out.frozen o
     have zp:=KP.out.lt
     have cx:=fun o=>KX.out.cell o
     have fx:=fun o=>KX.out.frozen o
     have zx:=KX.out.lt
     cases hb1:bansW l.bans 1
     ·go_wp2_with fail
      refine (l6In_any _ _ _ _).mono ?_
      rintro e w' ⟨rfl,rfl⟩
      go_wp2_with fail
      go_ret
      exact ⟨ret_bool (by simp [followsW,hb2,HV.out,hb1]),by have hb:=HB.out;go_grown⟩
     ·go_wp2_with fail
      go_ret
      exact ⟨ret_bool (by simp [followsW,hb1]),by have hb:=HB.out;go_grown⟩
    ·have hp':(xp == 2)=false:=by simpa using hp
     have HP:=Lib.hid hp
     clear hp
     go_wp2_with fail
     refine (l6In_any _ _ _ _).mono ?_
     rintro e w' ⟨rfl,rfl⟩
     go_wp2_with fail
     go_ret
     exact ⟨ret_bool (by simp [followsW,hb2,HV.out,HP.out]),by have hb:=HB.out;go_grown⟩
   ·go_wp2_with fail
    go_ret
    exact ⟨ret_bool (by simp [followsW,hb2]),by have hb:=HB.out;go_grown⟩
end Go.Proofs.YtkgfmgajhgfgjaaGreatDoor
namespace Go.Proofs.YtkgfmgajhgfgjaaGreatDoor
open Go.RowKit Go.Sort
def inp0:Inp:=⟨0,0,false⟩
def legalFrom (l:Lvl):Int→Inp→List Inp→Int→Int
 | _,_,[],_ => -1
 | p,b,x :: r,i=>if l.ticks≤i∨3<(if x.z then p+1 else p)∨followsW l b x=false then i else legalFrom l (if x.z then p+1 else p) x r (i+1)
def legalW (l:Lvl) (xs:List Inp):Int:=legalFrom l 0 inp0 xs 0
theorem legal_step {l:Lvl} {xs:List Inp} {k:Nat} {x:Inp} (h:xs[k]?=some x) (p:Int) (b:Inp):legalFrom l p b (xs.drop k) k=if l.ticks≤k∨3<(if x.z then p+1 else p)∨followsW l b x=false then (k:Int) else legalFrom l (if x.z then p+1 else p) x (xs.drop (k+1)) ((k+1:Nat):Int):=by
 obtain ⟨hk',he⟩:=List.getElem?_eq_some_iff.1 h
 rw [List.drop_eq_getElem_cons hk',he]
 rfl
set_option maxRecDepth 100000 in
set_option maxHeartbeats 4000000 in
theorem l12Legal_any (l:Lvl) (ws gs:Sl) (A:Option Addr) (n c:Nat) (xs:List Inp) (w:World) (hr:RdN w A n xs) (hn:n≤1048576) :
  Calls Tryz.prog 131 #[lvlV l ws gs,.slice A n c] w fun e w'=>e=.returned (.int .i64 (legalW l xs))∧Below w.heap.size w w':=by
 have HR:=Lib.hid hr
 clear hr
 go_enter Tryz.func131,Tryz.ntmps131
 go_wp2_with fail
 go_loopw [6,7] (fun ps i wr=>∃ (k:Nat) (p:Int) (b:Inp),k≤n∧i=.int .i64 k∧ps=.int .i64 p∧0≤p∧p≤k∧Hid (Below w.heap.size w wr∧Blk wr w.heap.size 29 (lvlC l ws gs)∧Blk wr (w.heap.size+1) 158 #[.int .i64 b.s,.int .i64 b.p,.bool b.z]∧legalW l xs=legalFrom l p b (xs.drop k) k)) (fun _ i _=>n - (intOf i).toNat)
 case atStart=>exact ⟨0,0,inp0,Nat.zero_le _,rfl,rfl,by omega,by omega,by go_grown,(Blk.new _ _ _).alloc _,Blk.newAt _ _ _ _ (by simp),rfl⟩
 case round =>
  obtain ⟨k,p,b,hk,rfl,rfl,hp0,hp1,HH⟩:=hrel
  obtain ⟨HB,KL,KP,HEQ⟩:=HH.out
  replace HB:=Lib.hid HB
  replace KL:=Lib.hid KL
  replace KP:=Lib.hid KP
  replace HEQ:=Lib.hid HEQ
  clear HH
  by_cases hlt:k<n
  ·obtain ⟨bb,off,x,hA,hbb,hx,h0,h1,h2⟩:=RdN.cells (HR.out.below HB.out) hlt
   subst hA
   have HST:=Lib.hid (legal_step (l:=l) hx p b)
   obtain ⟨bs,bp,bz⟩:=b
   obtain ⟨xs',xp,xz⟩:=x
   clear hx
   cases xz
   ·by_cases ht:l.ticks≤(k:Int)
    ·have ht':decide (l.ticks≤(k:Int))=true:=by simpa using ht
     have HE:=Lib.hid (show legalFrom l p ⟨bs,bp,bz⟩ (xs.drop k) k=k by rw [HST.out];simp [ht])
     clear ht
     have rl:=fun d os o=>(KL.out.next (below_regrown _ d os)).cell o
     go_wp2_with fail
     refine wp_region_qb (by kernel_rfl) (by kernel_rfl) ?_
     repeat (go_big_quiet_step ((fail)))
     refine wpQuiet_nil ?_
     intro w4 hb
     replace HB:=Lib.hid (below_next HB.out hb)
     go_wp2_with fail
     go_ret
     exact ⟨ret_int (by rw [HEQ.out,HE.out]),HB.out⟩
    ·have ht':decide (l.ticks≤(k:Int))=false:=by simpa using ht
     by_cases hp3:3<p
     ·have hp3':decide (3<p)=true:=by simpa using hp3
      have HE:=Lib.hid (show legalFrom l p ⟨bs,bp,bz⟩ (xs.drop k) k=k by rw [HST.out];simp [hp3])
      clear ht hp3
      have rl:=fun d os o=>(KL.out.next (below_regrown _ d os)).cell o
      go_wp2_with fail
      refine wp_region_qb (by kernel_rfl) (by kernel_rfl) ?_
      repeat (go_big_quiet_step ((fail)))
      refine wpQuiet_nil ?_
      intro w4 hb
      replace HB:=Lib.hid (below_next HB.out hb)
      go_wp2_with fail
      go_ret
      exact ⟨ret_int (by rw [HEQ.out,HE.out]),HB.out⟩
     ·have hp3':decide (3<p)=false:=by simpa using hp3
      have rl:=fun d os o=>(KL.out.next (below_regrown _ d os)).cell o
      have rp:=fun d os o=>(KP.out.next (below_regrown _ d os)).cell o
      have g0:=fun d os=>cell_regrown h0 d os
      have g1:=fun d os=>cell_regrown h1 d os
      have g2:=fun d os=>cell_regrown h2 d os
      go_wp2_with fail
      refine wp_region_qb (by kernel_rfl) (by kernel_rfl) ?_
      repeat (go_big_quiet_step ((go_at_call 209;exact Calls.regrown_of (l12Follows_any l ws gs ⟨bs,bp,bz⟩ ⟨xs',xp,false⟩ _))))
      refine wpQuiet_nil ?_
      intro w4 hb
      have X0:=Lib.hid ((bcell hb).1 _ (off+k * 3) hbb |>.trans h0)
      have X1:=Lib.hid ((bcell hb).1 _ (off+k * 3+1) hbb |>.trans h1)
      have X2:=Lib.hid ((bcell hb).1 _ (off+k * 3+2) hbb |>.trans h2)
      replace KL:=Lib.hid (KL.out.next hb)
      replace KP:=Lib.hid (KP.out.next hb)
      replace HB:=Lib.hid (below_next HB.out hb)
      clear rl rp g0 g1 g2 h0 h1 h2 hb
      cases hf:followsW l ⟨bs,bp,bz⟩ ⟨xs',xp,false⟩
      ·have HE:=Lib.hid (show legalFrom l p ⟨bs,bp,bz⟩ (xs.drop k) k=k by rw [HST.out];simp [hf])
       clear hf
       go_wp2_with fail
       go_ret
       exact ⟨ret_int (by rw [HEQ.out,HE.out]),HB.out⟩
      ·have hi:¬ (l.ticks≤(k:Int)∨3<p∨followsW l ⟨bs,bp,bz⟩ ⟨xs',xp,false⟩=false):=by rw [hf];simp;omega
       have HE:=Lib.hid (show legalW l xs=legalFrom l (p) ⟨xs',xp,false⟩ (xs.drop (k+1)) ((k+1:Nat):Int) by rw [HEQ.out,HST.out];exact if_neg hi)
       clear hi hf
       have h0:=X0.out
       have h1:=X1.out
       have h2:=X2.out
       have cp:=fun o=>KP.out.cell o
       have fp:=fun o=>KP.out.frozen o
       have zp:=KP.out.lt
       go_wp2_with fail
       exact ⟨⟨k+1,p,⟨xs',xp,false⟩,by omega,by go_num,rfl,by omega,by omega,((HB.out.setCell (p:=⟨w.heap.size+1,0,none⟩) (by simp) _).setCell (p:=⟨w.heap.size+1,1,none⟩) (by simp) _).setCell (p:=⟨w.heap.size+1,2,none⟩) (by simp) _,((KL.out.far (by simp) _).far (by simp) _).far (by simp) _,((KP.out.set_ 0 _).set_ 1 _).set_ 2 _,HE.out⟩,by simp [intOf];omega⟩
   ·by_cases ht:l.ticks≤(k:Int)
    ·have ht':decide (l.ticks≤(k:Int))=true:=by simpa using ht
     have HE:=Lib.hid (show legalFrom l p ⟨bs,bp,bz⟩ (xs.drop k) k=k by rw [HST.out];simp [ht])
     clear ht
     have rl:=fun d os o=>(KL.out.next (below_regrown _ d os)).cell o
     go_wp2_with fail
     refine wp_region_qb (by kernel_rfl) (by kernel_rfl) ?_
     repeat (go_big_quiet_step ((fail)))
     refine wpQuiet_nil ?_
     intro w4 hb
     replace HB:=Lib.hid (below_next HB.out hb)
     go_wp2_with fail
     go_ret
     exact ⟨ret_int (by rw [HEQ.out,HE.out]),HB.out⟩
    ·have ht':decide (l.ticks≤(k:Int))=false:=by simpa using ht
     by_cases hp3:3<(p+1)
     ·have hp3':decide (3<(p+1))=true:=by simpa using hp3
      have HE:=Lib.hid (show legalFrom l p ⟨bs,bp,bz⟩ (xs.drop k) k=k by rw [HST.out];simp [hp3])
      clear ht hp3
      have rl:=fun d os o=>(KL.out.next (below_regrown _ d os)).cell o
      go_wp2_with fail
      refine wp_region_qb (by kernel_rfl) (by kernel_rfl) ?_
      repeat (go_big_quiet_step ((fail)))
      refine wpQuiet_nil ?_
      intro w4 hb
      replace HB:=Lib.hid (below_next HB.out hb)
      go_wp2_with fail
      go_ret
      exact ⟨ret_int (by rw [HEQ.out,HE.out]),HB.out⟩
     ·have hp3':decide (3<(p+1))=false:=by simpa using hp3
      have rl:=fun d os o=>(KL.out.next (below_regrown _ d os)).cell o
      have rp:=fun d os o=>(KP.out.next (below_regrown _ d os)).cell o
      have g0:=fun d os=>cell_regrown h0 d os
      have g1:=fun d os=>cell_regrown h1 d os
      have g2:=fun d os=>cell_regrown h2 d os
      go_wp2_with fail
      refine wp_region_qb (by kernel_rfl) (by kernel_rfl) ?_
      repeat (go_big_quiet_step ((go_at_call 209;exact Calls.regrown_of (l12Follows_any l ws gs ⟨bs,bp,bz⟩ ⟨xs',xp,true⟩ _))))
      refine wpQuiet_nil ?_
      intro w4 hb
      have X0:=Lib.hid ((bcell hb).1 _ (off+k * 3) hbb |>.trans h0)
      have X1:=Lib.hid ((bcell hb).1 _ (off+k * 3+1) hbb |>.trans h1)
      have X2:=Lib.hid ((bcell hb).1 _ (off+k * 3+2) hbb |>.trans h2)
      replace KL:=Lib.hid (KL.out.next hb)
      replace KP:=Lib.hid (KP.out.next hb)
      replace HB:=Lib.hid (below_next HB.out hb)
      clear rl rp g0 g1 g2 h0 h1 h2 hb
      cases hf:followsW l ⟨bs,bp,bz⟩ ⟨xs',xp,true⟩
      ·have HE:=Lib.hid (show legalFrom l p ⟨bs,bp,bz⟩ (xs.drop k) k=k by rw [HST.out];simp [hf])
       clear hf
       go_wp2_with fail
       go_ret
       exact ⟨ret_int (by rw [HEQ.out,HE.out]),HB.out⟩
      ·have hi:¬ (l.ticks≤(k:Int)∨3<(p+1)∨followsW l ⟨bs,bp,bz⟩ ⟨xs',xp,true⟩=false):=by rw [hf];simp;omega
       have HE:=Lib.hid (show legalW l xs=legalFrom l ((p+1)) ⟨xs',xp,true⟩ (xs.drop (k+1)) ((k+1:Nat):Int) by rw [HEQ.out,HST.out];exact if_neg hi)
       clear hi hf
       have h0:=X0.out
       have h1:=X1.out
       have h2:=X2.out
       have cp:=fun o=>KP.out.cell o
       have fp:=fun o=>KP.out.frozen o
       have zp:=KP.out.lt
       go_wp2_with fail
       exact ⟨⟨k+1,(p+1),⟨xs',xp,true⟩,by omega,by go_num,rfl,by omega,by omega,((HB.out.setCell (p:=⟨w.heap.size+1,0,none⟩) (by simp) _).setCell (p:=⟨w.heap.size+1,1,none⟩) (by simp) _).setCell (p:=⟨w.heap.size+1,2,none⟩) (by simp) _,((KL.out.far (by simp) _).far (by simp) _).far (by simp) _,((KP.out.set_ 0 _).set_ 1 _).set_ 2 _,HE.out⟩,by simp [intOf];omega⟩
  ·have hkn:xs.drop k=[]:=List.drop_of_length_le (by rw [HR.out.len];omega)
   go_wp2
   go_ret
   exact ⟨ret_int (by rw [HEQ.out,hkn];rfl),HB.out⟩
theorem legalFrom_ok {l:Lvl}:∀ {xs:List Inp} {p:Int} {b:Inp} {i:Int},0≤i→legalFrom l p b xs i<0→∀ x ∈ xs,inOk x=true:=by
 intro xs
 induction xs with
 | nil=>intro p b i _ _ x hx;cases hx
 | cons y r ih =>
  intro p b i hi h x hx
  rw [legalFrom] at h
  by_cases hc:l.ticks≤i∨3<(if y.z then p+1 else p)∨followsW l b y=false
  ·rw [if_pos hc] at h
   omega
  ·rw [if_neg hc] at h
   rcases List.mem_cons.1 hx with rfl|hx
   ·have:followsW l b x=true:=by
     cases hf:followsW l b x
     ·exact absurd (Or.inr (Or.inr hf)) hc
     ·rfl
    simp only [followsW,Bool.and_eq_true] at this
    exact this.1.1.1
   ·exact ih (by omega) h x hx
theorem legalW_ok {l:Lvl} {xs:List Inp} (h:legalW l xs<0):∀ x ∈ xs,inOk x=true:=legalFrom_ok (Int.le_refl _) h
def okW (l:Lvl) (xs:List Inp):Bool:=levelOk l && decide (legalW l xs<0)
theorem okW_ins {l:Lvl} {xs:List Inp} (h:okW l xs=true):∀ x ∈ xs,inOk x=true:=by
 simp only [okW,Bool.and_eq_true,decide_eq_true_eq] at h
 exact legalW_ok h.2
set_option maxRecDepth 100000 in
set_option maxHeartbeats 1000000 in
theorem l21Ok_any (l:Lvl) (ws gs:Sl) (A:Option Addr) (n c:Nat) (xs:List Inp) (w:World) (hl:RdL w l ws gs) (hr:RdN w A n xs) (hn:n≤1048576) :
  Calls Tryz.prog 56 #[lvlV l ws gs,.slice A n c] w fun e w'=>e=.returned (.bool (okW l xs))∧Below w.heap.size w w':=by
 have HL:=Lib.hid hl
 have HR:=Lib.hid hr
 clear hl hr
 go_enter Tryz.func56,Tryz.ntmps56
 go_wp2_with fail
 refine (specLevelValid_any l ws gs _ (HL.out.below (ba (Below.refl _ _)))).mono ?_
 rintro e w1 ⟨rfl,hb⟩
 have KL:=Lib.hid ((Blk.new w 29 (lvlC l ws gs)).next hb)
 have HB:=Lib.hid (ba hb)
 clear hb
 cases ho:levelOk l
 ·go_wp2_with fail
  go_ret
  exact ⟨ret_bool (by simp [okW,ho]),HB.out⟩
 ·have cl:=fun o=>KL.out.cell o
  have fl:=fun o=>KL.out.frozen o
  have zl:=KL.out.lt
  go_wp2_with fail
  refine (l12Legal_any l ws gs A n c xs _ (HR.out.below HB.out) hn).mono ?_
  rintro e w2 ⟨rfl,hb⟩
  replace HB:=Lib.hid (below_next HB.out hb)
  clear hb
  go_wp2_with fail
  go_ret
  exact ⟨ret_bool (by simp [okW,ho]),HB.out⟩
def startW (l:Lvl):Car:=⟨0,l.sx,l.sy,0,0,0,0,false,false⟩
theorem startW_ok (l:Lvl):CarOk (startW l):=by simp [CarOk,startW]
set_option maxRecDepth 100000 in
theorem l13Start_any (l:Lvl) (ws gs:Sl) (w:World):Calls Tryz.prog 193 #[lvlV l ws gs] w fun e w'=>e=.returned (carV (startW l))∧Below w.heap.size w w':=by
 go_enter Tryz.func193,Tryz.ntmps193
 go_wp2_with fail
 refine bodyPost_ret (v:=carV (startW l)) (by simp [results,Tryz.results193,go_sem,carV,startW]) rfl ⟨rfl,?_⟩
 go_grown
noncomputable def runW (l:Lvl) (xs:List Inp) (n:Nat):Car:=(xs.take n).foldl (stepW l) (startW l)
theorem runW_ok (l:Lvl) (xs:List Inp) (n:Nat):CarOk (runW l xs n):=by
 unfold runW
 have:∀ (ys:List Inp) (c:Car),CarOk c→CarOk (ys.foldl (stepW l) c):=by
  intro ys
  induction ys with
  | nil=>intro c h;exact h
  | cons y r ih=>intro c h;exact ih _ (stepW_ok h)
 exact this _ _ (startW_ok l)
theorem runW_succ {l:Lvl} {xs:List Inp} {k:Nat} {x:Inp} (h:xs[k]?=some x):stepW l (runW l xs k) x=runW l xs (k+1):=by
 unfold runW
 rw [List.take_add_one,h]
 simp
set_option maxRecDepth 100000 in
set_option maxHeartbeats 4000000 in
theorem l21To_any (l:Lvl) (ws gs:Sl) (A:Option Addr) (n c m:Nat) (xs:List Inp) (w:World) (hl:RdL w l ws gs) (hr:RdN w A n xs) (hn:n≤1048576) (hm:m≤n) (hx:∀ x ∈ xs,inOk x=true) :
  Calls Tryz.prog 132 #[lvlV l ws gs,.slice A n c,.int .i64 m] w fun e w'=>e=.returned (carV (runW l xs m))∧Below w.heap.size w w':=by
 have HL:=Lib.hid hl
 have HR:=Lib.hid hr
 have HX:=Lib.hid hx
 clear hl hr hx
 go_enter Tryz.func132,Tryz.ntmps132
 go_wp2_with fail
 refine (l13Start_any l ws gs _).mono ?_
 rintro e w1 ⟨rfl,hb⟩
 have KL:=Lib.hid (((Blk.new w 29 (lvlC l ws gs)).alloc _).next hb)
 have KR:=Lib.hid ((Blk.newAt _ 93 car0 (w.heap.size+1) (by simp)).next hb)
 have HB:=Lib.hid (ba (ba hb))
 have hs:=hb.size
 simp at hs
 clear hb
 rw [show carV (startW l)=.agg #[.int .i64 0,.int .i64 l.sx,.int .i64 l.sy,.int .i64 0,.int .i64 0,.int .i64 0,.int .i64 0,.bool false,.bool false] from rfl]
 go_wp2_with fail
 go_loopw [8] (fun i wr=>∃ k:Nat,k≤m∧i=.int .i64 k∧Hid (Below w.heap.size w wr∧Blk wr w.heap.size 29 (lvlC l ws gs)∧Blk wr (w.heap.size+1) 93 car0∧Blk wr w1.heap.size 93 (carC (runW l xs k)))) (fun i _=>m - (intOf i).toNat)
 case atStart=>exact ⟨0,Nat.zero_le _,rfl,HB.out.alloc HB.out.size _,KL.out.alloc _,KR.out.alloc _,Blk.newAt _ _ _ _ (by simp)⟩
 case round =>
  obtain ⟨k,hk,rfl,HH⟩:=hrel
  obtain ⟨HB2,KL2,KR2,KO⟩:=HH.out
  replace HB2:=Lib.hid HB2
  replace KL2:=Lib.hid KL2
  replace KR2:=Lib.hid KR2
  replace KO:=Lib.hid KO
  clear HH
  by_cases hlt:k<m
  ·obtain ⟨bb,off,x,hA,hbb,hxk,h0,h1,h2⟩:=RdN.cells (HR.out.below HB2.out) (show k<n by omega)
   subst hA
   have HRS:=Lib.hid (runW_succ (l:=l) hxk)
   have hbd:=inOk_bd (HX.out x (List.mem_of_getElem? hxk))
   have hok:=runW_ok l xs k
   have HLW:=Lib.hid (HL.out.below HB2.out)
   generalize runW l xs k=car at *
   have rl:=fun d os o=>(KL2.out.next (below_regrown _ d os)).cell o
   have ro:=fun d os o=>(KO.out.next (below_regrown _ d os)).cell o
   have g0:=fun d os=>cell_regrown h0 d os
   have g1:=fun d os=>cell_regrown h1 d os
   have g2:=fun d os=>cell_regrown h2 d os
   have HC:=Lib.hid (fun (d:Nat) (os:Array Obj)=>l13Step_any l ws gs car x (grow (redrawn wr d) os) (HLW.out.below (below_regrown _ d os)) hok.1 hok.2.1 hok.2.2 hbd.1 hbd.2.1)
   clear hxk h0 h1 h2 hbd hok
   go_upto_region 5 with (fail)
   refine wp_region_qbt 7 (by kernel_rfl) (by kernel_rfl) ?_
   simp only [List.take_succ_cons,List.take_zero,List.drop_succ_cons,List.drop_zero]
   repeat (go_big_quiet_step ((go_at_call 195;exact Calls.regrown_of (HC.out _ _))))
   refine wpQuiet_nil ?_
   intro w5 hb
   replace KL2:=Lib.hid (KL2.out.next hb)
   replace KR2:=Lib.hid (KR2.out.next hb)
   replace KO:=Lib.hid (KO.out.next hb)
   replace HB2:=Lib.hid (below_next HB2.out hb)
   clear rl ro g0 g1 g2 hb HC
   have hz5:=HB2.out.size
   rw [HRS.out]
   obtain ⟨cr2,hcr⟩:∃ c,runW l xs (k+1)=c:=⟨_,rfl⟩
   rw [hcr]
   have HCR:=Lib.hid hcr
   clear hcr
   rw [show carV cr2=.agg #[.int .i64 cr2.tick,.int .i64 cr2.ax,.int .i64 cr2.ay,.int .i64 cr2.fx,.int .i64 cr2.fy,.int .i64 cr2.turn,.int .i64 cr2.gate,.bool cr2.dn,.bool cr2.ov] from rfl]
   have co:=fun o=>KO.out.cell o
   have fo:=fun o=>KO.out.frozen o
   have zo:=KO.out.lt
   go_wp2_with fail
   refine ⟨⟨k+1,by omega,by go_num,below_set9 HB2.out (by omega) _ _ _ _ _ _ _ _ _,KL2.out.far9 (by omega) _ _ _ _ _ _ _ _ _,KR2.out.far9 (by omega) _ _ _ _ _ _ _ _ _,?_⟩,by simp [intOf];omega⟩
   rw [HCR.out]
   exact KO.out.all9 _ _ _ _ _ _ _ _ _
  ·have hkm:k=m:=by omega
   subst hkm
   obtain ⟨car,hcr⟩:∃ c,runW l xs k=c:=⟨_,rfl⟩
   rw [hcr] at KO
   have HCR:=Lib.hid hcr
   clear hcr
   have co:=fun o=>KO.out.cell o
   have fo:=fun o=>KO.out.frozen o
   have zo:=KO.out.lt
   have cr:=fun o=>KR2.out.cell o
   have fr:=fun o=>KR2.out.frozen o
   have zr:=KR2.out.lt
   go_wp2_with fail
   refine bodyPost_ret (v:=carV car) (by simp [results,Tryz.results132,go_sem,cr,carV]) rfl ⟨by rw [HCR.out],?_⟩
   have hb:=HB2.out
   go_grown
noncomputable def scoreW (l:Lvl) (xs:List Inp):Int:=if okW l xs then (if (runW l xs xs.length).dn then (runW l xs xs.length).tick else -1) else -1
set_option maxRecDepth 100000 in
set_option maxHeartbeats 2000000 in
theorem specRunScore_any (l:Lvl) (ws gs:Sl) (A:Option Addr) (n c:Nat) (xs:List Inp) (w:World) (hl:RdL w l ws gs) (hr:RdN w A n xs) (hn:n≤1048576) :
  Calls Tryz.prog 58 #[lvlV l ws gs,.slice A n c] w fun e w'=>e=.returned (.int .i64 (scoreW l xs))∧Below w.heap.size w w':=by
 have HL:=Lib.hid hl
 have HR:=Lib.hid hr
 clear hl hr
 go_enter Tryz.func58,Tryz.ntmps58
 go_wp2_with fail
 refine (l21Ok_any l ws gs A n c xs _ (HL.out.below (ba (Below.refl _ _))) (HR.out.below (ba (Below.refl _ _))) hn).mono ?_
 rintro e w1 ⟨rfl,hb⟩
 have KL:=Lib.hid ((Blk.new w 29 (lvlC l ws gs)).next hb)
 have HB:=Lib.hid (ba hb)
 clear hb
 cases ho:okW l xs
 ·go_wp2_with fail
  go_ret
  exact ⟨ret_int (by simp [scoreW,ho]),HB.out⟩
 ·have HO:=Lib.hid ho
  clear ho
  have cl:=fun o=>KL.out.cell o
  have fl:=fun o=>KL.out.frozen o
  have zl:=KL.out.lt
  go_wp2_with fail
  refine (l21To_any l ws gs A n c n xs _ (HL.out.below HB.out) (HR.out.below HB.out) hn (Nat.le_refl _) (okW_ins HO.out)).mono ?_
  rintro e w2 ⟨rfl,hb⟩
  replace HB:=Lib.hid (below_next HB.out hb)
  clear hb cl fl zl
  obtain ⟨car,hcr⟩:∃ c,runW l xs n=c:=⟨_,rfl⟩
  rw [hcr]
  have HCR:=Lib.hid (show runW l xs xs.length=car by rw [HR.out.len];exact hcr)
  clear hcr
  obtain ⟨tick,ax,ay,fx,fy,turn,gate,dn,ov⟩:=car
  rw [show carV ⟨tick,ax,ay,fx,fy,turn,gate,dn,ov⟩=.agg #[.int .i64 tick,.int .i64 ax,.int .i64 ay,.int .i64 fx,.int .i64 fy,.int .i64 turn,.int .i64 gate,.bool dn,.bool ov] from rfl]
  cases dn
  ·go_wp2_with fail
   go_ret
   exact ⟨ret_int (by simp [scoreW,HO.out,HCR.out]),HB.out.alloc HB.out.size _⟩
  ·go_wp2_with fail
   go_ret
   exact ⟨ret_int (by simp [scoreW,HO.out,HCR.out]),HB.out.alloc HB.out.size _⟩
end Go.Proofs.YtkgfmgajhgfgjaaGreatDoor
namespace Go.Proofs.YtkgfmgajhgfgjaaGreatDoor
open Go.RowKit Go.Sort
end Go.Proofs.YtkgfmgajhgfgjaaGreatDoor
namespace Go.Proofs.YtkgfmgajhgfgjaaGreatDoor
open Go.RowKit Go.Sort
def setRun:Array Value→Nat→List Value→Array Value
 | cur,_,[]=>cur
 | cur,m,v :: r=>setRun (cur.setIfInBounds m v) (m+1) r
theorem setRun_take:∀ (vs:List Value) (cur:Array Value) (m:Nat),m+vs.length≤cur.size→(setRun cur m vs).size=cur.size∧(setRun cur m vs).toList.take (m+vs.length)=cur.toList.take m ++ vs
 | [],cur,m,_=>⟨rfl,by simp [setRun]⟩
 |v :: r,cur,m,h=>by
  simp only [List.length_cons] at h
  obtain ⟨h1,h2⟩:=setRun_take r (cur.setIfInBounds m v) (m+1) (by simp;omega)
  refine ⟨by rw [setRun,h1];simp,?_⟩
  rw [setRun,List.length_cons,show m+(r.length+1)=m+1+r.length by omega,h2]
  have:(cur.setIfInBounds m v).toList.take (m+1)=cur.toList.take m ++ [v]:=by
   rw [Array.toList_setIfInBounds,List.take_add_one,List.getElem?_set_self (by simp;omega),List.take_set_of_le (Nat.le_refl m)]
   rfl
  rw [this,List.append_assoc]
  rfl
theorem Ow.of_blk {B g T sz n:Nat} {w:World} {xs:List Value} (h:Blk w g T xs.toArray) (hl:xs.length=n * sz) (hn:n≤1048576) (hB:B≤g):Ow B w T sz (some ⟨g,0,none⟩) n n xs :=
 Ow.mk_ hl hB h (Nat.le_refl _) (by unfold maxLen;omega) (by simp [hl]) (by rw [List.take_of_length_le (by simp [hl])])
theorem nodup_app {a b:List Nat} (m:Nat) (ha:a.Nodup) (hb:b.Nodup) (h1:∀ x ∈ a,x<m) (h2:∀ x ∈ b,m≤x):(a ++ b).Nodup:=by
 rw [List.nodup_append]
 refine ⟨ha,hb,fun x hx y hy=>?_⟩
 have:=h1 x hx
 have:=h2 y hy
 omega
section
variable {lo hi T sz:Nat} {w w':World} {s:Sl} {vs:List Value} {l:Lvl} {ws gs:Sl} {x:Row} {xs ys:List Row} {t k g:Sl} {S:Svc}
theorem OwI.mem (h:OwI lo hi w T sz s.a s.n s.c vs):∀ b ∈ blkOf s,lo≤b∧b<hi:=fun b hb=>by
 obtain ⟨hc,hg⟩:=mem_blkOf.1 hb
 have:=h.lt hg hc
 exact ⟨this.1,this.2.1⟩
theorem blkOf_nodup (s:Sl):(blkOf s).Nodup:=by
 unfold blkOf
 cases ownB s.a s.c <;> simp
theorem OwL.mem (h:OwL lo hi w l ws gs):∀ b ∈ blkOf ws ++ blkOf gs,lo≤b∧b<hi:=fun b hb=>by
 rcases List.mem_append.1 hb with hb|hb
 ·exact h.1.mem b hb
 ·exact h.2.1.mem b hb
theorem boxBlks_append (a b:List Row):boxBlks (a ++ b)=boxBlks a ++ boxBlks b:=by simp [boxBlks]
theorem entBlks_append (a b:List Row):entBlks (a ++ b)=entBlks a ++ entBlks b:=by simp [entBlks]
theorem boxBlks_one (x:Row):boxBlks [x]=blkOf x.1.w ++ blkOf x.1.g:=by simp [boxBlks]
theorem entBlks_one (x:Row):entBlks [x]=blkOf x.1.b:=by simp [entBlks]
theorem box_mem (h:∀ x ∈ xs,OwT lo hi w x):∀ b ∈ boxBlks xs,lo≤b∧b<hi:=fun b hb=>by
 obtain ⟨x,hx,hb⟩:=List.mem_flatMap.1 hb
 exact (h x hx).1.mem b hb
theorem ent_mem (h:∀ x ∈ xs,OwT lo hi w x):∀ b ∈ entBlks xs,lo≤b∧b<hi:=fun b hb=>by
 obtain ⟨x,hx,hb⟩:=List.mem_flatMap.1 hb
 exact (h x hx).2.1.mem b hb
structure OwR (lo hi:Nat) (w:World) (xs:List Row):Prop where
 own:∀ x ∈ xs,OwT lo hi w x
 box:(boxBlks xs).Nodup
 ent:(entBlks xs).Nodup
theorem OwR.mono {lo' hi':Nat} (h:OwR lo hi w xs) (h1:lo'≤lo) (h2:hi≤hi'):OwR lo' hi' w xs:=⟨fun x hx=>(h.own x hx).mono h1 h2,h.box,h.ent⟩
theorem OwR.next (h:OwR lo hi w xs) (hb:Below w.heap.size w w'):OwR lo hi w' xs:=⟨fun x hx=>(h.own x hx).next hb,h.box,h.ent⟩
theorem OwR.app {m:Nat} (h:OwR lo m w xs) (k:OwR m hi w ys) (h1:lo≤m) (h2:m≤hi):OwR lo hi w (xs ++ ys) :=
 ⟨fun x hx=>by
  rcases List.mem_append.1 hx with hx|hx
  ·exact (h.own x hx).mono (Nat.le_refl _) h2
  ·exact (k.own x hx).mono h1 (Nat.le_refl _),
 by rw [boxBlks_append];exact nodup_app m h.box k.box (fun b hb=>(box_mem h.own b hb).2) (fun b hb=>(box_mem k.own b hb).1),
 by rw [entBlks_append];exact nodup_app m h.ent k.ent (fun b hb=>(ent_mem h.own b hb).2) (fun b hb=>(ent_mem k.own b hb).1)⟩
theorem OwTs.mk_ (h:OwI lo hi w 65 12 t.a t.n t.c (cellsT xs)) (r:OwR lo hi w xs) (hn:t.n≤1048576):OwTs lo hi w t xs:=⟨h,r.own,r.box,r.ent,hn⟩
theorem OwTs.rows (h:OwTs lo hi w t xs):OwR lo hi w xs:=⟨h.2.1,h.2.2.1,h.2.2.2.1⟩
end
end Go.Proofs.YtkgfmgajhgfgjaaGreatDoor
namespace Go.Proofs.YtkgfmgajhgfgjaaGreatDoor
open Go.RowKit Go.Sort
theorem Ow.set_ {B T sz n c g j:Nat} {w:World} {vs:List Value} (h:Ow B w T sz (some ⟨g,0,none⟩) n c vs) (hj:j<vs.length) (v:Value):Ow B (w.setCell ⟨g,j,none⟩ v) T sz (some ⟨g,0,none⟩) n c (vs.set j v):=by
 have hl:=h.len
 have hn:0<n:=by
  rcases Nat.eq_zero_or_pos n with h0|h0
  ·subst h0;rw [Nat.zero_mul] at hl;omega
  ·exact h0
 have hle:=h.le
 obtain ⟨g',cur,hg,hB,hb,hnc,hcm,hcs,htk⟩:=h.blk (by omega)
 injection hg with hg
 injection hg with hg
 subst hg
 refine Ow.mk_ (by rw [List.length_set];exact hl) hB (hb.set_ j v) hle hcm (by simpa using hcs) ?_
 rw [Array.toList_setIfInBounds,List.take_set,htk]
theorem OwI.apart {lo hi B T T' sz sz' n n' c c':Nat} {A A':Option Addr} {w w':World} {vs vs':List Value} (h:OwI lo hi w T sz A n c vs) (k:Ow B w T' sz' A' n' c' vs') (hne:T≠T') (hg:w.grownBy w' (ownB A' c')):OwI lo hi w' T sz A n c vs :=
 h.keep fun g ha hc=>hg.block g (h.lt ha hc).2.2 (by
  intro e
  rcases Nat.eq_zero_or_pos c' with h0|h0
  ·rw [h0] at e;simp [ownB] at e
  ·obtain ⟨g1,_,e1,_,hb1,_⟩:=h.ow.blk hc
   obtain ⟨g2,_,e2,_,hb2,_⟩:=k.blk h0
   rw [e1] at ha
   injection ha with ha
   unfold ownB at e
   rw [if_neg (by omega),e2] at e
   injection e with e
   simp only at ha e
   subst ha
   rw [e] at hb1
   exact Blk.ne_ hb1 hb2 hne rfl)
theorem OwI.apartB {lo hi T sz n c:Nat} {A:Option Addr} {o:Option Nat} {w w':World} {vs:List Value} (h:OwI lo hi w T sz A n c vs) (hd:∀ b ∈ (ownB A c).toList,b ∉ o.toList) (hg:w.grownBy w' o):OwI lo hi w' T sz A n c vs :=
 h.keep fun g ha hc=>hg.block g (h.lt ha hc).2.2 (by
  intro e
  refine hd g ?_ ?_
  ·unfold ownB;rw [if_neg (by omega),ha];simp
  ·rw [← e];simp)
theorem Frm.of_own {lo hi T sz n c:Nat} {A:Option Addr} {w w':World} {vs:List Value} (h:OwI lo hi w T sz A n c vs) (hg:w.grownBy w' (ownB A c)):Frm lo hi w w' :=
 ⟨hg.os,hg.tape,hg.output,hg.size,fun i hi' ho=>hg.block i hi' (by
  intro e
  unfold ownB at e
  split at e
  ·cases e
  ·have:=h.lt e.symm (by omega)
   omega)⟩
section
variable {lo hi:Nat} {w w':World} {t:Sl} {a b:List Row} {x:Row}
theorem mid_mem {x' y:Row} (h:y ∈ a ++ x' :: b):y=x'∨y ∈ a∨y ∈ b:=by
 rcases List.mem_append.1 h with h|h
 ·exact .inr (.inl h)
 ·rcases List.mem_cons.1 h with h|h
  ·exact .inl h
  ·exact .inr (.inr h)
theorem boxBlks_mid (a b:List Row) (x:Row):boxBlks (a ++ x :: b)=boxBlks a ++ ((blkOf x.1.w ++ blkOf x.1.g) ++ boxBlks b):=by simp [boxBlks]
theorem entBlks_mid (a b:List Row) (x:Row):entBlks (a ++ x :: b)=entBlks a ++ (blkOf x.1.b ++ entBlks b):=by simp [entBlks]
end
end Go.Proofs.YtkgfmgajhgfgjaaGreatDoor
namespace Go.Proofs.YtkgfmgajhgfgjaaGreatDoor
open Go.RowKit Go.Sort
noncomputable def hashesW (l:Lvl) (xs:List Inp):List Int:=if okW l xs then (List.range (xs.length / 5)).map (fun j=>carHash (runW l xs (5 * (j+1)))) else []
def IntsPost (B:Nat) (zs:List Int) (w:World) (e:Ending) (w':World):Prop :=
 ∃ (A:Option Addr) (c:Nat),e=.returned (.slice A zs.length c)∧Ow B w' 3 1 A zs.length c (cellsI zs)∧Below B w w'
set_option maxRecDepth 100000 in
set_option maxHeartbeats 4000000 in
theorem specRunHashes_any (l:Lvl) (ws gs:Sl) (A:Option Addr) (n c:Nat) (xs:List Inp) (w:World) (hl:RdL w l ws gs) (hr:RdN w A n xs) (hn:n≤1048576) :
  Calls Tryz.prog 59 #[lvlV l ws gs,.slice A n c] w (IntsPost w.heap.size (hashesW l xs) w):=by
 obtain ⟨i0,hi0,hy0,hy1,hy2⟩:=info_parts infoZ
 have HI:=Lib.hid hi0
 have HZ:=Lib.hid hy0
 have HS:=Lib.hid hy1
 have HBY:=Lib.hid hy2
 clear hi0 hy0 hy1 hy2
 have HL:=Lib.hid hl
 have HR:=Lib.hid hr
 clear hl hr
 go_enter Tryz.func59,Tryz.ntmps59
 go_wp2_with fail
 go_loopw [5,6] (fun out i wr=>∃ (k:Nat) (A':Option Addr) (c':Nat),5 * k≤n∧i=.int .i64 (5 * (k+1):Nat)∧out=.slice A' k c'∧Hid (Below w.heap.size w wr∧Blk wr w.heap.size 29 (lvlC l ws gs)∧Ow (w.heap.size+1) wr 3 1 A' k c' (cellsI ((List.range k).map fun j=>carHash (runW l xs (5 * (j+1)))))∧(0<k→okW l xs=true))) (fun _ i _=>n+5 - (intOf i).toNat)
 case atStart=>exact ⟨0,_,0,by omega,rfl,rfl,by go_grown,(Blk.new _ _ _).alloc _,Ow.bare _ _ _ _ _,by omega⟩
 case round =>
  obtain ⟨k,A',c',hk,rfl,rfl,HH⟩:=hrel
  obtain ⟨HB,KL,HOW,HOK⟩:=HH.out
  replace HB:=Lib.hid HB
  replace KL:=Lib.hid KL
  replace HOW:=Lib.hid HOW
  replace HOK:=Lib.hid HOK
  clear HH
  obtain ⟨K5,hK5⟩:∃ K5:Nat,K5=5 * (k+1):=⟨_,rfl⟩
  rw [← hK5]
  have HK5:=Lib.hid hK5
  have hKb:K5≤n+5:=by omega
  clear hK5
  by_cases hlt:K5≤n
  ·have hlt':decide ((K5:Int)≤(n:Int))=true:=by simp;omega
   have cl:=fun o=>KL.out.cell o
   have fl:=fun o=>KL.out.frozen o
   have zl:=KL.out.lt
   go_wp2_with fail
   refine (l21Ok_any l ws gs A n c xs _ (HL.out.below HB.out) (HR.out.below HB.out) hn).mono ?_
   rintro e w1 ⟨rfl,hb⟩
   replace HOW:=Lib.hid (Ow.next HOW.out hb)
   replace KL:=Lib.hid (KL.out.next hb)
   replace HB:=Lib.hid (below_next HB.out hb)
   clear hb cl fl zl
   cases ho:okW l xs
   ·have hk0:k=0:=by
     rcases Nat.eq_zero_or_pos k with h|h
     ·exact h
     ·have:=HOK.out h;rw [ho] at this;cases this
    have HO:=Lib.hid (show hashesW l xs=[] by simp [hashesW,ho])
    clear ho
    subst hk0
    go_wp2_with fail
    go_ret
    unfold IntsPost
    rw [HO.out]
    exact ⟨A',c',rfl,HOW.out.mono (by omega),HB.out⟩
   ·have HO:=Lib.hid ho
    clear ho
    have cl:=fun o=>KL.out.cell o
    have fl:=fun o=>KL.out.frozen o
    have zl:=KL.out.lt
    go_wp2_with fail
    refine (l21To_any l ws gs A n c K5 xs _ (HL.out.below HB.out) (HR.out.below HB.out) hn hlt (okW_ins HO.out)).mono ?_
    rintro e w2 ⟨rfl,hb⟩
    replace HOW:=Lib.hid (Ow.next HOW.out hb)
    replace KL:=Lib.hid (KL.out.next hb)
    replace HB:=Lib.hid (below_next HB.out hb)
    clear hb cl fl zl
    go_wp2_with fail
    refine (l13Hash_any (runW l xs K5) _).mono ?_
    rintro e w3 ⟨rfl,hb⟩
    replace HOW:=Lib.hid (Ow.next HOW.out hb)
    replace KL:=Lib.hid (KL.out.next hb)
    replace HB:=Lib.hid (below_next HB.out hb)
    clear hb
    obtain ⟨z,hz⟩:∃ z,carHash (runW l xs K5)=z:=⟨_,rfl⟩
    rw [hz]
    have HZK:=Lib.hid hz
    clear hz
    have hzs:=HB.out.size
    have hzl:=KL.out.lt
    go_wp2_with (at_builtin;refine wpList_append_ow _ rfl (.tmp 19) (.tmp 25) _ rfl (w.heap.size+1) 3 i0 _ 1 8 Tryz.underlying33 HI.out HZ.out HS.out HBY.out rfl (by omega) _ k c' _ rfl (HOW.out.alloc _) _ 1 1 (cellsI [z]) rfl (Src.blk (Blk.new _ _ _) rfl) (cellsI_one _) (by unfold maxLen;omega) (by omega) (by simp;omega) ?_;intro A2 c2 w5 hown5 hg5 _;have HO5:=Lib.hid hown5;have HG5:=Lib.hid hg5;clear hown5 hg5)
    have hrow:=HOW.out.alloc (.cells #[.int .i64 z] 3)
    refine ⟨⟨k+1,A2,c2,by have:=HK5.out;omega,by have:=HK5.out;go_num,rfl,?_,?_,?_,fun _=>HO.out⟩,by simp [intOf];omega⟩
    ·exact (hrow.grown HG5.out (HB.out.alloc HB.out.size _) (by omega) (by simp;omega))
    ·exact (KL.out.alloc _).frm (Frm.of_own (lo:=w.heap.size+1) (hi:=(w3.alloc (.cells #[.int .i64 z] 3)).heap.size) (OwI.of hrow) HG5.out) (by omega)
    ·have:=HO5.out
     have hzk:carHash (runW l xs (5 * (k+1)))=z:=by rw [← HK5.out];exact HZK.out
     rw [List.range_succ,List.map_append]
     show Ow _ _ _ 1 _ _ _ (List.map (Value.int .i64) (_ ++ [carHash (runW l xs (5 * (k+1)))]))
     rw [List.map_append,hzk]
     exact this
  ·have hlt':decide ((K5:Int)≤(n:Int))=false:=by simp;omega
   have hres:hashesW l xs=(List.range k).map fun j=>carHash (runW l xs (5 * (j+1))):=by
    unfold hashesW
    cases ho:okW l xs
    ·have hk0:k=0:=by
      rcases Nat.eq_zero_or_pos k with h|h
      ·exact h
      ·have:=HOK.out h;rw [ho] at this;cases this
     subst hk0
     rfl
    ·have hk5:xs.length / 5=k:=by rw [HR.out.len];have:=HK5.out;omega
     rw [hk5]
     rfl
   have HRES:=Lib.hid hres
   clear hres
   go_wp2_with fail
   go_ret
   unfold IntsPost
   rw [HRES.out]
   exact ⟨A',c',by simp,by simpa using HOW.out.mono (by omega),HB.out⟩
end Go.Proofs.YtkgfmgajhgfgjaaGreatDoor
namespace Go.Proofs.YtkgfmgajhgfgjaaGreatDoor
open Go.RowKit Go.Sort
def keyOk (n:Int):Bool:=inR n 0 9999
def hashOk (n:Int):Bool:=inR n 0 1000002
def keyed (keys:List Int) (e:Ent):Bool:=decide (keys[e.1.toNat]?.getD 0≠0)
def prevId (ts:List Trk) (k:Nat):Int:=((ts[k - 1]?).map (·.l.id)).getD 0
def trkOk (S:Svc) (k:Nat):Bool :=
 match S.ts[k]? with
 | none=>true
 | some t=>levelOk t.l && validE t.b && !(decide (0<k) && decide (t.l.id≤prevId S.ts k)) && t.b.all (keyed S.keys)
def validS (S:Svc):Bool :=
 decide (S.keys.length=10) && decide (S.ts.length≤4) && decide (S.tags.length≤12) && S.keys.all keyOk && (List.range S.ts.length).all (trkOk S) && S.tags.all hashOk
theorem validS_len {S:Svc} (h:¬ (S.keys.length=10∧S.ts.length≤4∧S.tags.length≤12)):validS S=false:=by
 unfold validS
 simp only [Bool.and_eq_false_iff,decide_eq_false_iff_not]
 by_cases h1:S.keys.length=10
 ·by_cases h2:S.ts.length≤4
  ·by_cases h3:S.tags.length≤12
   ·exact absurd ⟨h1,h2,h3⟩ h
   ·exact .inl (.inl (.inl (.inr h3)))
  ·exact .inl (.inl (.inl (.inl (.inr h2))))
 ·exact .inl (.inl (.inl (.inl (.inl h1))))
theorem validS_keys {S:Svc} (h:S.keys.all keyOk=false):validS S=false:=by unfold validS;rw [h];simp
theorem validS_tags {S:Svc} (h:S.tags.all hashOk=false):validS S=false:=by unfold validS;rw [h];simp
theorem validS_trk {S:Svc} {k:Nat} (hk:k<S.ts.length) (h:trkOk S k=false):validS S=false:=by
 have:(List.range S.ts.length).all (trkOk S)=false:=by
  rw [List.all_eq_false]
  exact ⟨k,List.mem_range.2 hk,by simp [h]⟩
 unfold validS
 rw [this];simp
theorem validS_true {S:Svc} (h1:S.keys.length=10) (h2:S.ts.length≤4) (h3:S.tags.length≤12) (h4:S.keys.all keyOk=true) (h5:∀ k,k<S.ts.length→trkOk S k=true) (h6:S.tags.all hashOk=true):validS S=true:=by
 have:(List.range S.ts.length).all (trkOk S)=true:=by
  rw [List.all_eq_true]
  exact fun k hk=>h5 k (List.mem_range.1 hk)
 unfold validS
 rw [this,h4,h6]
 simp [h1,h2,h3]
theorem validS_of {S:Svc} (h:validS S=true):S.keys.length=10∧S.ts.length≤4∧S.tags.length≤12∧S.keys.all keyOk=true∧(∀ k,k<S.ts.length→trkOk S k=true)∧S.tags.all hashOk=true:=by
 unfold validS at h
 simp only [Bool.and_eq_true,decide_eq_true_eq,List.all_eq_true] at h
 obtain ⟨⟨⟨⟨⟨h1,h2⟩,h3⟩,h4⟩,h5⟩,h6⟩:=h
 exact ⟨h1,h2,h3,List.all_eq_true.2 h4,fun k hk=>h5 k (List.mem_range.2 hk),List.all_eq_true.2 h6⟩
theorem trkOk_some {S:Svc} {k:Nat} {t:Trk} (h:S.ts[k]?=some t):trkOk S k=(levelOk t.l && validE t.b && !(decide (0<k) && decide (t.l.id≤prevId S.ts k)) && t.b.all (keyed S.keys)):=by simp [trkOk,h]
theorem all_drop {α:Type} {p:α→Bool} {xs:List α} {k:Nat} {x:α} (h:xs[k]?=some x):(xs.drop k).all p=(p x && (xs.drop (k+1)).all p):=by
 obtain ⟨hk',he⟩:=List.getElem?_eq_some_iff.1 h
 rw [List.drop_eq_getElem_cons hk',he];rfl
end Go.Proofs.YtkgfmgajhgfgjaaGreatDoor
namespace Go.Proofs.YtkgfmgajhgfgjaaGreatDoor
open Go.RowKit Go.Sort
set_option maxHeartbeats 400000 in
theorem l23Hash_any (n:Int) (w:World) :
  Calls Tryz.prog 86 #[.int .i64 n] w fun e w'=>e=.returned (.bool (hashOk n))∧w=w':=by
 go_enter Tryz.func86,Tryz.ntmps86
 go_wp2_with fail
 refine (l6In_any _ _ _ _).mono ?_
 rintro e w' ⟨rfl,rfl⟩
 go_wp2_with fail
 go_ret
 exact ⟨rfl,rfl⟩
set_option maxRecDepth 100000 in
set_option maxHeartbeats 8000000 in
theorem specServiceValid_any (t k g:Sl) (S:Svc) (w:World) (hr:RdS w t k g S) :
  Calls Tryz.prog 28 #[svV t k g] w fun e w'=>e=.returned (.bool (validS S))∧Below w.heap.size w w':=by
 obtain ⟨⟨xs,hxs,hts⟩,hk,hg,⟨_,hn1⟩,⟨_,hn2⟩,_,hn3⟩:=hr
 have hlt:xs.length=t.n:=hts.1.len
 have hlk:=hk.len
 have hlg:=hg.len
 have hxl:S.ts.length=t.n:=by rw [← hxs,List.length_map,hlt]
 by_cases hb:S.keys.length=10∧S.ts.length≤4∧S.tags.length≤12
 rotate_left
 ·have HV:=Lib.hid (validS_len hb)
  rw [hlk,hxl,hlg] at hb
  clear hts hk hg hxs
  by_cases h1:k.n=10
  ·have h1':(k.n:Int)=10:=by omega
   by_cases h2:t.n≤4
   ·have h2':¬ (4:Int)<t.n:=by omega
    have h3':(12:Int)<g.n:=by omega
    clear hb h1 hlt hlk hlg hxl
    go_enter Tryz.func28,Tryz.ntmps28
    go_wp2
    go_ret
    exact ⟨ret_bool HV.out.symm,by go_grown⟩
   ·have h2':(4:Int)<t.n:=by omega
    clear hb h1 hlt hlk hlg hxl
    go_enter Tryz.func28,Tryz.ntmps28
    go_wp2
    go_ret
    exact ⟨ret_bool HV.out.symm,by go_grown⟩
  ·have h1':((k.n:Int) != 10)=true:=by simp;omega
   clear hb h1 hlt hlk hlg hxl
   go_enter Tryz.func28,Tryz.ntmps28
   go_wp2
   go_ret
   exact ⟨ret_bool HV.out.symm,by go_grown⟩
 ·obtain ⟨b1,b2,b3⟩:=hb
  have hq1:k.n=10:=by omega
  have hq2:t.n≤4:=by omega
  have hq3:g.n≤12:=by omega
  have h1':((k.n:Int) != 10)=false:=by simp;omega
  have h2':¬ (4:Int)<t.n:=by omega
  have h3':¬ (12:Int)<g.n:=by omega
  have HXS:=Lib.hid hxs
  have HTS:=Lib.hid hts
  have HK:=Lib.hid hk
  have HG:=Lib.hid hg
  have HXL:=Lib.hid hxl
  have HL1:=Lib.hid b1
  have HL2:=Lib.hid b2
  have HL3:=Lib.hid b3
  have HQ1:=Lib.hid hq1
  have hq1l:k.n≤10:=by omega
  clear hxs hts hk hg hxl b1 b2 b3 hlt hlk hlg hn1 hn2 hn3 hq1
  go_enter Tryz.func28,Tryz.ntmps28
  go_wp2
  have hw1:Below w.heap.size w (w.alloc (.cells #[.slice t.a t.n t.c,.slice k.a k.n k.c,.slice g.a g.n g.c] 42)):=(Below.refl _ _).alloc (Nat.le_refl _) _
  have HK1:=Lib.hid (HK.out.below hw1)
  have HW1:=Lib.hid hw1
  have HBL:=Lib.hid (Blk.new w 42 #[.slice t.a t.n t.c,.slice k.a k.n k.c,.slice g.a g.n g.c])
  clear hw1
  go_loop [3] (fun i=>∃ j:Nat,j≤k.n∧i=.int .i64 j∧Hid (S.keys.all keyOk=(S.keys.drop j).all keyOk)) (fun i=>k.n - (intOf i).toNat)
  case atStart=>exact ⟨0,Nat.zero_le _,rfl,rfl⟩
  case round =>
   obtain ⟨j,hj,rfl,HF⟩:=hrel
   by_cases hlt:j<k.n
   ·obtain ⟨b,off,z,hA,hbb,hz,hc⟩:=HK.out.at_ hlt
    have HA:=Lib.hid hA
    rw [hA]
    have HST:=Lib.hid (all_drop (p:=keyOk) hz)
    clear hz hA
    go_wp2_with fail
    refine (l6In_any _ _ _ _).mono ?_
    rintro e w' ⟨rfl,rfl⟩
    cases ho:inR z 0 9999
    ·have HO:=Lib.hid (show keyOk z=false from ho)
     clear ho
     go_wp2_with fail
     go_ret
     exact ⟨ret_bool (validS_keys (by rw [HF.out,HST.out,HO.out];rfl)).symm,by go_grown⟩
    ·have HO:=Lib.hid (show keyOk z=true from ho)
     clear ho
     go_wp2_with fail
     go_round
     case rel=>exact ⟨j+1,by omega,by go_num,by show _=_;rw [HF.out,HST.out,HO.out];rfl⟩
     case measure=>simp [intOf];omega
   ·have HKO:Hid (S.keys.all keyOk=true):=by
     show _=_
     rw [HF.out,List.drop_of_length_le (by rw [HL1.out];have:=HQ1.out;omega)];rfl
    clear HF
    go_wp2_with fail
    go_loopw [4,5,6] (fun i _ _ wr=>∃ j:Nat,j≤t.n∧i=.int .i64 j∧Hid (Below w.heap.size w wr∧Blk wr w.heap.size 42 #[.slice t.a t.n t.c,.slice k.a k.n k.c,.slice g.a g.n g.c]∧∀ q,q<j→trkOk S q=true)) (fun i _ _ _=>t.n - (intOf i).toNat)
    case atStart=>exact ⟨0,Nat.zero_le _,rfl,HW1.out,HBL.out,fun q hq=>absurd hq (by omega)⟩
    case round =>
     obtain ⟨j,hj,rfl,HB⟩:=hrel
     obtain ⟨wo,rfl⟩:∃ wo:World,wo=wr:=⟨_,rfl⟩
     have s0:wo.cell? ⟨w.heap.size,0,none⟩=some (.slice t.a t.n t.c):=HB.out.2.1.cell 0
     by_cases hlt2:j<t.n
     ·obtain ⟨b,off,x,hA,hbb,hx,hrt,e0,e1,e2,e3,e4,e5,e6,e7,e8,e9,e10,e11⟩:=RdTs.cells (HTS.out.below HB.out.1) hlt2
      have HA:=Lib.hid hA
      rw [hA] at s0
      have hS:S.ts[j]?=some x.2:=by rw [← HXS.out,List.getElem?_map,hx];rfl
      have HTR:=Lib.hid (trkOk_some hS)
      have HRT:=Lib.hid hrt
      clear hA hS
      go_upto_region 12 with (fail)
      have HAL:=Lib.hid ((Below.refl wo.heap.size wo).alloc (Nat.le_refl _) (.cells (encT x).toArray 65))
      have hTB:=Blk.new wo 65 (encT x).toArray
      generalize hWT:wo.alloc (.cells (encT x).toArray 65)=WT at HAL hTB
      have HRT:=Lib.hid (hrt.below HAL.out)
      have HTSW:=Lib.hid ((HTS.out.below HB.out.1).below HAL.out)
      have HTB:=Lib.hid hTB
      have HSB:=Lib.hid (HB.out.2.1.next HAL.out)
      have HWT:=Lib.hid hWT
      clear hTB hrt hWT
      show Code.wp _ _ _ _ (wo.alloc (.cells (encT x).toArray 65))
      rw [HWT.out]
      have hz:wo.heap.size<WT.heap.size:=HTB.out.lt
      have t0:WT.cell? ⟨wo.heap.size,0,none⟩=some (.int .i64 x.2.l.id):=HTB.out.cell 0
      have t1:WT.cell? ⟨wo.heap.size,1,none⟩=some (.int .i64 x.2.l.ticks):=HTB.out.cell 1
      have t2:WT.cell? ⟨wo.heap.size,2,none⟩=some (.int .i64 x.2.l.sx):=HTB.out.cell 2
      have t3:WT.cell? ⟨wo.heap.size,3,none⟩=some (.int .i64 x.2.l.sy):=HTB.out.cell 3
      have t4:WT.cell? ⟨wo.heap.size,4,none⟩=some (.slice x.1.w.a x.1.w.n x.1.w.c):=HTB.out.cell 4
      have t5:WT.cell? ⟨wo.heap.size,5,none⟩=some (.slice x.1.g.a x.1.g.n x.1.g.c):=HTB.out.cell 5
      have t6:WT.cell? ⟨wo.heap.size,6,none⟩=some (.int .i64 x.2.l.f.1):=HTB.out.cell 6
      have t7:WT.cell? ⟨wo.heap.size,7,none⟩=some (.int .i64 x.2.l.f.2.1):=HTB.out.cell 7
      have t8:WT.cell? ⟨wo.heap.size,8,none⟩=some (.int .i64 x.2.l.f.2.2.1):=HTB.out.cell 8
      have t9:WT.cell? ⟨wo.heap.size,9,none⟩=some (.int .i64 x.2.l.f.2.2.2):=HTB.out.cell 9
      have t10:WT.cell? ⟨wo.heap.size,10,none⟩=some (.int .i64 x.2.l.bans):=HTB.out.cell 10
      have t11:WT.cell? ⟨wo.heap.size,11,none⟩=some (.slice x.1.b.a x.1.b.n x.1.b.c):=HTB.out.cell 11
      clear s0 e0 e1 e2 e3 e4 e5 e6 e7 e8 e9 e10 e11
      have s0:WT.cell? ⟨w.heap.size,0,none⟩=some (.slice (some ⟨b,off,none⟩) t.n t.c):=by rw [← HA.out];exact HSB.out.cell 0
      have hbn:=HRT.out.2.2.2
      have hbn2:=HRT.out.2.2.1
      go_cut [77] (fun s77 wx=>s77=.bool (!(levelOk x.2.l && validE x.2.b && !(decide (0<j) && decide (x.2.l.id≤prevId S.ts j))))∧Hid (Below WT.heap.size WT wx))
      case first =>
       have t0':=fun d os=>cell_regrown t0 d os
       have t1':=fun d os=>cell_regrown t1 d os
       have t2':=fun d os=>cell_regrown t2 d os
       have t3':=fun d os=>cell_regrown t3 d os
       have t4':=fun d os=>cell_regrown t4 d os
       have t5':=fun d os=>cell_regrown t5 d os
       have t6':=fun d os=>cell_regrown t6 d os
       have t7':=fun d os=>cell_regrown t7 d os
       have t8':=fun d os=>cell_regrown t8 d os
       have t9':=fun d os=>cell_regrown t9 d os
       have t10':=fun d os=>cell_regrown t10 d os
       have t11':=fun d os=>cell_regrown t11 d os
       have s0':=fun d os=>cell_regrown s0 d os
       cases hlo:levelOk x.2.l with
       | false =>
        have HLO:=Lib.hid hlo
        clear hlo
        refine wp_region_qb (by kernel_rfl) (by kernel_rfl) ?_
        repeat (go_big_quiet_step (first|(go_at_call 84;exact Calls.regrown_of ((specLevelValid_any x.2.l x.1.w x.1.g _ (HRT.out.1.below (below_regrown _ _ _))).mono fun e w' h=>by rw [HLO.out] at h;exact h))))
        refine wpQuiet_nil ?_
        intro w5 hb5
        go_wp2_with fail
        go_meet
        exact ⟨by simp [HLO.out],hb5⟩
       | true =>
        have HLO:=Lib.hid hlo
        clear hlo
        cases hbo:validE x.2.b with
        | false =>
         have HBO:=Lib.hid hbo
         clear hbo
         refine wp_region_qb (by kernel_rfl) (by kernel_rfl) ?_
         repeat (go_big_quiet_step (first|(go_at_call 84;exact Calls.regrown_of ((specLevelValid_any x.2.l x.1.w x.1.g _ (HRT.out.1.below (below_regrown _ _ _))).mono fun e w' h=>by rw [HLO.out] at h;exact h))|(go_at_call 85;exact Calls.regrown_of ((specBoardValid_v _ _ _ _ _ (HRT.out.2.1.below (below_regrown _ _ _)) (by omega)).mono fun e w' h=>by rw [HBO.out] at h;exact h))))
         refine wpQuiet_nil ?_
         intro w5 hb5
         go_wp2_with fail
         go_meet
         exact ⟨by simp [HBO.out],hb5⟩
        | true =>
         have HBO:=Lib.hid hbo
         clear hbo
         by_cases hj0:0<j
         ·obtain ⟨b',off',y,hA',_,hy,_,p0,_⟩:=RdTs.cells HTSW.out (k:=j - 1) (by omega)
          obtain ⟨rfl,rfl⟩:b=b'∧off=off':=by rw [HA.out] at hA';simpa using hA'
          have hpv:prevId S.ts j=y.2.l.id:=by unfold prevId;rw [← HXS.out,List.getElem?_map,hy];rfl
          have HPV:=Lib.hid hpv
          have p0':=fun d os=>cell_regrown p0 d os
          have q1:IntKind.i64.wrap ((j:Int) - 1)=(j:Int) - 1:=IntWalk.i64_in _ (by omega)
          have q2:(0:Int)≤(j:Int) - 1:=by omega
          have q3:((j:Int) - 1).toNat=j - 1:=by omega
          have q4:(j:Int) - 1<t.n:=by omega
          clear hA' hy hpv p0
          by_cases hs:x.2.l.id≤y.2.l.id
          ·refine wp_region_qb (by kernel_rfl) (by kernel_rfl) ?_
           repeat (go_big_quiet_step (first|(go_at_call 84;exact Calls.regrown_of ((specLevelValid_any x.2.l x.1.w x.1.g _ (HRT.out.1.below (below_regrown _ _ _))).mono fun e w' h=>by rw [HLO.out] at h;exact h))|(go_at_call 85;exact Calls.regrown_of ((specBoardValid_v _ _ _ _ _ (HRT.out.2.1.below (below_regrown _ _ _)) (by omega)).mono fun e w' h=>by rw [HBO.out] at h;exact h))))
           refine wpQuiet_nil ?_
           intro w5 hb5
           go_wp2_with fail
           go_meet
           exact ⟨by simp [HPV.out,hj0,hs],hb5⟩
          ·have hsb:decide (x.2.l.id≤y.2.l.id)=false:=by simpa using hs
           refine wp_region_qb (by kernel_rfl) (by kernel_rfl) ?_
           repeat (go_big_quiet_step (first|(go_at_call 84;exact Calls.regrown_of ((specLevelValid_any x.2.l x.1.w x.1.g _ (HRT.out.1.below (below_regrown _ _ _))).mono fun e w' h=>by rw [HLO.out] at h;exact h))|(go_at_call 85;exact Calls.regrown_of ((specBoardValid_v _ _ _ _ _ (HRT.out.2.1.below (below_regrown _ _ _)) (by omega)).mono fun e w' h=>by rw [HBO.out] at h;exact h))))
           refine wpQuiet_nil ?_
           intro w5 hb5
           go_wp2_with fail
           go_meet
           exact ⟨by simp [HLO.out,HBO.out,HPV.out,hsb],hb5⟩
         ·refine wp_region_qb (by kernel_rfl) (by kernel_rfl) ?_
          repeat (go_big_quiet_step (first|(go_at_call 84;exact Calls.regrown_of ((specLevelValid_any x.2.l x.1.w x.1.g _ (HRT.out.1.below (below_regrown _ _ _))).mono fun e w' h=>by rw [HLO.out] at h;exact h))|(go_at_call 85;exact Calls.regrown_of ((specBoardValid_v _ _ _ _ _ (HRT.out.2.1.below (below_regrown _ _ _)) (by omega)).mono fun e w' h=>by rw [HBO.out] at h;exact h))))
          refine wpQuiet_nil ?_
          intro w5 hb5
          go_wp2_with fail
          go_meet
          exact ⟨by simp [HLO.out,HBO.out,hj0],hb5⟩
      case rest =>
       obtain ⟨rfl,HBC⟩:=hcut
       have HW5:=Lib.hid (below_next HB.out.1 (ba (by rw [HWT.out];exact HBC.out)))
       have HSB5:=Lib.hid (HSB.out.next HBC.out)
       have HTB5:=Lib.hid (HTB.out.next HBC.out)
       have HRB5:=Lib.hid (HRT.out.2.1.below HBC.out)
       have HK5:=Lib.hid (HK.out.below HW5.out)
       clear t0 t1 t2 t3 t4 t5 t6 t7 t8 t9 t10 t11 s0 HBC HRT HTSW HTB HSB HWT HAL
       cases hob:(levelOk x.2.l && validE x.2.b && !(decide (0<j) && decide (x.2.l.id≤prevId S.ts j)))
       ·have hv:validS S=false:=validS_trk (k:=j) (by rw [HXL.out];exact hlt2) (by rw [HTR.out,hob];rfl)
        have HV:=Lib.hid hv
        clear hv hob
        go_wp2
        go_ret
        exact ⟨ret_bool HV.out.symm,HW5.out⟩
       ·have hvb:validE x.2.b=true:=by
         simp only [Bool.and_eq_true] at hob
         exact hob.1.2
        have HVB:=Lib.hid hvb
        have HOB:=Lib.hid hob
        clear hvb hob
        go_wp2_with fail
        go_loopw [6] (fun i wr=>∃ q:Nat,q≤x.1.b.n∧i=.int .i64 q∧Hid (Below wc.heap.size wc wr∧x.2.b.all (keyed S.keys)=(x.2.b.drop q).all (keyed S.keys))) (fun i _=>x.1.b.n - (intOf i).toNat)
        case atStart=>exact ⟨0,Nat.zero_le _,rfl,Below.refl _ _,rfl⟩
        case round =>
         obtain ⟨q,hq,rfl,HC⟩:=hrel
         have HSBr:=Lib.hid (HSB5.out.next HC.out.1)
         have HTBr:=Lib.hid (HTB5.out.next HC.out.1)
         have u11:wr.cell? ⟨wo.heap.size,11,none⟩=some (.slice x.1.b.a x.1.b.n x.1.b.c):=HTBr.out.cell 11
         by_cases hlt3:q<x.1.b.n
         ·obtain ⟨b2,off2,e,hA2,hb2,he,f0,f1⟩:=(HRB5.out.below HC.out.1).at_ hlt3
          have heo:=okE_bd (validE_ok HVB.out he)
          obtain ⟨p,hp⟩:=Int.eq_ofNat_of_zero_le heo.1
          have hp9:p<k.n:=by have:=HQ1.out;omega
          obtain ⟨b3,off3,z,hA3,hb3,hz,hc3⟩:=(HK5.out.below HC.out.1).at_ hp9
          have hky:keyed S.keys e=decide (z≠0):=by unfold keyed;rw [hp,Int.toNat_natCast,hz];rfl
          have HKY:=Lib.hid hky
          have HST:=Lib.hid (all_drop (p:=keyed S.keys) he)
          have u1:wr.cell? ⟨w.heap.size,1,none⟩=some (.slice k.a k.n k.c):=HSBr.out.cell 1
          rw [hA2] at u11
          rw [hA3] at u1
          rw [hp] at f0
          have u11':=fun d os=>cell_regrown u11 d os
          have u1':=fun d os=>cell_regrown u1 d os
          have f0':=fun d os=>cell_regrown f0 d os
          have hc3':=fun d os=>cell_regrown hc3 d os
          have hp9':(p:Int)<k.n:=by omega
          clear he hz hky hA2 hA3 hp heo f0 f1 hc3 u1
          go_upto_region 17 with (fail)
          go_cut [95] (fun s95 wx=>s95=.bool (decide (z=0))∧Hid (Below wr.heap.size wr wx))
          case first =>
           clear u11
           refine wp_region_qb (by kernel_rfl) (by kernel_rfl) ?_
           repeat (go_big_quiet_step (fail))
           refine wpQuiet_nil ?_
           intro w6 hb6
           go_wp2_with fail
           go_meet
           exact ⟨rfl,hb6⟩
          case rest =>
           obtain ⟨rfl,HBD⟩:=hcut
           clear u11 u11' u1' f0' hc3'
           by_cases hz0:z=0
           ·have hv:validS S=false:=validS_trk (k:=j) (by rw [HXL.out];exact hlt2) (by rw [HTR.out,HC.out.2,HST.out,HKY.out];simp [hz0])
            have HV:=Lib.hid hv
            subst hz0
            clear hv
            go_wp2
            go_ret
            exact ⟨ret_bool HV.out.symm,below_next (below_next HW5.out HC.out.1) HBD.out⟩
           ·have HKT:=Lib.hid (show keyed S.keys e=true by rw [HKY.out];simpa using hz0)
            go_wp2
            exact ⟨⟨q+1,by omega,by go_num,below_next HC.out.1 HBD.out,by rw [HC.out.2,HST.out,HKT.out];rfl⟩,by simp [intOf];omega⟩
         ·have hv:trkOk S j=true:=by
           rw [HTR.out,HOB.out,HC.out.2,List.drop_of_length_le (by rw [HRB5.out.len];omega)];rfl
          have HV:=Lib.hid hv
          clear hv
          go_wp2
          exact ⟨⟨j+1,by omega,by go_num,below_next HW5.out HC.out.1,HSBr.out,fun q hq=>by
           by_cases hqj:q=j
           ·rw [hqj];exact HV.out
           ·exact HB.out.2.2 q (by omega)⟩,by simp [intOf];omega⟩
     ·have HKT:Hid (∀ q,q<S.ts.length→trkOk S q=true):=fun q hq=>HB.out.2.2 q (by rw [HXL.out] at hq;omega)
      have HGr:=Lib.hid (HG.out.below HB.out.1)
      have HB1:=Lib.hid HB.out.1
      have HB2:=Lib.hid HB.out.2.1
      clear HB
      go_wp2_with fail
      clear s0
      go_loop [7] (fun i=>∃ q:Nat,q≤g.n∧i=.int .i64 q∧Hid (S.tags.all hashOk=(S.tags.drop q).all hashOk)) (fun i=>g.n - (intOf i).toNat)
      case atStart=>exact ⟨0,Nat.zero_le _,rfl,rfl⟩
      case round =>
       obtain ⟨q,hq,rfl,HF⟩:=hrel
       have u2:wo.cell? ⟨w.heap.size,2,none⟩=some (.slice g.a g.n g.c):=HB2.out.cell 2
       by_cases hlt3:q<g.n
       ·obtain ⟨b,off,z,hA,hbb,hz,hc⟩:=HGr.out.at_ hlt3
        have HA:=Lib.hid hA
        rw [hA] at u2
        have HST:=Lib.hid (all_drop (p:=hashOk) hz)
        clear hz hA
        go_wp2_with fail
        refine (l23Hash_any _ _).mono ?_
        rintro e w' ⟨rfl,rfl⟩
        cases ho:hashOk z
        ·have HO:=Lib.hid ho
         clear ho
         go_wp2_with fail
         go_ret
         exact ⟨ret_bool (validS_tags (by rw [HF.out,HST.out,HO.out];rfl)).symm,HB1.out⟩
        ·have HO:=Lib.hid ho
         clear ho
         go_wp2_with fail
         go_round
         case rel=>exact ⟨q+1,by omega,by go_num,by show _=_;rw [HF.out,HST.out,HO.out];rfl⟩
         case measure=>simp [intOf];omega
       ·go_wp2_with fail
        go_ret
        exact ⟨ret_bool (validS_true HL1.out HL2.out HL3.out HKO.out HKT.out (by rw [HF.out,List.drop_of_length_le (by rw [HGr.out.len];omega)];rfl)).symm,HB1.out⟩
end Go.Proofs.YtkgfmgajhgfgjaaGreatDoor

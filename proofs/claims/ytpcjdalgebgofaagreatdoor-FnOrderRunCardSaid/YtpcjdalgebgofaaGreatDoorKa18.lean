/-
  Lemmas and contracts: YWg. No condition.
-/
import Derived.Test.YtpcjdalgebgofaaGreatDoorKa15
import Derived.Test.YtpcjdalgebgofaaGreatDoorKa16
import Derived.Test.YtpcjdalgebgofaaGreatDoorKa17
set_option linter.unusedSimpArgs false
set_option linter.unusedVariables false
set_option linter.unusedSectionVars false
namespace Go.Proofs.YtpcjdalgebgofaaGreatDoorY
open Go.RowKit Go.Sort
def legI (l:Lvl) (xs:List Inp):Int:=if levelOk l then legalW l xs else 0
theorem levelOk_bans {l:Lvl} (h:levelOk l=true):0≤l.bans∧l.bans≤3:=by
 simp [levelOk,inR] at h
 omega
set_option maxRecDepth 100000 in
set_option maxHeartbeats 4000000 in
theorem implInputsLegal_any (l:Lvl) (ws gs:Sl) (A:Option Addr) (n c:Nat) (xs:List Inp) (w:World) (hl:RdL w l ws gs) (hr:RdN w A n xs) (hn:n≤1048576) :
  Calls Qy.prog 16 #[lvlV l ws gs,.slice A n c] w fun e w'=>e=.returned (.int .i64 (legI l xs))∧Below w.heap.size w w':=by
 have HL:=Lib.hid hl
 have HR:=Lib.hid hr
 clear hl hr
 go_enter Qy.func16,Tryz.ntmps16
 go_wp2_with fail
 refine (implLevelValid_any l ws gs _ (HL.out.below (ba (Below.refl _ _)))).mono ?_
 rintro e w1 ⟨rfl,hb⟩
 have KL:=Lib.hid ((Blk.new w 29 (lvlC l ws gs)).next hb)
 have HB:=Lib.hid (ba hb)
 clear hb
 cases hok:levelOk l
 ·have HE:=Lib.hid (show legI l xs=0 by unfold legI;rw [hok];rfl)
  clear hok
  go_wp2_with fail
  go_ret
  exact ⟨ret_int HE.out.symm,HB.out⟩
 have HLE:=Lib.hid (show legI l xs=legalW l xs by unfold legI;rw [hok];rfl)
 have HBN:=Lib.hid (levelOk_bans hok)
 clear hok
 go_wp2_with fail
 go_loopw [5,6,14] (fun ps ss i wr=>∃ (k:Nat) (p:Int) (b:Inp),k≤n∧i=.int .i64 k∧ps=.int .i64 p∧ss=.int .i64 b.s∧0≤p∧p≤k∧Hid (Below w.heap.size w wr∧Blk wr w.heap.size 29 (lvlC l ws gs)∧legalW l xs=legalFrom l p b (xs.drop k) k)) (fun _ _ i _=>n - (intOf i).toNat)
 case atStart=>exact ⟨0,0,inp0,Nat.zero_le _,rfl,rfl,rfl,by omega,by omega,HB.out,KL.out,rfl⟩
 case round =>
  obtain ⟨k,p,b,hk,rfl,rfl,rfl,hp0,hp1,HH⟩:=hrel
  obtain ⟨HB2,KL2,HEQ⟩:=HH.out
  clear KL
  have KL:=Lib.hid KL2
  clear KL2
  replace HB2:=Lib.hid HB2
  replace HEQ:=Lib.hid HEQ
  clear HH
  by_cases hlt:k<n
  ·obtain ⟨bb,off,x,hA,hbb,hx,h0,h1,h2⟩:=RdN.cells (HR.out.below HB2.out) hlt
   subst hA
   have HST:=Lib.hid (legal_step (l:=l) hx p b)
   obtain ⟨bs,bp,bz⟩:=b
   obtain ⟨xs',xp,xz⟩:=x
   clear hx
   go_upto_region 7 with (fail)
   refine into_world (fun W=>Below w.heap.size w W∧Blk W w.heap.size 29 (lvlC l ws gs)∧Blk W wr.heap.size 74 #[.int .i64 xs',.int .i64 xp,.bool xz]) ⟨?_,?_,?_⟩ ?_
   ·have hb:=HB2.out
    have hz:=hb.size
    go_grown
   ·exact KL.out.alloc _
   ·exact Blk.new _ _ _
   clear HB2 KL
   rintro W ⟨HB2,KL,KX⟩
   replace HB2:=Lib.hid HB2
   replace KL:=Lib.hid KL
   replace KX:=Lib.hid KX
   have cl:=fun o=>KL.out.cell o
   have fl:=fun o=>KL.out.frozen o
   have zl:=KL.out.lt
   have cx:=fun o=>KX.out.cell o
   have fx:=fun o=>KX.out.frozen o
   have zx:=KX.out.lt
   clear h0 h1 h2
   cases xz
   ·by_cases ht:l.ticks≤(k:Int)
    ·have ht':decide (l.ticks≤(k:Int))=true:=by simpa using ht
     have HE:=Lib.hid (show legalFrom l p ⟨bs,bp,bz⟩ (xs.drop k) k=k by rw [HST.out];simp [ht])
     clear ht
     go_wp2_with fail
     go_ret
     exact ⟨ret_int (by rw [HLE.out,HEQ.out,HE.out]),HB2.out⟩
    ·have ht':decide (l.ticks≤(k:Int))=false:=by simpa using ht
     by_cases hp3:3<p
     ·have hp3':decide (3<p)=true:=by simpa using hp3
      have HE:=Lib.hid (show legalFrom l p ⟨bs,bp,bz⟩ (xs.drop k) k=k by rw [HST.out];simp [hp3])
      clear ht hp3
      go_wp2_with fail
      go_ret
      exact ⟨ret_int (by rw [HLE.out,HEQ.out,HE.out]),HB2.out⟩
     ·have hp3':decide (3<p)=false:=by simpa using hp3
      have HT:=Lib.hid ht
      have HP3:=Lib.hid hp3
      clear ht hp3
      go_wp2_with fail
      refine (follows_any l ws gs ⟨bs,bp,bz⟩ ⟨xs',xp,false⟩ HBN.out _).mono ?_
      rintro e w4 ⟨rfl,hb⟩
      replace KL:=Lib.hid (KL.out.next hb)
      replace KX:=Lib.hid (KX.out.next hb)
      replace HB2:=Lib.hid (below_next HB2.out hb)
      clear cl fl zl cx fx zx hb
      cases hf:followsW l ⟨bs,bp,bz⟩ ⟨xs',xp,false⟩
      ·have HE:=Lib.hid (show legalFrom l p ⟨bs,bp,bz⟩ (xs.drop k) k=k by rw [HST.out];simp [hf])
       clear hf
       go_wp2_with fail
       go_ret
       exact ⟨ret_int (by rw [HLE.out,HEQ.out,HE.out]),HB2.out⟩
      ·have hi:¬ (l.ticks≤(k:Int)∨3<p∨followsW l ⟨bs,bp,bz⟩ ⟨xs',xp,false⟩=false):=by rw [hf];have h1:=HT.out;have h2:=HP3.out;simp;omega
       have HE:=Lib.hid (show legalW l xs=legalFrom l (p) ⟨xs',xp,false⟩ (xs.drop (k+1)) ((k+1:Nat):Int) by rw [HEQ.out,HST.out];exact if_neg hi)
       clear hi hf
       have cx:=fun o=>KX.out.cell o
       have fx:=fun o=>KX.out.frozen o
       have zx:=KX.out.lt
       go_wp2_with fail
       exact ⟨⟨k+1,p,⟨xs',xp,false⟩,by omega,by go_num,rfl,rfl,by omega,by omega,HB2.out,KL.out,HE.out⟩,by simp [intOf];omega⟩
   ·by_cases ht:l.ticks≤(k:Int)
    ·have ht':decide (l.ticks≤(k:Int))=true:=by simpa using ht
     have HE:=Lib.hid (show legalFrom l p ⟨bs,bp,bz⟩ (xs.drop k) k=k by rw [HST.out];simp [ht])
     clear ht
     go_wp2_with fail
     go_ret
     exact ⟨ret_int (by rw [HLE.out,HEQ.out,HE.out]),HB2.out⟩
    ·have ht':decide (l.ticks≤(k:Int))=false:=by simpa using ht
     by_cases hp3:3<(p+1)
     ·have hp3':decide (3<(p+1))=true:=by simpa using hp3
      have HE:=Lib.hid (show legalFrom l p ⟨bs,bp,bz⟩ (xs.drop k) k=k by rw [HST.out];simp [hp3])
      clear ht hp3
      go_wp2_with fail
      go_ret
      exact ⟨ret_int (by rw [HLE.out,HEQ.out,HE.out]),HB2.out⟩
     ·have hp3':decide (3<(p+1))=false:=by simpa using hp3
      have HT:=Lib.hid ht
      have HP3:=Lib.hid hp3
      clear ht hp3
      go_wp2_with fail
      refine (follows_any l ws gs ⟨bs,bp,bz⟩ ⟨xs',xp,true⟩ HBN.out _).mono ?_
      rintro e w4 ⟨rfl,hb⟩
      replace KL:=Lib.hid (KL.out.next hb)
      replace KX:=Lib.hid (KX.out.next hb)
      replace HB2:=Lib.hid (below_next HB2.out hb)
      clear cl fl zl cx fx zx hb
      cases hf:followsW l ⟨bs,bp,bz⟩ ⟨xs',xp,true⟩
      ·have HE:=Lib.hid (show legalFrom l p ⟨bs,bp,bz⟩ (xs.drop k) k=k by rw [HST.out];simp [hf])
       clear hf
       go_wp2_with fail
       go_ret
       exact ⟨ret_int (by rw [HLE.out,HEQ.out,HE.out]),HB2.out⟩
      ·have hi:¬ (l.ticks≤(k:Int)∨3<(p+1)∨followsW l ⟨bs,bp,bz⟩ ⟨xs',xp,true⟩=false):=by rw [hf];have h1:=HT.out;have h2:=HP3.out;simp;omega
       have HE:=Lib.hid (show legalW l xs=legalFrom l ((p+1)) ⟨xs',xp,true⟩ (xs.drop (k+1)) ((k+1:Nat):Int) by rw [HEQ.out,HST.out];exact if_neg hi)
       clear hi hf
       have cx:=fun o=>KX.out.cell o
       have fx:=fun o=>KX.out.frozen o
       have zx:=KX.out.lt
       go_wp2_with fail
       exact ⟨⟨k+1,(p+1),⟨xs',xp,true⟩,by omega,by go_num,rfl,rfl,by omega,by omega,HB2.out,KL.out,HE.out⟩,by simp [intOf];omega⟩
  ·have hkn:xs.drop k=[]:=List.drop_of_length_le (by rw [HR.out.len];omega)
   go_wp2
   go_ret
   exact ⟨ret_int (by rw [HLE.out,HEQ.out,hkn];rfl),HB2.out⟩
end Go.Proofs.YtpcjdalgebgofaaGreatDoorY

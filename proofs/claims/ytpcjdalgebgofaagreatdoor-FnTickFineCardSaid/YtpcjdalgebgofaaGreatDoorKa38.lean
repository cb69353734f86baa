/-
  Lemmas and contracts: YHt. No condition.
-/
import Derived.Test.YtpcjdalgebgofaaGreatDoorKa36
import Derived.Test.YtpcjdalgebgofaaGreatDoorKa37
set_option linter.unusedSimpArgs false
set_option linter.unusedVariables false
set_option linter.unusedSectionVars false
namespace Go.Proofs.YtpcjdalgebgofaaGreatDoorY
open Go.RowKit Go.Sort
set_option maxRecDepth 100000 in
set_option maxHeartbeats 8000000 in
theorem walk_tickFine (E:Nat→Addr) (a0:Option Addr) (len0 cap0:Nat) (z0:List Int) (w:World) (hE:Errs E w) (hr:RdI .u8 w a0 len0 z0) (hz:∀ z ∈ z0,0≤z∧z≤255) (hlc:len0≤cap0) (hcm:cap0≤maxLen) :
  Calls Qy.prog 8 #[.slice a0 len0 cap0] w fun e w'=>e=.returned (.bool true)∧Below w.heap.size w w':=by
 by_cases hsz:(1048576:Int)<len0
 ·clear hr hlc hcm hz hE
  go_enter Qy.func8,Tryz.ntmps8
  go_wp2
  go_ret
  exact ⟨rfl,Below.refl _ _⟩
 have H1:=Lib.hid (drawVerifyReplay_any a0 len0 cap0 z0 w hr hz hlc hcm)
 have HEE:=Lib.hid hE
 clear hr hE hz hlc hcm
 go_enter Qy.func8,Tryz.ntmps8
 go_wp2_with fail
 refine H1.out.mono ?_
 rintro e w1 ⟨l,ws,gs,key,r,si,sh,rfl,hl,hrr,hb⟩
 have hz1:=hb.size
 clear H1
 go_upto_region 4 with (fail)
 refine into_world (fun Y=>Below w.heap.size w Y∧Blk Y w1.heap.size 29 (lvlC l ws gs)∧Blk Y (w1.heap.size+1) 33 (repC r si sh)∧RdL Y l ws gs∧RdR Y r si sh) ⟨(hb.alloc hz1 _).alloc (by simp;omega) _,(Blk.new _ _ _).alloc _,Blk.newAt _ _ _ _ (by simp),(hl.below (ba (Below.refl _ _))).below (ba (Below.refl _ _)),(hrr.below (ba (Below.refl _ _))).below (ba (Below.refl _ _))⟩ ?_
 clear hb hl hrr
 rintro Y ⟨HB,KL,KX,HL,HR⟩
 replace HB:=Lib.hid HB
 replace KL:=Lib.hid KL
 replace KX:=Lib.hid KX
 replace HL:=Lib.hid HL
 replace HR:=Lib.hid HR
 replace HEE:=Lib.hid (HEE.out.next HB.out)
 have cl:=fun o=>KL.out.cell o
 have fl:=fun o=>KL.out.frozen o
 have zl:=KL.out.lt
 have cx:=fun o=>KX.out.cell o
 have fx:=fun o=>KX.out.frozen o
 have zx:=KX.out.lt
 go_wp2_with fail
 refine (verifyReplay_any E l ws gs key r si sh _ HEE.out HL.out HR.out).mono ?_
 rintro e w2 ⟨rfl,hb⟩
 replace KL:=Lib.hid (KL.out.next hb)
 replace KX:=Lib.hid (KX.out.next hb)
 replace HL:=Lib.hid (HL.out.below hb)
 replace HR:=Lib.hid (HR.out.below hb)
 replace HEE:=Lib.hid (HEE.out.next hb)
 replace HB:=Lib.hid (below_next HB.out hb)
 clear hb
 clear cl fl zl cx fx zx
 have cl:=fun o=>KL.out.cell o
 have fl:=fun o=>KL.out.frozen o
 have zl:=KL.out.lt
 have cx:=fun o=>KX.out.cell o
 have fx:=fun o=>KX.out.frozen o
 have zx:=KX.out.lt
 go_wp2_with fail
 refine (specVerifyReplay_any l ws gs key r si sh _ HL.out HR.out).mono ?_
 rintro e w3 ⟨rfl,hb⟩
 replace KL:=Lib.hid (KL.out.next hb)
 replace KX:=Lib.hid (KX.out.next hb)
 replace HL:=Lib.hid (HL.out.below hb)
 replace HR:=Lib.hid (HR.out.below hb)
 replace HEE:=Lib.hid (HEE.out.next hb)
 replace HB:=Lib.hid (below_next HB.out hb)
 clear hb
 clear cl fl zl cx fx zx
 have hv:=verd l key r
 generalize verdW l key r=V at *
 by_cases h0:V=0
 ·have HF:=Lib.hid (fine_of hv h0)
  subst h0
  clear hv
  have cl:=fun o=>KL.out.cell o
  have fl:=fun o=>KL.out.frozen o
  have zl:=KL.out.lt
  have cx:=fun o=>KX.out.cell o
  have fx:=fun o=>KX.out.frozen o
  have zx:=KX.out.lt
  go_wp2_with fail
  refine (verifyTick_any l ws gs r si sh _ HL.out HR.out).mono ?_
  rw [HF.out.noTick]
  rintro e w4 ⟨rfl,hb⟩
  replace HB:=Lib.hid (below_next HB.out hb)
  clear hb cl fl zl cx fx zx
  go_wp2_with fail
  go_ret
  exact ⟨ret_bool (by simp),HB.out⟩
 ·have h0':(V == 0)=false:=by simpa using h0
  have h0n:(V != 0)=true:=by simpa using h0
  clear hv h0
  go_wp2_with fail
  go_ret
  exact ⟨ret_bool (by simp),HB.out⟩
end Go.Proofs.YtpcjdalgebgofaaGreatDoorY

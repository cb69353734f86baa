/-
  Lemmas and contracts: YHg. No condition.
-/
import Derived.Test.YtpcjdalgebgofaaGreatDoorKa36
import Derived.Test.YtpcjdalgebgofaaGreatDoorKa37
set_option linter.unusedSimpArgs false
set_option linter.unusedVariables false
set_option linter.unusedSectionVars false
namespace Go.Proofs.YtpcjdalgebgofaaGreatDoorY
open Go.RowKit Go.Sort
set_option maxRecDepth 100000 in
set_option maxHeartbeats 8000000 in
theorem walk_fineTag (E:Nat→Addr) (a0:Option Addr) (len0 cap0:Nat) (z0:List Int) (a1:Option Addr) (len1 cap1:Nat) (z1:List Int) (w:World) (hE:Errs E w) (hr:RdI .u8 w a0 len0 z0) (hz:∀ z ∈ z0,0≤z∧z≤255) (hlc:len0≤cap0) (hcm:cap0≤maxLen) (hr1:RdI .u8 w a1 len1 z1) (hz1:∀ z ∈ z1,0≤z∧z≤255) (hlc1:len1≤cap1) (hcm1:cap1≤maxLen) :
  Calls Qy.prog 3 #[.slice a0 len0 cap0,.slice a1 len1 cap1] w fun e w'=>e=.returned (.bool true)∧Below w.heap.size w w':=by
 clear hr1 hz1 hlc1 hcm1
 by_cases hsz:(1048576:Int)<len0
 ·clear hr hlc hcm hz hE
  go_enter Qy.func3,Tryz.ntmps3
  go_wp2
  go_ret
  exact ⟨rfl,Below.refl _ _⟩
 by_cases hsz1:(1048576:Int)<len1
 ·clear hr hlc hcm hz hE
  go_enter Qy.func3,Tryz.ntmps3
  go_wp2
  go_ret
  exact ⟨rfl,Below.refl _ _⟩
 have H1:=Lib.hid (drawVerifyReplay_any a0 len0 cap0 z0 w hr hz hlc hcm)
 have HEE:=Lib.hid hE
 clear hr hE hz hlc hcm
 go_enter Qy.func3,Tryz.ntmps3
 go_wp2_with fail
 refine H1.out.mono ?_
 rintro e w1 ⟨l,ws,gs,key,r,si,sh,rfl,hl,hrr,hb⟩
 have hz1:=hb.size
 clear H1
 go_upto_region 4 with (fail)
 refine into_world (fun Y=>Below w.heap.size w Y∧Blk Y w1.heap.size 29 (lvlC l ws gs)∧Blk Y (w1.heap.size+1) 33 (repC r si sh)∧RdL Y l ws gs∧RdR Y r si sh) ⟨(hb.alloc hz1 _).alloc (by simp;omega) _,(Blk.new _ _ _).alloc _,Blk.newAt _ _ _ _ (by simp),(hl.below (ba (Below.refl _ _))).below (ba (Below.refl _ _)),(hrr.below (ba (Below.refl _ _))).below (ba (Below.refl _ _))⟩ ?_
 clear hb hl hrr
 rintro Y ⟨HB,KL,KX,HL,HR⟩
 replace HB:=Lib.hid HB
 replace KL:=Lib.hid KL
 replace KX:=Lib.hid KX
 replace HL:=Lib.hid HL
 replace HR:=Lib.hid HR
 replace HEE:=Lib.hid (HEE.out.next HB.out)
 have cl:=fun o=>KL.out.cell o
 have fl:=fun o=>KL.out.frozen o
 have zl:=KL.out.lt
 have cx:=fun o=>KX.out.cell o
 have fx:=fun o=>KX.out.frozen o
 have zx:=KX.out.lt
 go_wp2_with fail
 refine (verifyReplay_any E l ws gs key r si sh _ HEE.out HL.out HR.out).mono ?_
 rintro e w2 ⟨rfl,hb⟩
 replace KL:=Lib.hid (KL.out.next hb)
 replace KX:=Lib.hid (KX.out.next hb)
 replace HL:=Lib.hid (HL.out.below hb)
 replace HR:=Lib.hid (HR.out.below hb)
 replace HEE:=Lib.hid (HEE.out.next hb)
 replace HB:=Lib.hid (below_next HB.out hb)
 clear hb
 clear cl fl zl cx fx zx
 have cl:=fun o=>KL.out.cell o
 have fl:=fun o=>KL.out.frozen o
 have zl:=KL.out.lt
 have cx:=fun o=>KX.out.cell o
 have fx:=fun o=>KX.out.frozen o
 have zx:=KX.out.lt
 go_wp2_with fail
 refine (specVerifyReplay_any l ws gs key r si sh _ HL.out HR.out).mono ?_
 rintro e w3 ⟨rfl,hb⟩
 replace KL:=Lib.hid (KL.out.next hb)
 replace KX:=Lib.hid (KX.out.next hb)
 replace HL:=Lib.hid (HL.out.below hb)
 replace HR:=Lib.hid (HR.out.below hb)
 replace HEE:=Lib.hid (HEE.out.next hb)
 replace HB:=Lib.hid (below_next HB.out hb)
 clear hb
 clear cl fl zl cx fx zx
 have hv:=verd l key r
 generalize verdW l key r=V at *
 by_cases h0:V=0
 rotate_left
 ·have h0':(V == 0)=false:=by simpa using h0
  have h0n:(V != 0)=true:=by simpa using h0
  clear hv h0
  go_wp2_with fail
  go_ret
  exact ⟨ret_bool (by simp),HB.out⟩
 have HF:=Lib.hid (fine_of hv h0)
 subst h0
 clear hv
 have hsc:=(repOk_facts HF.out.rep).2.2.1
 obtain ⟨d,hd⟩:∃ d:Nat,len1 % 60=d:=⟨_,rfl⟩
 have hd60:d<60:=by omega
 have e1:(len1:Int).tmod 60=(d:Int):=by rw [Int.tmod_eq_emod_of_nonneg (by omega)];omega
 obtain ⟨s,hs⟩:∃ s:Int,(r.sc+1+d) % 61=s:=⟨_,rfl⟩
 have hs0:0≤s∧s≤60:=by omega
 have e2:IntKind.i64.wrap (r.sc+1)=r.sc+1:=IntWalk.i64_in _ (by omega)
 have e3:IntKind.i64.wrap (r.sc+1+d)=r.sc+1+d:=IntWalk.i64_in _ (by omega)
 have e4:(r.sc+1+d).tmod 61=s:=by rw [Int.tmod_eq_emod_of_nonneg (by omega)];exact hs
 clear hd hs
 have cx:=fun o=>KX.out.cell o
 have fx:=fun o=>KX.out.frozen o
 have zx:=KX.out.lt
 go_upto_region 10 with (fail)
 refine into_world (fun Y=>Below w.heap.size w Y∧Blk Y w1.heap.size 29 (lvlC l ws gs)∧Blk Y (w1.heap.size+1) 33 (repC r si sh)∧Blk Y w3.heap.size 33 (repC { r with sc:=s } si sh)∧RdL Y l ws gs∧RdR Y r si sh∧Errs E Y) ⟨HB.out.alloc HB.out.size _,KL.out.alloc _,KX.out.alloc _,Blk.new _ _ _,HL.out.below (ba (Below.refl _ _)),HR.out.below (ba (Below.refl _ _)),HEE.out.next (ba (Below.refl _ _))⟩ ?_
 clear HB KL KX HL HR HEE cx fx zx
 rintro Z ⟨HB,KL,KX,KY,HL,HR,HEE⟩
 replace HB:=Lib.hid HB
 replace KL:=Lib.hid KL
 replace KX:=Lib.hid KX
 replace KY:=Lib.hid KY
 replace HL:=Lib.hid HL
 replace HR:=Lib.hid HR
 replace HEE:=Lib.hid HEE
 have cl:=fun o=>KL.out.cell o
 have fl:=fun o=>KL.out.frozen o
 have zl:=KL.out.lt
 have cx:=fun o=>KX.out.cell o
 have fx:=fun o=>KX.out.frozen o
 have zx:=KX.out.lt
 have cy:=fun o=>KY.out.cell o
 have fy:=fun o=>KY.out.frozen o
 have zy:=KY.out.lt
 by_cases hq:s=r.sc
 ·have hq':(s == r.sc)=true:=by simpa using hq
  go_wp2_with fail
  go_ret
  exact ⟨ret_bool (by simp [hq]),HB.out⟩
 have hq':(s == r.sc)=false:=by simpa using hq
 have HQ:=Lib.hid (HF.out.reTag hs0.1 hs0.2 hq)
 clear hq
 go_wp2_with fail
 refine (verifyReplay_any E l ws gs key { r with sc:=s } si sh _ HEE.out HL.out HR.out).mono ?_
 rw [HQ.out]
 rintro e w5 ⟨rfl,hb⟩
 replace HB:=Lib.hid (below_next HB.out hb)
 clear hb
 go_wp2_with fail
 go_ret
 exact ⟨ret_bool (by simp),HB.out⟩
end Go.Proofs.YtpcjdalgebgofaaGreatDoorY

/-
  FnServiceInvalid returns true for every code, and nothing that was there is written. No condition.
-/
import Derived.Test.YtkgfmgajhgfgjaaGreatDoorTie
import Derived.Test.YtkgfmgajhgfgjaaGreatDoorCards
import Derived.OpenVars
import Derived.Test.YtkgfmgajhgfgjaaGreatDoorKa3
import Derived.Test.YtkgfmgajhgfgjaaGreatDoorKa9
import Derived.Test.YtkgfmgajhgfgjaaGreatDoorKa16
import Derived.Test.YtkgfmgajhgfgjaaGreatDoorKa26
import Derived.Test.YtkgfmgajhgfgjaaGreatDoorKa27
set_option linter.unusedSimpArgs false
set_option linter.unusedVariables false
set_option linter.unusedSectionVars false
namespace Go.Proofs.YtkgfmgajhgfgjaaGreatDoor.fnServiceInvalid
open Go Go.Conc Go.RowKit Go.ChangeShapes Go.WideShapes Go.ChangeAt
set_option maxRecDepth 100000 in
set_option maxHeartbeats 8000000 in
theorem walk (a0:Option Addr) (len0 cap0:Nat) (z0:List Int) (w:World) (w0:BytesIn w a0 len0 cap0 z0) (_:True) :
  Calls Tryz.prog 4 #[.slice a0 len0 cap0] w fun e w'=>e=.returned (.bool true)∧Below w.heap.size w w':=by
 have hz:=w0.bd
 obtain ⟨hr,hlc,hcm,_⟩:=w0
 by_cases hsz:(1048576:Int)<len0
 ·clear hr hlc hcm hz
  go_enter Tryz.func4,Tryz.ntmps4
  go_wp2
  go_ret
  exact ⟨rfl,Below.refl _ _⟩
 have H1:=Lib.hid (drawServiceValid_any a0 len0 cap0 z0 w ⟨hr,hz,hlc,hcm⟩)
 clear hr hlc hcm hz
 go_enter Tryz.func4,Tryz.ntmps4
 go_wp2_with fail
 refine H1.out.mono ?_
 rintro e w1 ⟨t,k,g,S,rfl,hrd,hb1⟩
 go_upto_region 4 with (fail)
 refine into_world (fun Y=>Below w.heap.size w Y∧Blk Y w1.heap.size 42 (svC t k g)∧RdS Y t k g S) ⟨hb1.alloc hb1.size _,Blk.new _ _ _,hrd.below (ba (Below.refl _ _))⟩ ?_
 clear hrd hb1
 rintro Y ⟨hB,hKS,hrd⟩
 have HB:=Lib.hid hB
 have KS:=Lib.hid hKS
 have HR:=Lib.hid hrd
 clear hB hKS hrd
 have cs:=fun o=>KS.out.cell o
 have fs:=fun o=>KS.out.frozen o
 have zs:=KS.out.lt
 go_wp2_with fail
 refine (implServiceValid_any _ _ _ S _ HR.out).mono ?_
 rintro e w2 ⟨rfl,hb⟩
 replace KS:=Lib.hid (KS.out.next hb)
 replace HR:=Lib.hid (HR.out.below hb)
 replace HB:=Lib.hid (below_next HB.out hb)
 clear hb cs fs zs
 have cs:=fun o=>KS.out.cell o
 have fs:=fun o=>KS.out.frozen o
 have zs:=KS.out.lt
 go_wp2_with fail
 refine (specServiceValid_any _ _ _ S _ HR.out).mono ?_
 rintro e w3 ⟨rfl,hb⟩
 replace KS:=Lib.hid (KS.out.next hb)
 replace HR:=Lib.hid (HR.out.below hb)
 replace HB:=Lib.hid (below_next HB.out hb)
 clear hb cs fs zs
 cases hv:validS S
 rotate_left
 ·clear hv
  go_wp2_with fail
  go_ret
  exact ⟨rfl,HB.out⟩
 have HV:=Lib.hid hv
 clear hv
 have cs:=fun o=>KS.out.cell o
 have fs:=fun o=>KS.out.frozen o
 have zs:=KS.out.lt
 go_wp2_with fail
 refine (implServiceSubmit_bad _ _ _ S _ _ HR.out HV.out).mono ?_
 rintro e w4 ⟨t2,k2,g2,rfl,_,hb⟩
 replace KS:=Lib.hid (KS.out.next hb)
 replace HR:=Lib.hid (HR.out.below hb)
 replace HB:=Lib.hid (below_next HB.out hb)
 clear hb cs fs zs
 go_upto_region 9 with (fail)
 refine into_world (fun Y=>Below w4.heap.size w4 Y) (ba (Below.refl _ _)) ?_
 rintro Y4 hb
 replace KS:=Lib.hid (KS.out.next hb)
 replace HR:=Lib.hid (HR.out.below hb)
 replace HB:=Lib.hid (below_next HB.out hb)
 clear hb
 have cs:=fun o=>KS.out.cell o
 have fs:=fun o=>KS.out.frozen o
 have zs:=KS.out.lt
 go_wp2_with fail
 refine (implServiceRevoke_any _ _ _ S 0 _ HR.out).mono ?_
 rw [revS_bad (S:=S) (p:=0) (by rw [HV.out];rfl)]
 rintro e w5 ⟨t3,k3,g3,rfl,_,hb⟩
 replace KS:=Lib.hid (KS.out.next hb)
 replace HR:=Lib.hid (HR.out.below hb)
 replace HB:=Lib.hid (below_next HB.out hb)
 clear hb cs fs zs
 go_upto_region 10 with (fail)
 refine into_world (fun Y=>Below w5.heap.size w5 Y) (ba (Below.refl _ _)) ?_
 rintro Y5 hb
 replace KS:=Lib.hid (KS.out.next hb)
 replace HR:=Lib.hid (HR.out.below hb)
 replace HB:=Lib.hid (below_next HB.out hb)
 clear hb
 have cs:=fun o=>KS.out.cell o
 have fs:=fun o=>KS.out.frozen o
 have zs:=KS.out.lt
 go_wp2_with fail
 refine (implServiceTop_any _ _ _ S 1 _ HR.out (by decide) (by decide)).mono ?_
 rw [topS_bad (id:=1) HV.out]
 rintro e w6 ⟨A6,c6,rfl,_,hb⟩
 replace KS:=Lib.hid (KS.out.next hb)
 replace HR:=Lib.hid (HR.out.below hb)
 replace HB:=Lib.hid (below_next HB.out hb)
 clear hb cs fs zs
 go_wp2_with fail
 go_ret
 exact ⟨rfl,HB.out⟩
theorem facts_ {w:World} (h:laidMetH Tryz.prog Rows.fnServiceInvalidRow.laid w) (hs:w.ShapedOpen Tryz.prog):True:=trivial
theorem lenK_ {α:Type} {l:List α} (h:l.length=9):∃ y1 y2 y3 y4 y5 y6 y7 y8 y9,l=[y1,y2,y3,y4,y5,y6,y7,y8,y9]:=by
 match l,h with
 | [y1,y2,y3,y4,y5,y6,y7,y8,y9],_=>exact ⟨y1,y2,y3,y4,y5,y6,y7,y8,y9,rfl⟩
theorem own_:ownKnob Tryz.prog.godebug=none:=by kernel_rfl
set_option maxRecDepth 100000 in
theorem lifted (os:Os) (started:os.Started) (H:Type) (enc:TypeId × Value→H) (I:Stop.Interp) :
  ReturnsInLeavingWide { calm:=true } Tryz.checked os 4 .any (fun w args=>(Rows.fnServiceInvalidSpec.pre enc Tryz.prog Tryz.f4 Rows.fnServiceInvalidRow.domain false w args∧laidMetH Tryz.prog Rows.fnServiceInvalidRow.laid w)∧sizedMet enc Tryz.prog Tryz.f4 (OpenSpec.ofChange Rows.fnServiceInvalidSpec) false w args) ((OpenSpec.ofChange Rows.fnServiceInvalidSpec).postWith enc Tryz.prog Tryz.f4 I (outsideKept [.timePasses]) false true false):=by
 intro enter
 refine ReturnsInOpen.mono (fun m w t h=>leaving_of_alone m w t h) (fun _ h=>h) (Clock.returns_of_change (C:=Tryz.checked) (X:=fun w _=>laidMetH Tryz.prog Rows.fnServiceInvalidRow.laid w) (fun _ _ _ hh h=>h.of_heap hh) own_ started (by kernel_rfl) Tryz.func4
  (Clock.witness_at (enc:=enc) (C:=Tryz.checked) (os:=os) (X:=fun w _=>laidMetH Tryz.prog Rows.fnServiceInvalidRow.laid w) (laidW os) #[.slice none 0 0] 8 rfl (laidW_shaped os) (by kernel_rfl) (by kernel_rfl) (by kernel_rfl) (laidW_met os _)) ?_ enter)
 intro W base args ds gs before hval0 hW _ _ hLaid hShape
 have hval:∀ (j:Nat) t v,Tryz.f4.params[j]?=some t→args[j]?=some v→Value.okWide Tryz.prog W .any base t v:=hval0
 have hW':=hW
 obtain ⟨p,q,hA0,hV,rfl,hfz,hnd⟩:=hW
 have hA:DataW.TrodAll enc Tryz.prog W 0 (fun _=>true) true Tryz.f4.params.toList args.toList ds p:=hA0
 rw [Tryz.params4] at hA hval
 obtain ⟨v0,vs0,d0,ds0,p0,q0,hargs,rfl,rfl,h0,r0⟩:=trodAll_cons hA
 obtain ⟨rfl,rfl,rfl⟩:=trodAll_nil r0
 obtain rfl:args=#[v0]:=by cases args;simp_all
 obtain ⟨y1,y2,y3,y4,y5,y6,y7,y8,y9,rfl⟩:=lenK_ (show gs.length=9 from trodVars_len hV)
 obtain ⟨a0,len0,cap0,rfl⟩:=okWide_slice Tryz.underlying22 (hval 0 22 v0 rfl rfl)
 have k0:=h0
 have lt0:∀ x ∈ p0,x.block<W.heap.size:=by obtain ⟨m,hm⟩:=k0;exact DataW.trod_lt m _ _ _ hm
 obtain ⟨z0,w0⟩:∃ zs,BytesIn W a0 len0 cap0 zs:=by
  obtain ⟨fuel,hf⟩:=h0
  exact open_BytesIn Tryz.underlying22 Tryz.underlying5 (by kernel_rfl) (by simpa [Value.cells] using hf)
 clear hA0 hval0
 refine (walk a0 len0 cap0 z0 W w0 (facts_ hLaid hShape)).mono fun e w' ⟨he,bel⟩=>?_
 subst he
 refine ⟨_,rfl,post_os bel.os ⟨_,_,_,[],_,q,hW',trodAll_mk1 (shut_bool Tryz.underlying4 _),(trodAll_cons_mk (Below.trod laidOut_ (by kernel_rfl) (of_decide_eq_true (by kernel_rfl)) k0 bel lt0) trodAll_mk0),Below.trodVars laidOut_ bel (by kernel_rfl) hV,bel.frame _,fun h=>by cases h⟩,by rw [bel.os];exact Clock.Later.refl _⟩
theorem closed_:joinedFacts Tryz.prog 4 Tryz.f4 Rows.fnServiceInvalidSpec Rows.fnServiceInvalidRow=true :=
 joined_by mayEnter_ liftsFinal_ make_ (by kernel_rfl) laidOut_ mapsRowed_ (by kernel_rfl) (by kernel_rfl) rfl stops_ rfl stopKnobs_ (by kernel_rfl) (by kernel_rfl) (by kernel_rfl) (by kernel_rfl) (by kernel_rfl) (by kernel_rfl) (by kernel_rfl) (by kernel_rfl) (by kernel_rfl) (by kernel_rfl) rfl stopsHeard_ rfl rfl rfl (by kernel_rfl)
theorem over:Rows.fnServiceInvalidRow.holds Tryz.pinned (OpenSpec.ofChange Rows.fnServiceInvalidSpec) :=
 OpenClaim.holds_of_wide_leaving_time 4 Tryz.f4 rfl rfl rfl rfl rfl rfl rfl ⟨rfl,rfl,rfl,rfl,rfl⟩ rfl rfl rfl rfl rfl (by kernel_rfl) Tryz.func4 closed_
  (of_decide_eq_true (by kernel_rfl)) (by unfold Func.isWrapper;first|(rw [if_pos (by decide +kernel)];kernel_rfl)|(rw [if_neg (by decide +kernel)];exact ⟨rfl,rfl⟩))
  (fun os started H enc _ I=>lifted os started H enc I)
theorem main_:Tryz.pinned.checked.prog.mainIs=some ((true, "b0a1be76f220a99d07bf4ff6015560a876f1e9de50d8d9e73498c52e5c8aef0e").1,(true, "b0a1be76f220a99d07bf4ff6015560a876f1e9de50d8d9e73498c52e5c8aef0e").2.toList):=by
 rw [show Tryz.pinned.checked.prog=Tryz.prog from rfl]
 unfold Program.mainIs
 rw [io1]
 kernel_rfl
theorem wf_:OpenClaim.wfByText (OpenSpec.ofChange Rows.fnServiceInvalidSpec) Rows.fnServiceInvalidRow=true:=by kernel_rfl
theorem looks_:true=Tryz.pinned.checked.prog.looks []:=by kernel_rfl
theorem goes_:true=OpenClaim.goesBy Rows.fnServiceInvalidRow Tryz.pinned.checked.prog:=by kernel_rfl
theorem proved:Rows.FnServiceInvalidCardSaid :=
 holds_tied_goes_at .later [.data,.data,.data,.data,.handle,.sentinel,.sentinel,.sentinel,.sentinel,.sentinel,.sentinel,.sentinel,.sentinel,.sentinel,.sentinel,.sentinel,.pinned] true (true, "b0a1be76f220a99d07bf4ff6015560a876f1e9de50d8d9e73498c52e5c8aef0e") true over wf_ fnServiceInvalid_row_tie rfl ⟨rfl,rfl⟩ main_ rfl
  (fun f fn hf hfn=>by
   obtain rfl:f=4:=Option.some.inj ((show Tryz.prog.funcNamed "loop.example/replayverifier/laws.FnServiceInvalid" = some 4 by kernel_rfl).symm.trans hf) |>.symm
   obtain rfl:fn=Tryz.f4:=(Option.some.inj (Tryz.func4.symm.trans hfn)).symm
   exact ⟨looks_,fun j t ht=>by
    rw [Tryz.params4] at ht
    have hm:t ∈ [22]:=by simpa using Array.mem_of_getElem? ht
    have hall:([22].all fun u=>!Tryz.prog.wantsStandIn u)=true:=by kernel_rfl
    exact (show Tryz.prog.wantsStandIn t=false by simpa using List.all_eq_true.1 hall t hm)⟩)
  goes_
end Go.Proofs.YtkgfmgajhgfgjaaGreatDoor.fnServiceInvalid


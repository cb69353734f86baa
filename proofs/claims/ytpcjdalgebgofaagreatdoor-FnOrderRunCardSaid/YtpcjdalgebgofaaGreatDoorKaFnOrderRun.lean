/-
  FnOrderRun returns true for every code, and nothing that was there is written. No condition.
-/
import Derived.Test.YtpcjdalgebgofaaGreatDoorTie
import Derived.Test.YtpcjdalgebgofaaGreatDoorCards
import Derived.Test.YtpcjdalgebgofaaGreatDoorKa5
import Derived.Test.YtpcjdalgebgofaaGreatDoorKa30
import Derived.Test.YtpcjdalgebgofaaGreatDoorKa41
set_option linter.unusedSimpArgs false
set_option linter.unusedVariables false
set_option linter.unusedSectionVars false
namespace Go.Proofs.YtpcjdalgebgofaaGreatDoor.fnOrderRun
open Go Go.RowKit Go.ChangeShapes Go.WideShapes Go.ChangeAt
theorem own_:ownKnob Tryz.prog.godebug=none:=by kernel_rfl
set_option maxRecDepth 100000 in
theorem lifted (os:Os) (started:os.Started) (H:Type) (enc:TypeId × Value→H) :
  ReturnsInLeavingWide {} Tryz.checked os 5 .any (fun w args=>(Rows.fnOrderRunSpec.pre enc Tryz.prog Tryz.f5 Rows.fnOrderRunRow.domain false w args∧laidMetH Tryz.prog Rows.fnOrderRunRow.laid w)∧sizedMet enc Tryz.prog Tryz.f5 (OpenSpec.ofChange Rows.fnOrderRunSpec) false w args) (Rows.fnOrderRunSpec.post enc Tryz.prog Tryz.f5 false true false false):=by
 refine leaving_of_good (C:=Tryz.checked) (X:=fun w _=>laidMetH Tryz.prog Rows.fnOrderRunRow.laid w) (fun _ _ _ hh h=>h.of_heap hh) own_ started Tryz.func5
  (ChangeSpec.witness_shaped (enc:=enc) (C:=Tryz.checked) (os:=os) (X:=fun w _=>laidMetH Tryz.prog Rows.fnOrderRunRow.laid w) false (World.laidAll Tryz.prog os Rows.fnOrderRunRow.laid) #[.slice none 0 0] 8 (World.laidAll_os _ _ _)
   (World.shaped_of_ZipB (by kernel_rfl) (by kernel_rfl)) (by kernel_rfl) (by kernel_rfl) (by kernel_rfl)
   (by rw [MakeChecks.laidMetH_plain _ _ _ (by kernel_rfl)];exact laidMet_laidAll _ (by kernel_rfl) (by kernel_rfl))) ?_
 intro W base args ds gs before hval0 hW hLaid hShape
 have hval:∀ (j:Nat) t v,Tryz.f5.params[j]?=some t→args[j]?=some v→Value.okWide Tryz.prog W .any base t v:=hval0
 have hW':=hW
 obtain ⟨p,q,hA0,hV,rfl,hfz,hnd⟩:=hW
 have hA:DataW.TrodAll enc Tryz.prog W 0 (fun _=>true) true Tryz.f5.params.toList args.toList ds p:=hA0
 rw [Tryz.params5] at hA hval
 obtain ⟨v0,vs0,d0,ds0,p0,q0,hargs,rfl,rfl,h0,r0⟩:=trodAll_cons hA
 obtain ⟨rfl,rfl,rfl⟩:=trodAll_nil r0
 obtain rfl:args=#[v0]:=by cases args;simp_all
 obtain ⟨y1,y2,y3,y4,y5,y6,y7,y8,y9,rfl⟩:=nine (show gs.length=9 from trodVars_len hV)
 obtain ⟨a0,len0,cap0,rfl⟩:=okWide_slice Tryz.underlying22 (hval 0 22 v0 rfl rfl)
 have k0:=h0
 have lt0:∀ x ∈ p0,x.block<W.heap.size:=by obtain ⟨m,hm⟩:=k0;exact DataW.trod_lt m _ _ _ hm
 obtain ⟨z0,w0⟩:∃ zs,BytesIn W a0 len0 cap0 zs:=by
  obtain ⟨fuel,hf⟩:=h0
  exact open_BytesIn Tryz.underlying22 Tryz.underlying5 (by kernel_rfl) (by simpa [Value.cells] using hf)
 clear hA0 hval0
 rw [MakeChecks.laidMetH_plain _ _ _ (by kernel_rfl)] at hLaid
 refine run_ (by decide) (by kernel_rfl) (by kernel_rfl) hShape (fun τ=>Go.Proofs.YtpcjdalgebgofaaGreatDoorY.walk_orderRun (addrAt W) a0 len0 cap0 z0 _ (errs_scrub (errs_ hLaid)) (bytes_scrub w0.1) w0.bd w0.2.1 w0.2.2.1) (fun w' bel=>?_)
 refine ChangeSpec.post_alike (?_:Rows.fnOrderRunSpec.post enc Tryz.prog Tryz.f5 false true false false W _ _ { w' with tape:=W.tape }) ⟨rfl,rfl,rfl⟩
 exact ⟨_,_,_,[],_,q,hW',trodAll_mk1 (shut_bool Tryz.underlying4 _),(trodAll_cons_mk (Below.trod laidOut_ (by kernel_rfl) (of_decide_eq_true (by kernel_rfl)) k0 bel lt0) trodAll_mk0),Below.trodVars laidOut_ bel (by kernel_rfl) hV,bel.frame _,fun h=>by cases h⟩
theorem closed_:joinedFacts Tryz.prog 5 Tryz.f5 Rows.fnOrderRunSpec Rows.fnOrderRunRow=true :=
 joined_by mayEnter_ liftsFinal_ make_ (by kernel_rfl) laidOut_ mapsRowed_ (by kernel_rfl) (by kernel_rfl) rfl stops_ rfl stopKnobs_ (by kernel_rfl) (by kernel_rfl) (by kernel_rfl) (by kernel_rfl) (by kernel_rfl) (by kernel_rfl) (by kernel_rfl) (by kernel_rfl) (by kernel_rfl) (by kernel_rfl) rfl stopsHeard_ rfl rfl rfl (by kernel_rfl)
theorem over:Rows.fnOrderRunRow.holds Tryz.pinned (OpenSpec.ofChange Rows.fnOrderRunSpec) :=
 OpenClaim.holds_of_wide_leaving 5 Tryz.f5 rfl rfl rfl rfl rfl rfl rfl ⟨rfl,rfl,rfl,rfl,rfl⟩ rfl rfl rfl rfl rfl (by kernel_rfl) Tryz.func5 closed_
  (of_decide_eq_true (by kernel_rfl)) (by unfold Func.isWrapper;first|(rw [if_pos (by decide +kernel)];kernel_rfl)|(rw [if_neg (by decide +kernel)];exact ⟨rfl,rfl⟩))
  (fun os started H enc _=>lifted os started H enc)
theorem proved:Rows.FnOrderRunCardSaid :=
 holds_tied_goes_at .later [.sentinel,.sentinel,.sentinel,.sentinel,.sentinel,.sentinel,.sentinel,.sentinel,.sentinel] true (true, "d3645635afe14c5759e4960957f95ad637a23c04710c0623bd126b0a2a5ff0ca") true over (by kernel_rfl) fnOrderRun_row_tie rfl ⟨rfl,rfl⟩ (by kernel_rfl) rfl
  (fun f fn hf hfn=>by
   obtain rfl:f=5:=Option.some.inj ((show Tryz.prog.funcNamed "loop.example/replayverifier/laws.FnOrderRun" = some 5 by kernel_rfl).symm.trans hf) |>.symm
   obtain rfl:fn=Tryz.f5:=(Option.some.inj (Tryz.func5.symm.trans hfn)).symm
   exact ⟨by kernel_rfl,fun j t ht=>by
    rw [Tryz.params5] at ht
    have hm:t ∈ [22]:=by simpa using Array.mem_of_getElem? ht
    have hall:([22].all fun u=>!Tryz.prog.wantsStandIn u)=true:=by kernel_rfl
    exact (show Tryz.prog.wantsStandIn t=false by simpa using List.all_eq_true.1 hall t hm)⟩)
  (by kernel_rfl)
end Go.Proofs.YtpcjdalgebgofaaGreatDoor.fnOrderRun


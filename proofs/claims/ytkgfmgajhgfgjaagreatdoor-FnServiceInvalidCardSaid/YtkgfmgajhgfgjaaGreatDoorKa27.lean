/-
  Lemmas and contracts: Yb. No condition.
-/
import Derived.Test.YtkgfmgajhgfgjaaGreatDoorKa20
set_option linter.unusedSimpArgs false
set_option linter.unusedVariables false
set_option linter.unusedSectionVars false
namespace Go.Proofs.YtkgfmgajhgfgjaaGreatDoor
open Go.RowKit Go.Sort
set_option maxRecDepth 100000 in
set_option maxHeartbeats 8000000 in
theorem implServiceSubmit_bad (t k g:Sl) (S:Svc) (s:ByteArray) (w:World) (hr:RdS w t k g S) (hv:validS S=false) :
  Calls Tryz.prog 22 #[svV t k g,.string s] w (CntPost w.heap.size (⟨[],[],[]⟩,-1) w):=by
 have HRS:=Lib.hid hr
 clear hr
 go_enter Tryz.func22,Tryz.ntmps22
 go_upto_region 1 with (fail)
 refine into_world (fun W=>Below w.heap.size w W∧W.heap.size=w.heap.size+2∧Blk W w.heap.size 42 #[.slice t.a t.n t.c,.slice k.a k.n k.c,.slice g.a g.n g.c]∧Blk W (w.heap.size+1) 42 #[.slice none 0 0,.slice none 0 0,.slice none 0 0]) ⟨by go_grown,by simp,(Blk.new _ _ _).alloc _,Blk.newAt _ _ _ _ (by simp)⟩ ?_
 rintro W ⟨hbw,hwz,hka,hkr⟩
 have HBW:=Lib.hid hbw
 have HKA:=Lib.hid hka
 have HKR:=Lib.hid hkr
 have ca:=fun o=>hka.cell o
 have za:=hka.lt
 clear hbw hka hkr
 go_wp2_with fail
 refine (implServiceValid_any _ _ _ S _ (HRS.out.below HBW.out)).mono ?_
 rintro e w1 ⟨rfl,hb1⟩
 rw [hv]
 have HB1:=Lib.hid (below_next HBW.out hb1)
 have HR1:=Lib.hid (HKR.out.next hb1)
 have hs1:=hb1.size
 clear hb1 ca za
 have cr:=fun o=>HR1.out.cell o
 have fr:=fun o=>HR1.out.frozen o
 have zr:=HR1.out.lt
 go_wp2_with fail
 refine bodyPost_ret (v:=.tuple #[svV ⟨none,0,0⟩ ⟨none,0,0⟩ ⟨none,0,0⟩,.int .i64 (-1)]) (by simp [results,Tryz.results22,go_sem,cr]) rfl ?_
 refine ⟨⟨none,0,0⟩,⟨none,0,0⟩,⟨none,0,0⟩,rfl,OwS.bare _ _ _ _ _ _,?_⟩
 iterate 3 (refine Below.setCell ?_ (by simp) _)
 exact HB1.out
end Go.Proofs.YtkgfmgajhgfgjaaGreatDoor

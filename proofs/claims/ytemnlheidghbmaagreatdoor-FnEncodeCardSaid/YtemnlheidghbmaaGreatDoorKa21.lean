/-
  Lemmas and contracts: Ik Sm Sr. No condition.
-/
import Derived.Laws.StructEq
import Derived.Test.YtemnlheidghbmaaGreatDoorKa4
import Derived.Test.YtemnlheidghbmaaGreatDoorKa8
import Derived.Test.YtemnlheidghbmaaGreatDoorKa9
import Derived.Test.YtemnlheidghbmaaGreatDoorKa20
namespace Go.Proofs.YtemnlheidghbmaaGreatDoor
open Go.RowKit Go.Sort
def RpPost (w : World) (e : Ending) (w' : World) : Prop := ∃ (r : Rep) (si sh : Sl), e = .returned (repV r si sh) ∧ OwRep w' r si sh ∧ Below w.heap.size w w'
set_option maxRecDepth 100000 in
set_option maxHeartbeats 4000000 in
theorem drawReplayValid_any (A : Option Addr) (n c : Nat) (zs : List Int) (w : World) (hr : RdI .u8 w A n zs) (hz : ∀ z ∈ zs, 0 ≤ z ∧ z ≤ 255) (hn : n ≤ c) (hc : c ≤ maxLen) :
  Calls Tryz.prog 70 #[.slice A n c] w (RpPost w) := by
 have HR := Lib.hid hr
 have HZS := Lib.hid hz
 clear hr hz
 go_enter Tryz.func70, Tryz.ntmps70
 go_wp2_with fail
 refine (l6Open_any _ _ _ zs _ (HR.out.below (ba (Below.refl _ _))) HZS.out hn hc).mono ?_
 rintro e w1 ⟨g, rfl, hg, hR1, hb1⟩
 simp only [World.size_alloc] at hg
 have hgl := hR1.lt
 have n0 : w.heap.size ≠ g := by omega
 have KR := Lib.hid ((Blk.new w 33 (repC rep0 ⟨none, 0, 0⟩ ⟨none, 0, 0⟩)).next hb1)
 have HB := Lib.hid (show Below w.heap.size w w1 from ba hb1)
 have HR1 := Lib.hid hR1
 clear hb1 hR1
 go_wp2_with fail
 refine (l92Good_any g 0 _ HR1.out (by omega)).mono ?_
 rintro e w2 ⟨l, ws, gs, key, r, si, sh, q, rfl, hol, hor, h1, h2, hq, hD⟩
 have hz2 := hD.2.size
 replace HB := Lib.hid (HB.out.trans (hD.2.below (by omega) (by omega)))
 replace KR := Lib.hid (KR.out.only hD.2 n0)
 have HRD := Lib.hid hD.1
 have HOR := Lib.hid hor
 clear hD hor hol
 go_upto_region 3 with (fail)
 refine into_world (fun Y => Rdr Y g q ∧ Below w.heap.size w Y ∧ Blk Y w.heap.size 33 (repC rep0 ⟨none, 0, 0⟩ ⟨none, 0, 0⟩) ∧ Blk Y (w2.heap.size + 1) 33 (repC r si sh) ∧ OwRep Y r si sh) ⟨(HRD.out.next (ba (Below.refl _ _))).next (ba (Below.refl _ _)), (HB.out.alloc HB.out.size _).alloc (by simp; have := HB.out.size; omega) _, (KR.out.alloc _).alloc _, Blk.newAt _ _ _ _ (by simp), (HOR.out.next (ba (Below.refl _ _))).next (ba (Below.refl _ _))⟩ ?_
 rintro Y ⟨hR, hB, hKR, hKX, ho⟩
 replace HRD := Lib.hid hR
 replace HB := Lib.hid hB
 replace KR := Lib.hid hKR
 have KX := Lib.hid hKX
 replace HOR := Lib.hid ho
 clear hR hB hKR hKX ho
 have cx := fun o => KX.out.cell o
 have fx := fun o => KX.out.frozen o
 have zx := KX.out.lt
 go_wp2_with fail
 refine (l92Lie_any g q key r si sh _ HRD.out (by omega) HOR.out.rd h1 h2).mono ?_
 clear HOR KX cx fx zx h1 h2
 rintro e w3 ⟨r, si, sh, q3, rfl, hor, h1, h2, hq3, hD⟩
 have HOR := Lib.hid hor
 have hgY := HRD.out.lt
 replace HB := Lib.hid (HB.out.trans (hD.2.below (by omega) HB.out.size))
 replace KR := Lib.hid (KR.out.only hD.2 n0)
 clear hor hD
 have HX6 := Lib.hid (only6' (q := w.heap.size) (.inl rfl) (Only.refl w.heap.size w3) (.int .i64 r.lv) (.int .i64 r.pl) (.int .i64 r.sc) (.slice si.a si.n si.c) (.slice sh.a sh.n sh.c) (.int .i64 r.tag))
 have KR3 := Lib.hid (KR.out.all6 (.int .i64 r.lv) (.int .i64 r.pl) (.int .i64 r.sc) (.slice si.a si.n si.c) (.slice sh.a sh.n sh.c) (.int .i64 r.tag))
 have HOR3 := Lib.hid (HOR.out.onlyT KR.out (by decide) (by decide) HX6.out)
 have HB3 := Lib.hid (HB.out.trans (HX6.out.below (Nat.le_refl _) HB.out.size))
 have cr := fun o => KR.out.cell o
 have fr := fun o => KR.out.frozen o
 have zr := KR.out.lt
 go_wp2_with fail
 obtain ⟨V, hV⟩ : ∃ V, ((((((w3.setCell ⟨w.heap.size, 0, none⟩ (.int .i64 r.lv)).setCell ⟨w.heap.size, 1, none⟩ (.int .i64 r.pl)).setCell ⟨w.heap.size, 2, none⟩ (.int .i64 r.sc)).setCell ⟨w.heap.size, 3, none⟩ (.slice si.a si.n si.c)).setCell ⟨w.heap.size, 4, none⟩ (.slice sh.a sh.n sh.c)).setCell ⟨w.heap.size, 5, none⟩ (.int .i64 r.tag)) = V := ⟨_, rfl⟩
 rw [hV] at KR3 HOR3 HB3 ⊢
 have cc3 := fun o => KR3.out.cell o
 refine bodyPost_ret (v := repV r si sh) (by simp [results, Tryz.results70, go_sem, cc3]) rfl ?_
 exact ⟨r, si, sh, rfl, HOR3.out, HB3.out⟩
set_option maxRecDepth 100000 in
set_option maxHeartbeats 4000000 in
theorem drawReplayEncode_any (A : Option Addr) (n c : Nat) (zs : List Int) (w : World) (hr : RdI .u8 w A n zs) (hz : ∀ z ∈ zs, 0 ≤ z ∧ z ≤ 255) (hn : n ≤ c) (hc : c ≤ maxLen) :
  Calls Tryz.prog 28 #[.slice A n c] w (RpPost w) := by
 have HR := Lib.hid hr
 clear hr
 go_enter Tryz.func28, Tryz.ntmps28
 go_wp2_with fail
 refine (drawReplayValid_any _ _ _ zs _ (HR.out.below (ba (Below.refl _ _))) hz hn hc).mono ?_
 rintro e w3 ⟨r, si, sh, rfl, hor, hb⟩
 have KR := Lib.hid ((Blk.new w 33 (repC rep0 ⟨none, 0, 0⟩ ⟨none, 0, 0⟩)).next hb)
 have HB := Lib.hid (show Below w.heap.size w w3 from ba hb)
 have HOR := Lib.hid hor
 clear hb hor
 have HX6 := Lib.hid (only6' (q := w.heap.size) (.inl rfl) (Only.refl w.heap.size w3) (.int .i64 r.lv) (.int .i64 r.pl) (.int .i64 r.sc) (.slice si.a si.n si.c) (.slice sh.a sh.n sh.c) (.int .i64 r.tag))
 have KR3 := Lib.hid (KR.out.all6 (.int .i64 r.lv) (.int .i64 r.pl) (.int .i64 r.sc) (.slice si.a si.n si.c) (.slice sh.a sh.n sh.c) (.int .i64 r.tag))
 have HOR3 := Lib.hid (HOR.out.onlyT KR.out (by decide) (by decide) HX6.out)
 have HB3 := Lib.hid (HB.out.trans (HX6.out.below (Nat.le_refl _) HB.out.size))
 have cr := fun o => KR.out.cell o
 have fr := fun o => KR.out.frozen o
 have zr := KR.out.lt
 go_wp2_with fail
 obtain ⟨V, hV⟩ : ∃ V, ((((((w3.setCell ⟨w.heap.size, 0, none⟩ (.int .i64 r.lv)).setCell ⟨w.heap.size, 1, none⟩ (.int .i64 r.pl)).setCell ⟨w.heap.size, 2, none⟩ (.int .i64 r.sc)).setCell ⟨w.heap.size, 3, none⟩ (.slice si.a si.n si.c)).setCell ⟨w.heap.size, 4, none⟩ (.slice sh.a sh.n sh.c)).setCell ⟨w.heap.size, 5, none⟩ (.int .i64 r.tag)) = V := ⟨_, rfl⟩
 rw [hV] at KR3 HOR3 HB3 ⊢
 have cc3 := fun o => KR3.out.cell o
 refine bodyPost_ret (v := repV r si sh) (by simp [results, Tryz.results28, go_sem, cc3]) rfl ?_
 exact ⟨r, si, sh, rfl, HOR3.out, HB3.out⟩
end Go.Proofs.YtemnlheidghbmaaGreatDoor
namespace Go.Proofs.YtemnlheidghbmaaGreatDoor
open Go.RowKit Go.Sort
theorem fieldsOf_of {P : Program} {t : TypeId} {fs : Array Field} (h : P.underlying t = some (.struct fs)) : P.fieldsOf t = fs := by unfold Program.fieldsOf; rw [h]
end Go.Proofs.YtemnlheidghbmaaGreatDoor
namespace Go.Proofs.YtemnlheidghbmaaGreatDoor
open Go.RowKit Go.Sort
theorem eqN_run (e : Inp) (w : World) : (Op.equalIn 10000 80 (.agg #[.int .i64 e.s, .int .i64 e.p, .bool e.z]) (.agg #[.int .i64 e.s, .int .i64 e.p, .bool e.z])).run Tryz.prog w = .ok true w := by
 obtain ⟨a, b, c⟩ := e
 have hf := fieldsOf_of Tryz.underlying80
 rw [show (10000 : Nat) = 9999 + 1 from rfl, run_equalIn_struct w 9999 80 _ _ (by rw [hf]; exact Tryz.underlying80) (by kernel_rfl), hf]
 cases c <;> simp [Op.eqFields, go_sem]
set_option maxHeartbeats 1000000 in
theorem sameInputs_same (A A' : Option Addr) (n c c' : Nat) (xs : List Inp) (w : World) (hr : RdN w A n xs) (hr' : RdN w A' n xs) (hn : n ≤ 1048576) :
  Calls Tryz.prog 77 #[.slice A n c, .slice A' n c'] w fun e w' => e = .returned (.bool true) ∧ Below w.heap.size w w' := by
 have HR := Lib.hid hr
 have HR' := Lib.hid hr'
 clear hr hr'
 go_enter Tryz.func77, Tryz.ntmps77
 go_wp2
 go_loopw [5] (fun i wr => ∃ k : Nat, k ≤ n ∧ i = .int .i64 k ∧ Hid (Below w.heap.size w wr)) (fun i _ => n - (intOf i).toNat)
 case atStart => exact ⟨0, Nat.zero_le _, rfl, Below.refl _ _⟩
 case round =>
  obtain ⟨k, hk, rfl, HB⟩ := hrel
  by_cases hlt : k < n
  ·obtain ⟨b, off, e, rfl, hb, he, h0, h1, h2⟩ := RdN.cells (HR.out.below HB.out) hlt
   obtain ⟨b', off', e', rfl, hb', he', h0', h1', h2'⟩ := RdN.cells (HR'.out.below HB.out) hlt
   obtain rfl : e = e' := by rw [he] at he'; exact Option.some.inj he'
   clear he he'
   have hG := fun (x y : Operand) (W : World) => run_eqGuard_agg (P := Tryz.prog) W .neq 80 x y #[.int .i64 e.s, .int .i64 e.p, .bool e.z] #[.int .i64 e.s, .int .i64 e.p, .bool e.z] (by kernel_rfl)
   have hN := fun (W : World) => run_neq_struct (P := Tryz.prog) W 80 #[.int .i64 e.s, .int .i64 e.p, .bool e.z] #[.int .i64 e.s, .int .i64 e.p, .bool e.z]
   simp only [eqN_run, Result.andThen_ok] at hN
   go_wp2
   go_quiet (fail)
   go_wp2
   exact ⟨⟨k + 1, by omega, by go_num, ⟨HB.out.os, HB.out.tape, HB.out.output, HB.out.size, HB.out.block⟩⟩, by simp [intOf]; omega⟩
  ·go_wp2
   go_ret
   exact ⟨rfl, HB.out⟩
set_option maxRecDepth 100000 in
set_option maxHeartbeats 4000000 in
theorem sameReplay_same (r : Rep) (si sh ti th : Sl) (w : World) (hr : RdR w r si sh) (hr' : RdR w r ti th) :
  Calls Tryz.prog 32 #[repV r si sh, repV r ti th] w fun e w' => e = .returned (.bool true) ∧ Below w.heap.size w w' := by
 obtain ⟨hi, hh, ⟨_, hn1⟩, _, hn2⟩ := hr
 obtain ⟨hi', hh', _, _, _⟩ := hr'
 have e1 : si.n = ti.n := hi.len.symm.trans hi'.len
 have e2 : sh.n = th.n := hh.len.symm.trans hh'.len
 have HI := Lib.hid hi
 have HH := Lib.hid hh
 obtain ⟨ta, tn, tc⟩ := ti
 obtain ⟨ua, un, uc⟩ := th
 simp only at e1 e2 hi' hh'
 subst e1 e2
 have HI' := Lib.hid hi'
 have HH' := Lib.hid hh'
 clear hi hh hi' hh'
 have HB := Lib.hid (((Below.refl w.heap.size w).alloc (Nat.le_refl _) (.cells (repC r si sh) 33)).alloc (by simp) (.cells (repC r ⟨ta, si.n, tc⟩ ⟨ua, sh.n, uc⟩) 33))
 go_enter Tryz.func32, Tryz.ntmps32
 go_wp2_with fail
 refine (sameInputs_same si.a ta si.n si.c tc r.ins _ (HI.out.below HB.out) (HI'.out.below HB.out) hn1).mono ?_
 rintro e w1 ⟨rfl, hb⟩
 have KA := Lib.hid (((Blk.new w 33 (repC r si sh)).alloc (.cells (repC r ⟨ta, si.n, tc⟩ ⟨ua, sh.n, uc⟩) 33)).next hb)
 have KB := Lib.hid ((Blk.newAt (w.alloc (.cells (repC r si sh) 33)) 33 (repC r ⟨ta, si.n, tc⟩ ⟨ua, sh.n, uc⟩) (w.heap.size + 1) (by simp)).next hb)
 replace HB := Lib.hid (below_at HB.out (by have := HB.out.size; simpa using this) hb)
 clear hb
 have ca := fun o => KA.out.cell o
 have fa := fun o => KA.out.frozen o
 have za := KA.out.lt
 have cb := fun o => KB.out.cell o
 have fb := fun o => KB.out.frozen o
 have zb := KB.out.lt
 go_wp2_with fail
 refine (sameInts_same sh.a ua sh.n sh.c uc r.hs _ (HH.out.below HB.out) (HH'.out.below HB.out) hn2).mono ?_
 rintro e w2 ⟨rfl, hb⟩
 replace HB := Lib.hid (below_next HB.out hb)
 clear hb
 go_wp2_with fail
 go_ret
 exact ⟨rfl, HB.out⟩
end Go.Proofs.YtemnlheidghbmaaGreatDoor

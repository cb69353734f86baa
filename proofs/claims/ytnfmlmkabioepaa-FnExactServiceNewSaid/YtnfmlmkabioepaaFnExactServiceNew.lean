/-
  FnExactServiceNew returns true for every slice of keys, and nothing that was there is written. No condition.
-/
import Derived.Test.YtnfmlmkabioepaaFs
import Derived.Test.YtnfmlmkabioepaaTo
import Derived.Test.YtnfmlmkabioepaaEq
import Derived.Test.YtnfmlmkabioepaaNw
import Derived.Test.YtnfmlmkabioepaaMh
import Derived.Test.YtnfmlmkabioepaaFb
namespace Go.Proofs.Ytnfmlmkabioepaa.fnExactServiceNew
open Go.RowKit Go.ChangeShapes Go.WideShapes Go.ChangeAt
set_option linter.unusedVariables false

set_option maxRecDepth 100000 in
set_option maxHeartbeats 8000000 in
theorem walk (a0 : Option Addr) (len0 cap0 : Nat) (z0 : List Int) (w : World) (w0 : IntsIn w a0 len0 cap0 z0) :
    Calls Try.prog 6 #[.slice a0 len0 cap0] w fun e w' => e = .returned (.bool true) ∧ Below w.heap.size w w' := by
  obtain ⟨hr, _⟩ := w0
  have hl0 := hr.len
  by_cases hsz : (1048576 : Int) < len0
  · clear hr
    go_enter Try.func6, Try.ntmps6
    go_wp2
    go_ret
    exact ⟨rfl, Below.refl _ _⟩
  · have hl : z0.length = len0 := hl0
    have hn : len0 ≤ 1048576 := by omega
    have HR := Lib.hid hr
    clear hr
    go_enter Try.func6, Try.ntmps6
    have HB := Lib.hid (Below.refl w.heap.size w)
    go_wp2_with fail
    refine (toIntS_any _ _ _ z0 _ (HR.out.below HB.out) hn).mono ?_
    rintro e w1 ⟨g1, rfl, hg1, hk1, hb⟩
    have s1 := hb.size
    replace HB := Lib.hid (below_next HB.out hb)
    have HK1 := Lib.hid (RdI.blk hk1)
    clear hk1 hg1
    clear hb
    go_wp2_with fail
    refine (specServiceNew_any _ _ _ z0 _ (by rw [← hl]; exact HK1.out) hn).mono ?_
    rintro e w2 ⟨t2, k2, g2, rfl, ho, hb⟩
    have s2 : w1.heap.size ≤ w2.heap.size := hb.size
    replace HB := Lib.hid (below_next HB.out hb)
    have ho2 := ho
    clear ho HK1
    clear hb
    have hb : Below w2.heap.size w2 (w2.alloc (.cells #[.slice t2.a t2.n t2.c, .slice k2.a k2.n k2.c, .slice g2.a g2.n g2.c] 41)) := (Below.refl _ _).alloc (Nat.le_refl _) _
    replace HB := Lib.hid (below_next HB.out hb)
    have HWB := Lib.hid (Blk.new w2 41 #[.slice t2.a t2.n t2.c, .slice k2.a k2.n k2.c, .slice g2.a g2.n g2.c])
    have HWS := Lib.hid (ho2.next hb)
    clear ho2
    clear hb
    have cW := fun o => HWB.out.cell o
    have zW := HWB.out.lt
    go_wp2_with fail
    clear cW zW
    refine (toIntS_any _ _ _ z0 _ (HR.out.below HB.out) hn).mono ?_
    rintro e w3 ⟨g3, rfl, hg3, hk3, hb⟩
    have s3 : w2.heap.size + 1 ≤ w3.heap.size := by simpa using hb.size
    replace HWB := Lib.hid (HWB.out.next hb)
    replace HWS := Lib.hid (HWS.out.next hb)
    replace HB := Lib.hid (below_next HB.out hb)
    have HXB := Lib.hid hk3
    clear hk3
    clear hb
    have h3 : w2.heap.size + 1 ≤ g3 := by simpa using hg3
    have h3' : g3 < w3.heap.size := HXB.out.lt
    clear hg3
    have cW := fun o => HWB.out.cell o
    have zW := HWB.out.lt
    have cX := fun o => HXB.out.cell o
    have zX := HXB.out.lt
    go_wp2_with fail
    clear cW zW cX zX
    refine (implServiceNew_any _ _ _ z0 _ (by rw [← hl]; exact RdI.blk HXB.out) hn).mono ?_
    rintro e w4 ⟨t4, k4, g4, rfl, ho, hb⟩
    have s4 : w3.heap.size ≤ w4.heap.size := hb.size
    replace HWB := Lib.hid (HWB.out.next hb)
    replace HXB := Lib.hid (HXB.out.next hb)
    replace HWS := Lib.hid (HWS.out.next hb)
    replace HB := Lib.hid (below_next HB.out hb)
    have ho4 := ho
    clear ho
    clear hb
    have hb : Below w4.heap.size w4 (w4.alloc (.cells #[.slice t4.a t4.n t4.c, .slice k4.a k4.n k4.c, .slice g4.a g4.n g4.c] 41)) := (Below.refl _ _).alloc (Nat.le_refl _) _
    replace HWB := Lib.hid (HWB.out.next hb)
    replace HXB := Lib.hid (HXB.out.next hb)
    replace HWS := Lib.hid (HWS.out.next hb)
    replace HB := Lib.hid (below_next HB.out hb)
    have HGB := Lib.hid (Blk.new w4 41 #[.slice t4.a t4.n t4.c, .slice k4.a k4.n k4.c, .slice g4.a g4.n g4.c])
    have HGS := Lib.hid (ho4.next hb)
    clear ho4
    clear hb
    have cW := fun o => HWB.out.cell o
    have zW := HWB.out.lt
    have cX := fun o => HXB.out.cell o
    have zX := HXB.out.lt
    have cG := fun o => HGB.out.cell o
    have zG := HGB.out.lt
    go_wp2_with fail
    clear cW zW cX zX cG zG
    refine (eqService_same _ _ _ _ _ _ (newS z0).1 _ HGS.out.rd HWS.out.rd).mono ?_
    rintro e w5 ⟨rfl, hb⟩
    have s5 : w4.heap.size + 1 ≤ w5.heap.size := by simpa using hb.size
    replace HWB := Lib.hid (HWB.out.next hb)
    replace HXB := Lib.hid (HXB.out.next hb)
    replace HGB := Lib.hid (HGB.out.next hb)
    replace HWS := Lib.hid (HWS.out.next hb)
    replace HGS := Lib.hid (HGS.out.next hb)
    replace HB := Lib.hid (below_next HB.out hb)
    clear hb
    have cW := fun o => HWB.out.cell o
    have zW := HWB.out.lt
    have cX := fun o => HXB.out.cell o
    have zX := HXB.out.lt
    have cG := fun o => HGB.out.cell o
    have zG := HGB.out.lt
    go_wp2_with fail
    clear cW zW cX zX cG zG
    refine (toIntS_any _ _ _ z0 _ (HR.out.below HB.out) hn).mono ?_
    rintro e w6 ⟨g6, rfl, _, hk6, hb⟩
    have s6 : w5.heap.size ≤ w6.heap.size := hb.size
    replace HWB := Lib.hid (HWB.out.next hb)
    replace HXB := Lib.hid (HXB.out.next hb)
    replace HGB := Lib.hid (HGB.out.next hb)
    replace HWS := Lib.hid (HWS.out.next hb)
    replace HGS := Lib.hid (HGS.out.next hb)
    replace HB := Lib.hid (below_next HB.out hb)
    have HK6 := Lib.hid (RdI.blk hk6)
    clear hk6
    clear hb
    have cW := fun o => HWB.out.cell o
    have zW := HWB.out.lt
    have cX := fun o => HXB.out.cell o
    have zX := HXB.out.lt
    have cG := fun o => HGB.out.cell o
    have zG := HGB.out.lt
    go_wp2_with fail
    clear cW zW cX zX cG zG
    refine (eqIntS_same _ _ _ _ _ z0 _ (by rw [← hl]; exact RdI.blk HXB.out) (by rw [← hl]; exact HK6.out) hn).mono ?_
    rintro e w7 ⟨rfl, hb⟩
    have s7 : w6.heap.size ≤ w7.heap.size := hb.size
    replace HWB := Lib.hid (HWB.out.next hb)
    replace HXB := Lib.hid (HXB.out.next hb)
    replace HGB := Lib.hid (HGB.out.next hb)
    replace HWS := Lib.hid (HWS.out.next hb)
    replace HGS := Lib.hid (HGS.out.next hb)
    replace HB := Lib.hid (below_next HB.out hb)
    clear hb
    have hX : OwZ g3 (g3 + 1) w7 ⟨some ⟨g3, 0, none⟩, len0, len0⟩ z0 := ⟨Ow.of_blk HXB.out (by simpa using hl) hn (Nat.le_refl _), fun _ g hg => by simp at hg; omega⟩
    have cW := fun o => HWB.out.cell o
    have zW := HWB.out.lt
    have cX := fun o => HXB.out.cell o
    have zX := HXB.out.lt
    have cG := fun o => HGB.out.cell o
    have zG := HGB.out.lt
    go_wp2_with fail
    clear cW zW cX zX cG zG
    refine (markZ_any g3 _ _ _ z0 1 _ hX.ow (by omega) (by omega) hn).mono ?_
    rintro e w8 ⟨rfl, hx8, hg8⟩
    have hf := Frm.of_own hX hg8
    clear HXB hx8 hg8 hX HK6
    have hz1 := HB.out.size
    replace HWB := Lib.hid (HWB.out.frm hf (.inl (by omega)))
    replace HGB := Lib.hid (HGB.out.frm hf (.inr (by have := w3.heap.size; omega)))
    replace HWS := Lib.hid (HWS.out.frm hf (.inl (by omega)))
    replace HGS := Lib.hid (HGS.out.frm hf (.inr (by omega)))
    replace HB := Lib.hid (HB.out.trans (hf.below (by omega) (by have := HB.out.size; omega)))
    clear hf
    have q1 : ¬ (1 : Int) + len0 < 0 := by omega
    have cW := fun o => HWB.out.cell o
    have zW := HWB.out.lt
    have cG := fun o => HGB.out.cell o
    have zG := HGB.out.lt
    go_wp2_with fail
    clear cW zW cG zG
    refine (eqService_same _ _ _ _ _ _ (newS z0).1 _ HGS.out.rd HWS.out.rd).mono ?_
    rintro e w9 ⟨rfl, hb⟩
    have s9 : w8.heap.size ≤ w9.heap.size := hb.size
    replace HWB := Lib.hid (HWB.out.next hb)
    replace HGB := Lib.hid (HGB.out.next hb)
    replace HWS := Lib.hid (HWS.out.next hb)
    replace HGS := Lib.hid (HGS.out.next hb)
    replace HB := Lib.hid (below_next HB.out hb)
    clear hb
    have hGhi : w4.heap.size ≤ w9.heap.size := by have := HGB.out.lt; omega
    have cW := fun o => HWB.out.cell o
    have zW := HWB.out.lt
    have cG := fun o => HGB.out.cell o
    have zG := HGB.out.lt
    go_wp2_with fail
    clear cW zW cG zG
    refine (markS_any _ _ _ _ _ _ 1 _ HGS.out hGhi (by omega) (by omega)).mono ?_
    rintro e w10 ⟨S', m, rfl, hoG, hmk, hf, hm0, hm1⟩
    replace HWB := Lib.hid (HWB.out.frm hf (.inl (by omega)))
    replace HGB := Lib.hid (HGB.out.frm hf (.inr (by omega)))
    replace HWS := Lib.hid (HWS.out.frm hf (.inl (by omega)))
    replace HB := Lib.hid (HB.out.trans (hf.below (by omega) (by have := HB.out.size; omega)))
    replace HGS := Lib.hid hoG
    have HMK := Lib.hid hmk
    have q2 : ¬ m < 0 := by omega
    clear hf hoG hmk
    have cW := fun o => HWB.out.cell o
    have zW := HWB.out.lt
    have cG := fun o => HGB.out.cell o
    have zG := HGB.out.lt
    go_wp2_with fail
    clear cW zW cG zG
    refine (heldS_any _ _ _ S' 1 m _ HGS.out.rd HMK.out (by omega) (by omega)).mono ?_
    rintro e w11 ⟨rfl, hb⟩
    have s11 : w10.heap.size ≤ w11.heap.size := hb.size
    replace HWB := Lib.hid (HWB.out.next hb)
    replace HGB := Lib.hid (HGB.out.next hb)
    replace HWS := Lib.hid (HWS.out.next hb)
    replace HGS := Lib.hid (HGS.out.next hb)
    replace HB := Lib.hid (below_next HB.out hb)
    clear hb
    have cW := fun o => HWB.out.cell o
    have zW := HWB.out.lt
    have cG := fun o => HGB.out.cell o
    have zG := HGB.out.lt
    go_wp2_with fail
    clear cW zW cG zG
    refine (toIntS_any _ _ _ z0 _ (HR.out.below HB.out) hn).mono ?_
    rintro e w12 ⟨g12, rfl, _, hk12, hb⟩
    have s12 : w11.heap.size ≤ w12.heap.size := hb.size
    replace HWB := Lib.hid (HWB.out.next hb)
    replace HGB := Lib.hid (HGB.out.next hb)
    replace HWS := Lib.hid (HWS.out.next hb)
    replace HGS := Lib.hid (HGS.out.next hb)
    replace HB := Lib.hid (below_next HB.out hb)
    have HK12 := Lib.hid (RdI.blk hk12)
    clear hk12
    clear hb
    have cW := fun o => HWB.out.cell o
    have zW := HWB.out.lt
    have cG := fun o => HGB.out.cell o
    have zG := HGB.out.lt
    go_wp2_with fail
    clear cW zW cG zG
    refine (implServiceNew_any _ _ _ z0 _ (by rw [← hl]; exact HK12.out) hn).mono ?_
    rintro e w13 ⟨t13, k13, g13, rfl, ho, hb⟩
    have s13 : w12.heap.size ≤ w13.heap.size := hb.size
    replace HWB := Lib.hid (HWB.out.next hb)
    replace HGB := Lib.hid (HGB.out.next hb)
    replace HWS := Lib.hid (HWS.out.next hb)
    replace HGS := Lib.hid (HGS.out.next hb)
    replace HB := Lib.hid (below_next HB.out hb)
    have ho13 := ho
    clear ho HK12
    clear hb
    have hb : Below w13.heap.size w13 (w13.alloc (.cells #[.slice t13.a t13.n t13.c, .slice k13.a k13.n k13.c, .slice g13.a g13.n g13.c] 41)) := (Below.refl _ _).alloc (Nat.le_refl _) _
    replace HWB := Lib.hid (HWB.out.next hb)
    replace HGB := Lib.hid (HGB.out.next hb)
    replace HWS := Lib.hid (HWS.out.next hb)
    replace HGS := Lib.hid (HGS.out.next hb)
    replace HB := Lib.hid (below_next HB.out hb)
    have HHB := Lib.hid (Blk.new w13 41 #[.slice t13.a t13.n t13.c, .slice k13.a k13.n k13.c, .slice g13.a g13.n g13.c])
    have HHS := Lib.hid (ho13.next hb)
    clear ho13
    clear hb
    have cW := fun o => HWB.out.cell o
    have zW := HWB.out.lt
    have cG := fun o => HGB.out.cell o
    have zG := HGB.out.lt
    have cH := fun o => HHB.out.cell o
    have zH := HHB.out.lt
    go_wp2_with fail
    clear cW zW cG zG cH zH
    refine (eqService_same _ _ _ _ _ _ (newS z0).1 _ HHS.out.rd HWS.out.rd).mono ?_
    rintro e w14 ⟨rfl, hb⟩
    have s14 : w13.heap.size + 1 ≤ w14.heap.size := by simpa using hb.size
    replace HWB := Lib.hid (HWB.out.next hb)
    replace HGB := Lib.hid (HGB.out.next hb)
    replace HHB := Lib.hid (HHB.out.next hb)
    replace HWS := Lib.hid (HWS.out.next hb)
    replace HGS := Lib.hid (HGS.out.next hb)
    replace HHS := Lib.hid (HHS.out.next hb)
    replace HB := Lib.hid (below_next HB.out hb)
    clear hb
    have cW := fun o => HWB.out.cell o
    have zW := HWB.out.lt
    have cG := fun o => HGB.out.cell o
    have zG := HGB.out.lt
    have cH := fun o => HHB.out.cell o
    have zH := HHB.out.lt
    go_wp2_with fail
    clear cW zW cG zG cH zH
    refine (heldS_any _ _ _ S' 1 m _ HGS.out.rd HMK.out (by omega) (by omega)).mono ?_
    rintro e w15 ⟨rfl, hb⟩
    have s15 : w14.heap.size ≤ w15.heap.size := hb.size
    replace HWB := Lib.hid (HWB.out.next hb)
    replace HGB := Lib.hid (HGB.out.next hb)
    replace HHB := Lib.hid (HHB.out.next hb)
    replace HWS := Lib.hid (HWS.out.next hb)
    replace HGS := Lib.hid (HGS.out.next hb)
    replace HHS := Lib.hid (HHS.out.next hb)
    replace HB := Lib.hid (below_next HB.out hb)
    clear hb
    go_wp2_with fail
    go_ret
    exact ⟨rfl, HB.out⟩


set_option maxRecDepth 100000 in
theorem lifted (os : Os) (started : os.Started) (H : Type) (enc : TypeId × Value → H) :
    ReturnsInHanded {} Try.checked os 6 .any (Rows.fnExactServiceNewSpec.pre6 enc Try.prog Try.f6 Rows.fnExactServiceNewRow.domain false) (Rows.fnExactServiceNewSpec.post enc Try.prog Try.f6 false true false false) := by
  refine returnsInHanded_of_change (C := Try.checked) own_ started (by kernel_rfl) Try.func6
    (ChangeSpec.witness6 (enc := enc) (C := Try.checked) false ⟨#[], #[.slice none 0 0], []⟩ 8 (by kernel_rfl) (by kernel_rfl) (by kernel_rfl) (by kernel_rfl)) ?_
  intro W base args ds gs before hval0 hW hcnd _
  have hval : ∀ (j : Nat) t v, Try.f6.params[j]? = some t → args[j]? = some v → Value.okWide Try.prog W .any base t v := hval0
  have hW' := hW
  obtain ⟨p, q, hA0, hV, rfl, hfz, hnd⟩ := hW
  have hA : DataW.TrodAll enc Try.prog W 0 (fun _ => true) true Try.f6.params.toList args.toList ds p := hA0
  rw [Try.params6] at hA hval
  obtain ⟨v0, vs0, d0, ds0, p0, q0, hargs, rfl, rfl, h0, r0⟩ := trodAll_cons hA
  obtain ⟨rfl, rfl, rfl⟩ := trodAll_nil r0
  obtain rfl : args = #[v0] := by cases args; simp_all
  obtain ⟨rfl, rfl⟩ := trodVars_none hV
  obtain ⟨a0, len0, cap0, rfl⟩ := okWide_slice Try.underlying37 (hval 0 37 v0 rfl rfl)
  have k0 := h0
  have lt0 : ∀ x ∈ p0, x.block < W.heap.size := by obtain ⟨m, hm⟩ := k0; exact DataW.trod_lt m _ _ _ hm
  obtain ⟨z0, w0⟩ : ∃ zs, IntsIn W a0 len0 cap0 zs := by
    obtain ⟨fuel, hf⟩ := h0
    exact open_IntsIn Try.underlying37 Try.underlying3 (by kernel_rfl) (by simpa [Value.cells] using hf)
  clear hA0 hval0
  refine (walk a0 len0 cap0 z0 W w0).mono fun e W' ⟨he, bel⟩ => ?_
  subst he
  exact ⟨_, rfl, _, _, _, [], _, [], hW', trodAll_mk1 (shut_bool Try.underlying4 _), (trodAll_cons_mk (Below.trod laidOut_ (by kernel_rfl) (of_decide_eq_true (by kernel_rfl)) k0 bel lt0) trodAll_mk0), rfl, bel.frame _, fun h => by cases h⟩

theorem closed_ : joinedFacts Try.prog 6 Try.f6 Rows.fnExactServiceNewSpec Rows.fnExactServiceNewRow = true :=
  joined_by mayEnter_ liftsFinal_ make_ (by kernel_rfl) laidOut_ mapsRowed_ (by kernel_rfl) (by kernel_rfl) rfl stops_ rfl stopKnobs_ (by kernel_rfl) (by kernel_rfl) (by kernel_rfl) (by kernel_rfl) (by kernel_rfl) (by kernel_rfl) (by kernel_rfl) (by kernel_rfl) (by kernel_rfl) (by kernel_rfl) rfl stopsHeard_ rfl rfl rfl (by kernel_rfl)
theorem over : Rows.fnExactServiceNewRow.holds Try.pinned (OpenSpec.ofChange Rows.fnExactServiceNewSpec) :=
  OpenClaim.holds_of_wide 6 Try.f6 rfl rfl rfl rfl rfl rfl rfl ⟨rfl, rfl, rfl, rfl, rfl⟩ rfl rfl rfl rfl rfl (by kernel_rfl) Try.func6 closed_
    (of_decide_eq_true (by kernel_rfl)) (by unfold Func.isWrapper; first | (rw [if_pos (by decide +kernel)]; kernel_rfl) | (rw [if_neg (by decide +kernel)]; exact ⟨rfl, rfl⟩))
    (fun os started H enc _ => lifted os started H enc)

theorem proved : Rows.FnExactServiceNewSaid := over
#print axioms proved
end Go.Proofs.Ytnfmlmkabioepaa.fnExactServiceNew

/-
  laws.sameBoard.
-/
import Derived.Test.YtnfmlmkabioepaaLk
import Derived.Laws.StructEq
namespace Go.Proofs.Ytnfmlmkabioepaa
open Go.RowKit Go.Sort

theorem fieldsOf_of {P : Program} {t : TypeId} {fs : Array Field} (h : P.underlying t = some (.struct fs)) : P.fieldsOf t = fs := by unfold Program.fieldsOf; rw [h]

theorem eqE_run (e e' : Ent) (w : World) : (Op.equalIn 10000 25 (.agg #[.int .i64 e.1, .int .i64 e.2]) (.agg #[.int .i64 e'.1, .int .i64 e'.2])).run Try.prog w = .ok (decide (e = e')) w := by
  obtain ⟨a, b⟩ := e
  obtain ⟨a', b'⟩ := e'
  have hf := fieldsOf_of Try.underlying25
  rw [show (10000 : Nat) = 9999 + 1 from rfl, run_equalIn_struct w 9999 25 _ _ (by rw [hf]; exact Try.underlying25) (by kernel_rfl), hf]
  by_cases h1 : a = a' <;> by_cases h2 : b = b' <;> simp [Op.eqFields, go_sem, h1, h2]

set_option maxHeartbeats 1000000 in
theorem sameBoard_any (A A' : Option Addr) (n n' c c' : Nat) (es fs : List Ent) (w : World) (hr : RdE w A n es) (hr' : RdE w A' n' fs) (hn : n ≤ 1099511627776) (hn' : n' ≤ 1099511627776) :
    Calls Try.prog 14 #[.slice A n c, .slice A' n' c'] w fun e w' => e = .returned (.bool (decide (es = fs))) ∧ Below w.heap.size w w' := by
  have HR := Lib.hid hr; clear hr
  have HR' := Lib.hid hr'; clear hr'
  by_cases hnn : n = n'
  · subst hnn
    go_enter Try.func14, Try.ntmps14
    go_wp2
    go_loopw [5] (fun i wr => ∃ k : Nat, k ≤ n ∧ i = .int .i64 k ∧ Hid (Below w.heap.size w wr ∧ es.take k = fs.take k)) (fun i _ => n - (intOf i).toNat)
    case atStart => exact ⟨0, Nat.zero_le _, rfl, Below.refl _ _, rfl⟩
    case round =>
      obtain ⟨k, hk, rfl, HB⟩ := hrel
      by_cases hlt : k < n
      · obtain ⟨b, off, e, rfl, hb, he, h0, h1⟩ := (HR.out.below HB.out.1).at_ hlt
        obtain ⟨b', off', e', rfl, hb', he', h0', h1'⟩ := (HR'.out.below HB.out.1).at_ hlt
        have HE := Lib.hid he
        have HE' := Lib.hid he'
        clear he he'
        have hG := fun (x y : Operand) (W : World) => run_eqGuard_agg (P := Try.prog) W .neq 25 x y #[.int .i64 e.1, .int .i64 e.2] #[.int .i64 e'.1, .int .i64 e'.2] (by kernel_rfl)
        have hN := fun (W : World) => run_neq_struct (P := Try.prog) W 25 #[.int .i64 e.1, .int .i64 e.2] #[.int .i64 e'.1, .int .i64 e'.2]
        simp only [eqE_run, Result.andThen_ok] at hN
        cases hd : decide (e = e') with
        | true =>
          rw [hd] at hN
          have hee : e = e' := of_decide_eq_true hd
          clear hd
          go_wp2
          go_quiet (fail)
          go_wp2
          exact ⟨⟨k + 1, by omega, by go_num, ⟨HB.out.1.os, HB.out.1.tape, HB.out.1.output, HB.out.1.size, HB.out.1.block⟩, take_next HB.out.2 HE.out (by rw [hee]; exact HE'.out)⟩, by simp [intOf]; omega⟩
        | false =>
          rw [hd] at hN
          have hee := Lib.hid (of_decide_eq_false hd)
          clear hd
          go_wp2
          go_quiet (fail)
          go_wp2
          go_ret
          refine ⟨ret_bool (by symm; rw [decide_eq_false_iff_not]; rintro rfl; exact hee.out (by have := HE.out.symm.trans HE'.out; simpa using this)), ⟨HB.out.1.os, HB.out.1.tape, HB.out.1.output, HB.out.1.size, HB.out.1.block⟩⟩
      · go_wp2
        go_ret
        have hkn : k = n := by omega
        exact ⟨ret_bool (by symm; rw [decide_eq_true_iff]; exact take_all HB.out.2 (by rw [HR.out.len]; omega) (by rw [HR'.out.len]; omega)), HB.out.1⟩
  · have hne : ((n : Int) != n') = true := by simp; omega
    go_enter Try.func14, Try.ntmps14
    go_wp2
    go_ret
    exact ⟨ret_bool (by symm; rw [decide_eq_false_iff_not]; rintro rfl; exact hnn (HR.out.len.symm.trans HR'.out.len)), Below.refl _ _⟩
end Go.Proofs.Ytnfmlmkabioepaa

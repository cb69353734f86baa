/-
  An append that has room stays in place; clear at one entry. (to come: Delete)
-/
import Derived.Test.YtepddbfafdfadaaGreatMem
import Derived.Test.YtepddbfafdfadaaGreatLk
namespace Go.Proofs.YtepddbfafdfadaaGreat
open Go.RowKit Go.Sort

/-- an append that has room stays in place -/
theorem append_in_place {P : Program} {w w' : World} {t ty e : TypeId} {i : TypeInfo} (ht : P.underlying t = some (.slice e)) (hi : P.info? e = some i) {A A' A2 : Option Addr} {n m c c' c2 : Nat} (hroom : n + m ≤ c)
    (h : (Builtin.append_ #[t, t] ty #[.slice A n c, .slice A2 m c2]).run P w = .ok (.slice A' (n + m) c') w') : A' = A ∧ c' = c := by
  simp only [Builtin.append_, List.getElem?_toArray, List.getElem?_cons_zero, List.getElem?_cons_succ] at h
  simp [run_underlying ht, sizeOf, typeInfo, hi, Builtin.lenOf, hroom] at h
  generalize (Sem.run P (Builtin.firstCells i.size m (Value.slice A2 m c2)) w) = r at h
  cases r with
  | halt x w1 => simp [Result.andThen] at h
  | ok new w1 =>
    cases A with
    | none => simp [Result.andThen] at h; exact ⟨h.1.1.symm, h.1.2.symm⟩
    | some a =>
      simp [Result.andThen] at h
      split at h
      · simp at h; exact ⟨h.1.1.symm, h.1.2.symm⟩
      · simp at h

theorem zeroE_run (w : World) : (zeroValue 67).run Tryz.prog w = .ok (.agg #[.int .i64 0, .int .i64 0]) w := by kernel_rfl

theorem clear_one (b off c : Nat) (ty : TypeId) (w : World) (u0 u1 : Value) (h0 : w.cell? ⟨b, off, none⟩ = some u0) (h1 : w.cell? ⟨b, off + 1, none⟩ = some u1) (f0 : w.frozen? ⟨b, off, none⟩ = false) (f1 : w.frozen? ⟨b, off + 1, none⟩ = false) :
    (Builtin.clear_ #[56] ty #[.slice (some ⟨b, off, none⟩) 1 c]).run Tryz.prog w = .ok (.tuple #[]) ((w.setCell ⟨b, off, none⟩ (.int .i64 0)).setCell ⟨b, off + 1, none⟩ (.int .i64 0)) := by
  have hz : (Builtin.zeroCells #[Value.int .i64 0, Value.int .i64 0] 1).toList = [Value.int .i64 0, Value.int .i64 0] := by kernel_rfl
  have g1 : (w.setCell ⟨b, off, none⟩ (.int .i64 0)).cell? ⟨b, off + 1, none⟩ = some u1 := by rw [World.cell?_setCell_other _ _ _ _ (by simp)]; exact h1
  have e1 : (⟨b, off, none⟩ : Addr).add 1 = ⟨b, off + 1, none⟩ := Addr.add_lit ..
  simp [Builtin.clear_, run_underlying Tryz.underlying56, hz, go_sem, storeCells, h0, g1, f0, f1, e1]

/-- append to a row of the call's own that has room: it stays where it is -/
theorem step_append_in {P : Program} {w : World} {ops : Array Oper} {o : Oper} {a : Act} {K : Act → World → Prop} {Q : Exit → Act → World → Prop} {E : Prop} (hgd : o.guard = none) (s x : Operand) (t : TypeId)
    (ho : o.op = .call { callee := .builtin .append, args := #[s, x], argTypes := #[t, t] })
    (base : Nat) (e : TypeId) (i : TypeInfo) (z : Value) (size bytes : Nat) (ht : P.underlying t = some (.slice e)) (hi : P.info? e = some i) (hz : i.zero = some z)
    (hsize : i.size = size) (hby : i.bytes = bytes) (hzs : z.cells.size = size) (hsz : 0 < size)
    (A : Option Addr) (n c : Nat) (xs : List Value) (hs : a.eval s = .slice A n c) (hown : Ow base w e size A n c xs)
    (A2 : Option Addr) (m c2 : Nat) (news : List Value) (hx : a.eval x = .slice A2 m c2) (hr : Src w size A2 m news) (h1 : ∀ u ∈ news, u.oneCell' = true)
    (h63 : n + m ≤ maxLen) (hbytes : (n + m) * bytes ≤ 140737488355328) (hbase : base ≤ w.heap.size) (hroom : n + m ≤ c)
    (h : ∀ w', Ow base w' e size A (n + m) c (xs ++ news) → w.grownBy w' (ownB A c) → K (a.put o.dst (.slice A (n + m) c)) w') :
    if Region.wanted o (yielded ops a.tmps) = true then Oper.wp P o a w K Q else E := by
  have hw : Region.wanted o (yielded ops a.tmps) = true := by simp [Region.wanted, hgd]
  rw [if_pos hw]
  obtain ⟨A', c', w', hrun, h2, h3, h4⟩ := run_append_ow (P := P) w base t o.type e i z size bytes ht hi hz hsize hby hzs hsz A n c xs hown A2 m c2 news hr h1 h63 hbytes hbase
  obtain ⟨rfl, rfl⟩ := append_in_place ht hi hroom hrun
  unfold Oper.wp execOp
  simp only [ho, resolve, invoke, builtin, Sem.run_bind, Sem.run_pure, Result.andThen_ok, List.map_toArray, List.map_cons, List.map_nil, hs, hx, hrun]
  exact h w' h2 h3
end Go.Proofs.YtepddbfafdfadaaGreat

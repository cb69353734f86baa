/-
  copy and append-of-make at rows that are known whole, whatever the element's size: laws for the walk. No condition: lemmas over any program.
-/
import Derived.Test.YtepddbfafdfadaaGreatIn
import Derived.Laws.CopyRow
import Derived.Lib.AppendZerosOnto
import Derived.Lib.Overlaps
import Derived.Laws.Externs
import Derived.StillTailTactics
namespace Go.Proofs.YtepddbfafdfadaaGreat
open Go.RowKit Go.Sort

theorem wpList_append_in {P : Program} (w : World) {ops : Array Oper} {rest : List Oper} {o : Oper} {a : Act} {Q : Exit → Act → World → Prop} (hgd : o.guard = none) (s x : Operand) (t : TypeId)
    (ho : o.op = .call { callee := .builtin .append, args := #[s, x], argTypes := #[t, t] })
    (base : Nat) (e : TypeId) (i : TypeInfo) (z : Value) (size bytes : Nat) (ht : P.underlying t = some (.slice e)) (hi : P.info? e = some i) (hz : i.zero = some z)
    (hsize : i.size = size) (hby : i.bytes = bytes) (hzs : z.cells.size = size) (hsz : 0 < size)
    (A : Option Addr) (n c : Nat) (xs : List Value) (hs : a.eval s = .slice A n c) (hown : Ow base w e size A n c xs)
    (A2 : Option Addr) (m c2 : Nat) (news : List Value) (hx : a.eval x = .slice A2 m c2) (hr : Src w size A2 m news) (h1 : ∀ u ∈ news, u.oneCell' = true)
    (h63 : n + m ≤ maxLen) (hbytes : (n + m) * bytes ≤ 140737488355328) (hbase : base ≤ w.heap.size) (hroom : n + m ≤ c)
    (h : ∀ w', Ow base w' e size A (n + m) c (xs ++ news) → w.grownBy w' (ownB A c) → wpList P ops Q rest (a.put o.dst (.slice A (n + m) c)) w') : wpList P ops Q (o :: rest) a w :=
  wpList_plain hgd fun _ hK => by
    obtain ⟨A', c', w', hrun, h2, h3, h4⟩ := run_append_ow (P := P) w base t o.type e i z size bytes ht hi hz hsize hby hzs hsz A n c xs hown A2 m c2 news hr h1 h63 hbytes hbase
    obtain ⟨rfl, rfl⟩ := append_in_place ht hi hroom hrun
    unfold Oper.wp execOp
    simp only [ho, resolve, invoke, builtin, Sem.run_bind, Sem.run_pure, Result.andThen_ok, List.map_toArray, List.map_cons, List.map_nil, hs, hx, hrun]
    exact hK _ _ (h w' h2 h3)

theorem Src.drew {w : World} {size m : Nat} {A : Option Addr} {news : List Value} (h : Src w size A m news) : Src w.drew size A m news := h

/-- vs written over cs from place o on -/
def over (cs : List Value) (o : Nat) (vs : List Value) : List Value := cs.take o ++ vs ++ cs.drop (o + vs.length)
theorem over_length {cs : List Value} {o : Nat} {vs : List Value} (h : o + vs.length ≤ cs.length) : (over cs o vs).length = cs.length := by
  simp [over]; omega

section
variable {P : Program} (w : World)
theorem run_copy_blk (dT sT ty elem : TypeId) (sz g o dLen dCap : Nat) (A : Option Addr) (sLen sCap m : Nat) (cur : Array Value) (T : TypeId) (cs : List Value)
    (hu : P.underlying dT = some (.slice elem)) (hs : (P.info? elem).map (·.size) = some sz) (hg : Blk w g T cur) (hm : Nat.min sLen dLen = m) (hr : Src w sz A m cs) (hA : A = none → sLen = 0)
    (hfit : o + cs.length ≤ cur.size) (h1 : ∀ v ∈ cs, v.oneCell' = true) :
    (Builtin.copy_ #[dT, sT] ty #[.slice (some ⟨g, o, none⟩) dLen dCap, .slice A sLen sCap]).run P w = .ok (goInt m) (w.setRow g (over cur.toList o cs).toArray) := by
  cases hq : P.info? elem with
  | none => simp [hq] at hs
  | some i =>
    have hi : i.size = sz := by simpa [hq] using hs
    have hst := run_storeCells_at P g o T cs 0 cur w hg (by simpa using hfit) h1
    simp only [Nat.add_zero] at hst
    cases A with
    | none =>
      have h0 := hA rfl
      subst h0
      have hm0 : m = 0 := by rw [← hm]; exact Nat.zero_min _
      subst hm0
      obtain rfl : cs = [] := List.eq_nil_of_length_eq_zero (by simpa using hr.1)
      have hw : w.setRow g (over cur.toList o []).toArray = w := by
        have : (over cur.toList o []).toArray = cur := by simp [over]
        rw [this, setRow_self w g cur T (0, 0) hg]
      rw [hw]
      simp [Builtin.copy_, run_underlying hu, Builtin.lenOf, Builtin.firstCells, sizeOf, typeInfo, hq, storeCells]
    | some a =>
      have hcells : ∀ j v, cs[j]? = some v → w.cell? (a.add j) = some v := by
        intro j v hj
        rcases Nat.eq_zero_or_pos m with h0 | h0
        · subst h0
          obtain rfl : cs = [] := List.eq_nil_of_length_eq_zero (by simpa using hr.1)
          simp at hj
        · obtain ⟨ad, e, hc⟩ := hr.2 h0
          injection e with e
          subst e
          exact hc j v hj
      have hl := run_loadCells_list (P := P) w a cs hcells
      rw [hr.1] at hl
      simp [Builtin.copy_, run_underlying hu, Builtin.lenOf, Builtin.firstCells, sizeOf, typeInfo, hq, hi, hm, hl, hst, over]

theorem Blk.setRow_ {w : World} {g T : Nat} {cs : Array Value} (h : Blk w g T cs) (cs' : Array Value) : Blk (w.setRow g cs') g T cs' := setRow_heap w g cs cs' T (0, 0) h
theorem only_setRow (w : World) (g : Nat) (cs : Array Value) : w.grownBy (w.setRow g cs) (some g) := by
  refine ⟨rfl, rfl, rfl, by simp [World.setRow], fun i hi hne => ?_⟩
  unfold World.setRow
  simp only [Array.getElem?_modify]
  rw [if_neg (by rintro rfl; exact hne rfl)]

/-- the same, with the world behind it under a name: the walk takes the first part as a fact of the context -/
theorem copy_ex (dT elem : TypeId) (sz g o dLen : Nat) (A : Option Addr) (sLen m : Nat) (cur : Array Value) (T : TypeId) (cs : List Value)
    (hu : P.underlying dT = some (.slice elem)) (hs : (P.info? elem).map (·.size) = some sz) (hg : Blk w g T cur) (hm : Nat.min sLen dLen = m) (hr : Src w sz A m cs) (hA : A = none → sLen = 0)
    (hfit : o + cs.length ≤ cur.size) (h1 : ∀ v ∈ cs, v.oneCell' = true) :
    ∃ w', (∀ ty dCap sCap, (Builtin.copy_ #[dT, dT] ty #[.slice (some ⟨g, o, none⟩) dLen dCap, .slice A sLen sCap]).run P w = .ok (goInt m) w') ∧ Blk w' g T (over cur.toList o cs).toArray ∧ w.grownBy w' (some g) :=
  ⟨_, fun ty dCap sCap => run_copy_blk w dT dT ty elem sz g o dLen dCap A sLen sCap m cur T cs hu hs hg hm hr hA hfit h1, hg.setRow_ _, only_setRow _ _ _⟩

theorem wp_copy_blk {o : Oper} {a : Act} {K : Act → World → Prop} {Q : Exit → Act → World → Prop} (d s : Operand) (t : TypeId)
    (ho : o.op = .call { callee := .builtin .copy, args := #[d, s], argTypes := #[t, t] }) (elem : TypeId) (sz g off dLen dCap : Nat) (A : Option Addr) (sLen sCap m : Nat) (cur : Array Value) (T : TypeId) (cs : List Value)
    (hd : a.eval d = .slice (some ⟨g, off, none⟩) dLen dCap) (hs : a.eval s = .slice A sLen sCap)
    (hu : P.underlying t = some (.slice elem)) (hsz : (P.info? elem).map (·.size) = some sz) (hg : Blk w g T cur) (hm : Nat.min sLen dLen = m) (hr : Src w sz A m cs) (hA : A = none → sLen = 0)
    (hfit : off + cs.length ≤ cur.size) (h1 : ∀ v ∈ cs, v.oneCell' = true)
    (h : ∀ w', Blk w' g T (over cur.toList off cs).toArray → w.grownBy w' (some g) → K (a.put o.dst (goInt m)) w') : o.wp P a w K Q := by
  unfold Oper.wp execOp
  simp only [ho, resolve, invoke, builtin, Sem.run_bind, Sem.run_pure, Result.andThen_ok, List.map_toArray, List.map_cons, List.map_nil, hd, hs, run_copy_blk (P := P) w t t o.type elem sz g off dLen dCap A sLen sCap m cur T cs hu hsz hg hm hr hA hfit h1]
  exact h _ (hg.setRow_ _) (only_setRow _ _ _)

theorem wpList_copy_blk {ops : Array Oper} {rest : List Oper} {o : Oper} {a : Act} {Q : Exit → Act → World → Prop} (hgd : o.guard = none) (d s : Operand) (t : TypeId)
    (ho : o.op = .call { callee := .builtin .copy, args := #[d, s], argTypes := #[t, t] }) (elem : TypeId) (sz g off dLen dCap : Nat) (A : Option Addr) (sLen sCap m : Nat) (cur : Array Value) (T : TypeId) (cs : List Value)
    (hd : a.eval d = .slice (some ⟨g, off, none⟩) dLen dCap) (hs : a.eval s = .slice A sLen sCap)
    (hu : P.underlying t = some (.slice elem)) (hsz : (P.info? elem).map (·.size) = some sz) (hg : Blk w g T cur) (hm : Nat.min sLen dLen = m) (hr : Src w sz A m cs) (hA : A = none → sLen = 0)
    (hfit : off + cs.length ≤ cur.size) (h1 : ∀ v ∈ cs, v.oneCell' = true)
    (h : ∀ w', Blk w' g T (over cur.toList off cs).toArray → w.grownBy w' (some g) → wpList P ops Q rest (a.put o.dst (goInt m)) w') : wpList P ops Q (o :: rest) a w :=
  wpList_plain hgd fun _ hK => wp_copy_blk w d s t ho elem sz g off dLen dCap A sLen sCap m cur T cs hd hs hu hsz hg hm hr hA hfit h1 fun w' hb hgr => hK _ _ (h w' hb hgr)
end

theorem step_copy_blk {P : Program} {w : World} {ops : Array Oper} {o : Oper} {a : Act} {K : Act → World → Prop} {Q : Exit → Act → World → Prop} {E : Prop} (hgd : o.guard = none) (d s : Operand) (t : TypeId)
    (ho : o.op = .call { callee := .builtin .copy, args := #[d, s], argTypes := #[t, t] }) (elem : TypeId) (sz g off dLen dCap : Nat) (A : Option Addr) (sLen sCap m : Nat) (cur : Array Value) (T : TypeId) (cs : List Value)
    (hd : a.eval d = .slice (some ⟨g, off, none⟩) dLen dCap) (hs : a.eval s = .slice A sLen sCap)
    (hu : P.underlying t = some (.slice elem)) (hsz : (P.info? elem).map (·.size) = some sz) (hg : Blk w g T cur) (hm : Nat.min sLen dLen = m) (hr : Src w sz A m cs) (hA : A = none → sLen = 0)
    (hfit : off + cs.length ≤ cur.size) (h1 : ∀ v ∈ cs, v.oneCell' = true)
    (h : ∀ w', Blk w' g T (over cur.toList off cs).toArray → w.grownBy w' (some g) → K (a.put o.dst (goInt m)) w') :
    if Region.wanted o (yielded ops a.tmps) = true then Oper.wp P o a w K Q else E := by
  have hw : Region.wanted o (yielded ops a.tmps) = true := by simp [Region.wanted, hgd]
  rw [if_pos hw]
  exact wp_copy_blk w d s t ho elem sz g off dLen dCap A sLen sCap m cur T cs hd hs hu hsz hg hm hr hA hfit h1 h

/-- append(s, make([]T, l)...) where there is no room: a new row: what there was, then zeros -/
theorem wpList_append_make {P : Program} (w : World) {ops : Array Oper} {rest : List Oper} {o : Oper} {a : Act} {Q : Exit → Act → World → Prop} (hgd : o.guard = none) (s x : Operand) (t tn : TypeId)
    (ho : o.op = .call { callee := .builtin .append, args := #[s, x], argTypes := #[t, tn] }) (e : TypeId) (i : TypeInfo) (z : Value) (sz bytes : Nat) (kq kn : IntKind)
    (ht : P.underlying t = some (.slice e)) (htn : P.underlying tn = some (.int kn)) (hi : P.info? e = some i) (hz : i.zero = some z) (hsize : i.size = sz) (hby : i.bytes = bytes) (hzs : z.cells.size = sz) (hsz : 0 < sz)
    (A : Option Addr) (n c : Nat) (olds : List Value) (hs : a.eval s = .slice A n c) (hr : Src w sz A n olds) (hA : A = none → n = 0)
    (l N : Nat) (hx : a.eval x = .int kq l) (h0 : 0 < l) (hN : n + l = N) (hroom : c < N) (hbig : N * bytes ≤ 140737488355328) (hN63 : N ≤ 1099511627777)
    (h : ∀ G ROW w', N ≤ G → G ≤ maxLen → ROW.size = G * sz → ROW.toList.take (n * sz) = olds → Blk w' w.heap.size e ROW → Below w.heap.size w w' → wpList P ops Q rest (a.put o.dst (.slice (some ⟨w.heap.size, 0, none⟩) N G)) w') : wpList P ops Q (o :: rest) a w := by
  subst hN
  have hold : (Builtin.firstCells i.size n (.slice A n c)).run P w.drew = .ok olds.toArray w.drew := by
    rw [hsize]
    cases A with
    | none =>
      have := hA rfl
      subst this
      obtain rfl : olds = [] := List.eq_nil_of_length_eq_zero (by simpa using hr.1)
      exact run_firstCells_none w.drew sz 0 0 c
    | some ad =>
      refine run_firstCells_some w.drew sz n ad n c olds hr.1 (fun j v hj => ?_)
      rcases Nat.eq_zero_or_pos n with hn | hn
      · subst hn
        obtain rfl : olds = [] := List.eq_nil_of_length_eq_zero (by simpa using hr.1)
        simp at hj
      · obtain ⟨ad', e1, hc⟩ := hr.2 hn
        injection e1 with e1
        subst e1
        exact hc j v hj
  have hrun := Lib.run_append_grow_zeros (P := P) w t tn o.type e i z kq kn ht htn hi hz A n c olds hold l h0 (by omega) hroom (by omega) (by rw [hby]; have : l * bytes ≤ (n + l) * bytes := Nat.mul_le_mul_right _ (by omega); omega) (by rw [hby]; exact growslice_fits hroom hbig)
  refine Lib.wpList_append_run w hgd s x t tn ho _ _ hs hx _ _ hrun ?_
  have hG := grownCap_ge w (n + l) c e
  refine h _ _ _ hG (grownCap_le_maxLen w (n + l) c e (by unfold maxLen; omega)) ?_ ?_ (Blk.new w.drew e _) ?_
  · simp only [Array.size_append, List.size_toArray, hr.1, Builtin.zeroCells, hzs]
    simp
    rw [← Nat.add_mul, ← Nat.add_mul]
    congr 1
    omega
  · simp only [Array.toList_append, List.append_assoc]
    rw [List.take_append_of_le_length (by simp [hr.1])]
    exact List.take_of_length_le (by simp [hr.1])
  · exact ⟨rfl, rfl, rfl, by simp [World.alloc], fun k hk => Below.heap_alloc w.drew _ k hk⟩
theorem over_then {cs vs D : List Value} {a : Nat} (h : a ≤ cs.length) : (over (over cs a vs) (a + vs.length) D).take (a + vs.length + D.length) = cs.take a ++ vs ++ D := by
  have h1 : (over cs a vs).take (a + vs.length) = cs.take a ++ vs := by
    unfold over
    rw [List.take_append_of_le_length (by simp; omega), List.take_of_length_le (by simp; omega)]
  rw [over, h1, List.take_append_of_le_length (by simp; omega), List.take_of_length_le (by simp; omega)]
theorem over_before {cs vs D : List Value} {a : Nat} (h : a + vs.length ≤ cs.length) : (over (over cs (a + vs.length) D) a vs).take (a + vs.length + D.length) = cs.take a ++ vs ++ D := by
  have h1 : (over cs (a + vs.length) D).take a = cs.take a := by
    unfold over
    rw [List.append_assoc, List.take_append_of_le_length (by simp; omega), List.take_take, Nat.min_eq_left (by omega)]
  have h2 : (over cs (a + vs.length) D).drop (a + vs.length) = D ++ cs.drop (a + vs.length + D.length) := by
    unfold over
    rw [List.append_assoc, List.drop_append_of_le_length (by simp; omega), List.drop_of_length_le (by simp; omega), List.nil_append]
  rw [over, h1, h2]
  rw [← List.append_assoc, List.take_append_of_le_length (by simp; omega), List.take_of_length_le (by simp; omega)]
end Go.Proofs.YtepddbfafdfadaaGreat

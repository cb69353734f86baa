/-
  Memory that a call makes itself: rows that it owns, appended to from any slice that reads; what a world keeps when one block is written. No condition: lemmas over any program.
-/
import Derived.Test.YtepddbfafdfadaaGreatBase
import Derived.Laws.OwnMore
import Derived.Maps.AppendAt
import Derived.Deep.AppendLies
import Derived.RegionTactic
import Derived.OwnWalk
import Derived.Deep.LoopGhost
import Derived.Deep.Cut
import Derived.Deep.CutRange
import Derived.Deep.DeepCutAuto
import Derived.Deep.RegionLaw
namespace Go.Proofs.YtepddbfafdfadaaGreat
open Go.RowKit Go.Sort

/-- of the old blocks only g may have turned -/
def Only (g : Nat) (w w' : World) : Prop := w.grownBy w' (some g)
section
variable {g : Nat} {a b c w w' : World}
theorem Only.refl (g : Nat) (w : World) : Only g w w := World.grownBy.refl w _
theorem Only.size (h : Only g a b) : a.heap.size ≤ b.heap.size := World.grownBy.size h
theorem Only.trans (h : Only g a b) (k : Only g b c) : Only g a c :=
  ⟨k.os.trans h.os, k.tape.trans h.tape, k.output.trans h.output, Nat.le_trans h.size k.size, fun i hi hne => (k.block i (Nat.lt_of_lt_of_le hi h.size) hne).trans (h.block i hi hne)⟩
theorem Only.of_below (h : Below a.heap.size a b) (g : Nat) : Only g a b := ⟨h.os, h.tape, h.output, h.size, fun i hi _ => h.block i hi⟩
theorem Only.below {B : Nat} (h : Only g a b) (hg : B ≤ g) (hB : B ≤ a.heap.size) : Below B a b := ⟨h.os, h.tape, h.output, h.size, fun k hk => h.block k (by omega) (by intro e; injection e with e; omega)⟩
theorem Only.next (h : Only g a b) (k : Below b.heap.size b c) : Only g a c := h.trans (Only.of_below k g)
theorem Only.set_ {p : Addr} (h : Only g a b) (hp : p.block = g ∨ a.heap.size ≤ p.block) (u : Value) : Only g a (b.setCell p u) :=
  ⟨h.os, h.tape, h.output, by simpa [World.setCell] using h.size, fun i hi hne => (Below.heap_setCell b p u i (by
    rintro rfl
    rcases hp with hp | hp
    · exact hne (by rw [hp])
    · omega)).trans (h.block i hi hne)⟩
theorem Only.drewN (h : Only g a b) (n : Nat) : Only g a (b.drewN n) := ⟨h.os, h.tape, h.output, h.size, h.block⟩
theorem Only.cell {x : Nat} (h : Only g w w') (hx : x < w.heap.size) (hne : x ≠ g) (o : Nat) : w'.cell? ⟨x, o, none⟩ = w.cell? ⟨x, o, none⟩ := World.cell?_of_block (w := w) (h.block x hx (by intro e; injection e with e; exact hne e))
theorem Only.frozen {x : Nat} (h : Only g w w') (hx : x < w.heap.size) (hne : x ≠ g) (o : Nat) : w'.frozen? ⟨x, o, none⟩ = w.frozen? ⟨x, o, none⟩ := World.frozen?_of_block (w := w) (h.block x hx (by intro e; injection e with e; exact hne e))
theorem Blk.only {x T : Nat} {cs : Array Value} (hb : Blk w x T cs) (h : Only g w w') (hne : x ≠ g) : Blk w' x T cs := (h.block x hb.lt (by intro e; injection e with e; exact hne e)).trans hb
theorem Blk.ne_ {g' T T' : Nat} {cs cs' : Array Value} (h : Blk w g T cs) (h' : Blk w g' T' cs') (hne : T ≠ T') : g ≠ g' := by
  rintro rfl
  unfold Blk at h h'
  rw [h] at h'
  injection h' with h'
  injection h' with _ ht
  exact hne ht
end

/-- A row of the call's own, in a form that the walk sees: '.slice A n c'. -/
theorem own_form {w : World} {base e size n : Nat} {v : Value} {xs : List Value} (h : w.ownsRow base e size v n xs) : ∃ A c, v = .slice A n c := by
  rcases h.2 with ⟨rfl, h0⟩ | ⟨g, cap, cur, rfl, _⟩
  · exact ⟨none, 0, by rw [h0]⟩
  · exact ⟨_, _, rfl⟩

/-- What a slice's first m elements hold (size cells each). -/
def Src (w : World) (size : Nat) (A : Option Addr) (m : Nat) (news : List Value) : Prop :=
  news.length = m * size ∧ (0 < m → ∃ ad, A = some ad ∧ ∀ j u, news[j]? = some u → w.cell? (ad.add j) = some u)
theorem Src.keep {w w' : World} {size m : Nat} {A : Option Addr} {news : List Value} (h : Src w size A m news) (hk : ∀ p : Addr, p.block < w.heap.size → w'.cell? p = w.cell? p) : Src w' size A m news :=
  ⟨h.1, fun hm => by
    obtain ⟨ad, e, hc⟩ := h.2 hm
    refine ⟨ad, e, fun j u hu => ?_⟩
    have h1 := hc j u hu
    rw [hk _ (World.block_lt_of_cell? _ _ h1)]
    exact h1⟩
theorem Src.below {w w' : World} {size m : Nat} {A : Option Addr} {news : List Value} (h : Src w size A m news) (hb : Below w.heap.size w w') : Src w' size A m news := h.keep fun _ hp => hb.cell hp
theorem Src.ents {w : World} {A : Option Addr} {n : Nat} {es : List Ent} (h : RdE w A n es) : Src w 2 A n (cellsE es) := by
  refine ⟨by rw [cellsE_length, h.1], fun hn => ?_⟩
  obtain ⟨b, off, hA, hb, hc⟩ := h.2 hn
  refine ⟨_, hA, fun j u hu => ?_⟩
  rw [Addr.add_lit]
  have hj : j < (cellsE es).length := (List.getElem?_eq_some_iff.1 hu).1
  rw [cellsE_length] at hj
  have he : es[j / 2]? = some es[j / 2] := List.getElem?_eq_getElem (by omega)
  obtain ⟨d0, d1⟩ := cellsE_get es _ _ he
  obtain ⟨c0, c1⟩ := hc _ _ he
  rcases Nat.mod_two_eq_zero_or_one j with h2 | h2
  · have e2 : j = j / 2 * 2 := by omega
    rw [e2] at hu ⊢
    rw [d0] at hu
    injection hu with hu
    rw [c0, hu]
  · have e2 : j = j / 2 * 2 + 1 := by omega
    rw [e2] at hu ⊢
    rw [d1] at hu
    injection hu with hu
    rw [← Nat.add_assoc, c1, hu]

theorem Src.blk {w : World} {g T size m : Nat} {news : List Value} (h : Blk w g T news.toArray) (hl : news.length = m * size) : Src w size (some ⟨g, 0, none⟩) m news :=
  ⟨hl, fun _ => ⟨_, rfl, fun j u hu => by rw [Addr.add_lit, Nat.zero_add, h.cell]; simpa using hu⟩⟩

section
variable {P : Program} (w : World)
theorem run_append_of_nil (base : Nat) (t ty e : TypeId) (i : TypeInfo) (size : Nat) (ht : P.underlying t = some (.slice e)) (hi : P.info? e = some i)
    (v : Value) (n : Nat) (xs : List Value) (hown : w.ownsRow base e size v n xs) (c : Nat) : (Builtin.append_ #[t, t] ty #[v, .slice none 0 c]).run P w = .ok v w := by
  rcases hown.2 with ⟨rfl, rfl⟩ | ⟨g, cap, cur, rfl, _, _, hnc, _⟩
  · simp [Builtin.append_, run_underlying ht, sizeOf, typeInfo, hi, Builtin.lenOf, Builtin.firstCells]
  · simp [Builtin.append_, run_underlying ht, sizeOf, typeInfo, hi, Builtin.lenOf, Builtin.firstCells, hnc, storeCells]

theorem run_append_any (base : Nat) (t ty e : TypeId) (i : TypeInfo) (z : Value) (size bytes : Nat) (ht : P.underlying t = some (.slice e)) (hi : P.info? e = some i) (hz : i.zero = some z)
    (hsize : i.size = size) (hby : i.bytes = bytes) (hzs : z.cells.size = size) (hsz : 0 < size)
    (v : Value) (n : Nat) (xs : List Value) (hown : w.ownsRow base e size v n xs)
    (A : Option Addr) (m c : Nat) (news : List Value) (hr : Src w size A m news) (h1 : ∀ u ∈ news, u.oneCell' = true)
    (h63 : n + m ≤ maxLen) (hbytes : (n + m) * bytes ≤ 140737488355328) (hbase : base ≤ w.heap.size) (hA : A = none → m = 0) :
    ∃ v' w', (Builtin.append_ #[t, t] ty #[v, .slice A m c]).run P w = .ok v' w' ∧ w'.ownsRow base e size v' (n + m) (xs ++ news) ∧ w.grownBy w' v.ownBlock ∧
      (v'.ownBlock = v.ownBlock ∨ v'.ownBlock = some w.heap.size) := by
  rcases A with _ | ad
  · obtain rfl := hA rfl
    obtain rfl : news = [] := List.eq_nil_of_length_eq_zero (by simpa using hr.1)
    exact ⟨v, w, run_append_of_nil w base t ty e i size ht hi v n xs hown c, by simpa using hown, World.grownBy.refl w _, .inl rfl⟩
  · have hcells : ∀ j u, news[j]? = some u → w.cell? (ad.add j) = some u := by
      intro j u hu
      rcases Nat.eq_zero_or_pos m with h0 | h0
      · subst h0
        obtain rfl : news = [] := List.eq_nil_of_length_eq_zero (by simpa using hr.1)
        simp at hu
      · obtain ⟨ad', h, hc⟩ := hr.2 h0
        injection h with h
        subst h
        exact hc j u hu
    obtain ⟨v', w', hrun, h2, h3, _, h5⟩ := run_append_own_at (P := P) w base t ty e i z size bytes ht hi hz hsize hby hzs hsz v n xs hown ad m c news hr.1 hcells h1 h63 hbytes hbase
    exact ⟨v', w', hrun, h2, h3, h5⟩

end

/-- A row of the call's own; a slice without capacity counts whatever its address. -/
def Ow (B : Nat) (w : World) (T size : Nat) (A : Option Addr) (n c : Nat) (xs : List Value) : Prop :=
  (n = 0 ∧ c = 0 ∧ xs = []) ∨ (0 < c ∧ w.ownsRow B T size (.slice A n c) n xs)
theorem Ow.of_own {B : Nat} {w : World} {T size n c : Nat} {A : Option Addr} {xs : List Value} (h : w.ownsRow B T size (.slice A n c) n xs) : Ow B w T size A n c xs := by
  rcases Nat.eq_zero_or_pos c with hc | hc
  · left
    have hn : n = 0 := by
      rcases h.2 with ⟨_, h0⟩ | ⟨g, cap, cur, hv, _, _, hnc, _⟩
      · exact h0
      · injection hv with _ _ h3; omega
    exact ⟨hn, hc, List.eq_nil_of_length_eq_zero (by rw [h.1, hn]; simp)⟩
  · exact .inr ⟨hc, h⟩

/-- the block that an append to it may write -/
def ownB (A : Option Addr) (c : Nat) : Option Nat := if c = 0 then none else A.map (·.block)

section
variable {P : Program} (w : World)
theorem run_append_bare (t ty e : TypeId) (i : TypeInfo) (ht : P.underlying t = some (.slice e)) (hi : P.info? e = some i) (a : Addr) (m c : Nat) (A : Option Addr) (hm : 0 < m) (hm63 : m ≤ maxLen) (hb : m * i.bytes ≤ 140737488355328) :
    (Builtin.append_ #[t, t] ty #[.slice (some a) 0 0, .slice A m c]).run P w = (Builtin.append_ #[t, t] ty #[.slice none 0 0, .slice A m c]).run P w := by
  have h0 : ¬ m = 0 := by omega
  have h1 : ¬ (9223372036854775807 < (m : Int) ∧ i.bytes = 0) := by unfold maxLen at hm63; omega
  have h2 : Builtin.nextslicecap m 0 = m := by unfold Builtin.nextslicecap; rw [if_pos (by omega)]
  have h3 : ¬ 281474976710656 < m * i.bytes := by omega
  simp [Builtin.append_, run_underlying ht, sizeOf, typeInfo, hi, Builtin.lenOf, h0, Builtin.firstCells, loadCells, loadCellsFrom, h1, h2, h3]

theorem run_append_none_ (t ty e : TypeId) (i : TypeInfo) (ht : P.underlying t = some (.slice e)) (hi : P.info? e = some i) (A A' : Option Addr) (c : Nat) :
    (Builtin.append_ #[t, t] ty #[.slice A 0 0, .slice A' 0 c]).run P w = .ok (.slice A 0 0) w := by
  cases A <;> cases A' <;> simp [Builtin.append_, run_underlying ht, sizeOf, typeInfo, hi, Builtin.lenOf, Builtin.firstCells, loadCells, loadCellsFrom, storeCells]

/-- append to a row of the call's own, from any slice that reads -/
theorem run_append_ow (base : Nat) (t ty e : TypeId) (i : TypeInfo) (z : Value) (size bytes : Nat) (ht : P.underlying t = some (.slice e)) (hi : P.info? e = some i) (hz : i.zero = some z)
    (hsize : i.size = size) (hby : i.bytes = bytes) (hzs : z.cells.size = size) (hsz : 0 < size)
    (A : Option Addr) (n c : Nat) (xs : List Value) (hown : Ow base w e size A n c xs)
    (A2 : Option Addr) (m c2 : Nat) (news : List Value) (hr : Src w size A2 m news) (h1 : ∀ u ∈ news, u.oneCell' = true)
    (h63 : n + m ≤ maxLen) (hbytes : (n + m) * bytes ≤ 140737488355328) (hbase : base ≤ w.heap.size) :
    ∃ A' c' w', (Builtin.append_ #[t, t] ty #[.slice A n c, .slice A2 m c2]).run P w = .ok (.slice A' (n + m) c') w' ∧ Ow base w' e size A' (n + m) c' (xs ++ news) ∧ w.grownBy w' (ownB A c) ∧
      (∀ g, A'.map (·.block) = some g → 0 < c' → ownB A c = some g ∨ g = w.heap.size) := by
  have hA : A2 = none → m = 0 := by
    intro h
    rcases Nat.eq_zero_or_pos m with h0 | h0
    · exact h0
    · obtain ⟨ad, h2, _⟩ := hr.2 h0
      rw [h] at h2; cases h2
  have key : ∀ v : Value, ∀ (n : Nat) (xs : List Value), w.ownsRow base e size v n xs → n + m ≤ maxLen → (n + m) * bytes ≤ 140737488355328 → ∃ A' c' w', (Builtin.append_ #[t, t] ty #[v, .slice A2 m c2]).run P w = .ok (.slice A' (n + m) c') w' ∧ w'.ownsRow base e size (.slice A' (n + m) c') (n + m) (xs ++ news) ∧ w.grownBy w' v.ownBlock ∧
      ((Value.slice A' (n + m) c').ownBlock = v.ownBlock ∨ (Value.slice A' (n + m) c').ownBlock = some w.heap.size) := by
    intro v n xs ho g1 g2
    obtain ⟨v', w', r1, r2, r3, r4⟩ := run_append_any (P := P) w base t ty e i z size bytes ht hi hz hsize hby hzs hsz v n xs ho A2 m c2 news hr h1 g1 g2 hbase hA
    obtain ⟨A', c', rfl⟩ := own_form r2
    exact ⟨A', c', w', r1, r2, r3, r4⟩
  have out : ∀ (A' : Option Addr) (k c' : Nat) (b : Option Nat), ((Value.slice A' k c').ownBlock = b ∨ (Value.slice A' k c').ownBlock = some w.heap.size) → ∀ g, A'.map (·.block) = some g → b = some g ∨ g = w.heap.size := by
    intro A' k c' b h g hg
    cases A' with
    | none => cases hg
    | some a =>
      simp [Value.ownBlock] at h hg
      subst hg
      rcases h with h | h
      · exact .inl h.symm
      · exact .inr h
  rcases hown with ⟨rfl, rfl, rfl⟩ | ⟨hc, hown⟩
  · rcases Nat.eq_zero_or_pos m with h0 | h0
    · subst h0
      obtain rfl : news = [] := List.eq_nil_of_length_eq_zero (by simpa using hr.1)
      exact ⟨A, 0, w, run_append_none_ w t ty e i ht hi A A2 c2, .inl ⟨rfl, rfl, rfl⟩, World.grownBy.refl w _, fun g _ h => absurd h (by omega)⟩
    · obtain ⟨A', c', w', r1, r2, r3, r4⟩ := key (.slice none 0 0) 0 [] (World.ownsRow_nil _ _ _ _) h63 hbytes
      refine ⟨A', c', w', ?_, Ow.of_own r2, by simpa [ownB, Value.ownBlock] using r3, fun g hg _ => by simpa [ownB, Value.ownBlock] using out A' _ c' _ r4 g hg⟩
      rw [← r1]
      cases A with
      | none => rfl
      | some a => exact run_append_bare w t ty e i ht hi a m c2 A2 h0 (by omega) (by rw [hby]; rwa [Nat.zero_add] at hbytes)
  · obtain ⟨A', c', w', r1, r2, r3, r4⟩ := key _ n xs hown h63 hbytes
    have hob : (Value.slice A n c).ownBlock = ownB A c := by
      unfold ownB Value.ownBlock
      rw [if_neg (by omega)]
      cases A <;> rfl
    rw [hob] at r3 r4
    exact ⟨A', c', w', r1, Ow.of_own r2, r3, fun g hg _ => out A' _ c' _ r4 g hg⟩

theorem wp_append_ow {o : Oper} {a : Act} {K : Act → World → Prop} {Q : Exit → Act → World → Prop} (s x : Operand) (t : TypeId)
    (ho : o.op = .call { callee := .builtin .append, args := #[s, x], argTypes := #[t, t] })
    (base : Nat) (e : TypeId) (i : TypeInfo) (z : Value) (size bytes : Nat) (ht : P.underlying t = some (.slice e)) (hi : P.info? e = some i) (hz : i.zero = some z)
    (hsize : i.size = size) (hby : i.bytes = bytes) (hzs : z.cells.size = size) (hsz : 0 < size)
    (A : Option Addr) (n c : Nat) (xs : List Value) (hs : a.eval s = .slice A n c) (hown : Ow base w e size A n c xs)
    (A2 : Option Addr) (m c2 : Nat) (news : List Value) (hx : a.eval x = .slice A2 m c2) (hr : Src w size A2 m news) (h1 : ∀ u ∈ news, u.oneCell' = true)
    (h63 : n + m ≤ maxLen) (hbytes : (n + m) * bytes ≤ 140737488355328) (hbase : base ≤ w.heap.size)
    (h : ∀ A' c' w', Ow base w' e size A' (n + m) c' (xs ++ news) → w.grownBy w' (ownB A c) → (∀ g, A'.map (·.block) = some g → 0 < c' → ownB A c = some g ∨ g = w.heap.size) → K (a.put o.dst (.slice A' (n + m) c')) w') : o.wp P a w K Q := by
  obtain ⟨A', c', w', hrun, h2, h3, h4⟩ := run_append_ow (P := P) w base t o.type e i z size bytes ht hi hz hsize hby hzs hsz A n c xs hown A2 m c2 news hr h1 h63 hbytes hbase
  unfold Oper.wp execOp
  simp only [ho, resolve, invoke, builtin, Sem.run_bind, Sem.run_pure, Result.andThen_ok, List.map_toArray, List.map_cons, List.map_nil, hs, hx, hrun]
  exact h A' c' w' h2 h3 h4

theorem wpList_append_ow {ops : Array Oper} {rest : List Oper} {o : Oper} {a : Act} {Q : Exit → Act → World → Prop} (hgd : o.guard = none) (s x : Operand) (t : TypeId)
    (ho : o.op = .call { callee := .builtin .append, args := #[s, x], argTypes := #[t, t] })
    (base : Nat) (e : TypeId) (i : TypeInfo) (z : Value) (size bytes : Nat) (ht : P.underlying t = some (.slice e)) (hi : P.info? e = some i) (hz : i.zero = some z)
    (hsize : i.size = size) (hby : i.bytes = bytes) (hzs : z.cells.size = size) (hsz : 0 < size)
    (A : Option Addr) (n c : Nat) (xs : List Value) (hs : a.eval s = .slice A n c) (hown : Ow base w e size A n c xs)
    (A2 : Option Addr) (m c2 : Nat) (news : List Value) (hx : a.eval x = .slice A2 m c2) (hr : Src w size A2 m news) (h1 : ∀ u ∈ news, u.oneCell' = true)
    (h63 : n + m ≤ maxLen) (hbytes : (n + m) * bytes ≤ 140737488355328) (hbase : base ≤ w.heap.size)
    (h : ∀ A' c' w', Ow base w' e size A' (n + m) c' (xs ++ news) → w.grownBy w' (ownB A c) → (∀ g, A'.map (·.block) = some g → 0 < c' → ownB A c = some g ∨ g = w.heap.size) → wpList P ops Q rest (a.put o.dst (.slice A' (n + m) c')) w') : wpList P ops Q (o :: rest) a w :=
  wpList_plain hgd fun _ hK => wp_append_ow w s x t ho base e i z size bytes ht hi hz hsize hby hzs hsz A n c xs hs hown A2 m c2 news hx hr h1 h63 hbytes hbase fun A' c' w' h2 h3 h4 => hK _ _ (h A' c' w' h2 h3 h4)

/-- the same, as one step of a region that draws its order -/
theorem step_append_ow {ops : Array Oper} {o : Oper} {a : Act} {K : Act → World → Prop} {Q : Exit → Act → World → Prop} {E : Prop} (hgd : o.guard = none) (s x : Operand) (t : TypeId)
    (ho : o.op = .call { callee := .builtin .append, args := #[s, x], argTypes := #[t, t] })
    (base : Nat) (e : TypeId) (i : TypeInfo) (z : Value) (size bytes : Nat) (ht : P.underlying t = some (.slice e)) (hi : P.info? e = some i) (hz : i.zero = some z)
    (hsize : i.size = size) (hby : i.bytes = bytes) (hzs : z.cells.size = size) (hsz : 0 < size)
    (A : Option Addr) (n c : Nat) (xs : List Value) (hs : a.eval s = .slice A n c) (hown : Ow base w e size A n c xs)
    (A2 : Option Addr) (m c2 : Nat) (news : List Value) (hx : a.eval x = .slice A2 m c2) (hr : Src w size A2 m news) (h1 : ∀ u ∈ news, u.oneCell' = true)
    (h63 : n + m ≤ maxLen) (hbytes : (n + m) * bytes ≤ 140737488355328) (hbase : base ≤ w.heap.size)
    (h : ∀ A' c' w', Ow base w' e size A' (n + m) c' (xs ++ news) → w.grownBy w' (ownB A c) → (∀ g, A'.map (·.block) = some g → 0 < c' → ownB A c = some g ∨ g = w.heap.size) → K (a.put o.dst (.slice A' (n + m) c')) w') :
    if Region.wanted o (yielded ops a.tmps) = true then Oper.wp P o a w K Q else E := by
  have hw : Region.wanted o (yielded ops a.tmps) = true := by simp [Region.wanted, hgd]
  rw [if_pos hw]
  exact wp_append_ow w s x t ho base e i z size bytes ht hi hz hsize hby hzs hsz A n c xs hs hown A2 m c2 news hx hr h1 h63 hbytes hbase h
end

section
variable {B : Nat} {w w' : World} {T size n c : Nat} {A : Option Addr} {xs : List Value}
theorem Ow.bare (B : Nat) (w : World) (T size : Nat) (A : Option Addr) : Ow B w T size A 0 0 [] := .inl ⟨rfl, rfl, rfl⟩
theorem Ow.len (h : Ow B w T size A n c xs) : xs.length = n * size := by
  rcases h with ⟨rfl, _, rfl⟩ | ⟨_, h⟩
  · simp
  · exact h.1
theorem Ow.blk (h : Ow B w T size A n c xs) (hc : 0 < c) : ∃ g cur, A = some ⟨g, 0, none⟩ ∧ B ≤ g ∧ Blk w g T cur ∧ n ≤ c ∧ c ≤ maxLen ∧ cur.size = c * size ∧ cur.toList.take (n * size) = xs := by
  rcases h with ⟨_, rfl, _⟩ | ⟨_, h⟩
  · omega
  · rcases h.2 with ⟨h1, _⟩ | ⟨g, cap, cur, hv, hg, hb, r⟩
    · injection h1 with _ _ h3; omega
    · injection hv with h1 _ h3
      subst h3
      exact ⟨g, cur, h1, hg, hb, r⟩
theorem Ow.mk_ {g : Nat} {cur : Array Value} (hx : xs.length = n * size) (hB : B ≤ g) (hb : Blk w g T cur) (hn : n ≤ c) (hm : c ≤ maxLen) (hs : cur.size = c * size) (ht : cur.toList.take (n * size) = xs) : Ow B w T size (some ⟨g, 0, none⟩) n c xs :=
  Ow.of_own ⟨hx, .inr ⟨g, c, cur, rfl, hB, hb, hn, hm, hs, ht⟩⟩
theorem Ow.le (h : Ow B w T size A n c xs) : n ≤ c := by
  rcases Nat.eq_zero_or_pos c with h0 | h0
  · rcases h with ⟨rfl, _⟩ | ⟨h1, _⟩
    · omega
    · omega
  · obtain ⟨_, _, _, _, _, h1, _⟩ := h.blk h0
    exact h1
theorem Ow.keep (h : Ow B w T size A n c xs) (hk : ∀ g, A.map (·.block) = some g → 0 < c → w'.heap[g]? = w.heap[g]?) : Ow B w' T size A n c xs := by
  rcases Nat.eq_zero_or_pos c with h0 | h0
  · rcases h with h | ⟨h1, _⟩
    · exact .inl h
    · omega
  · obtain ⟨g, cur, rfl, hB, hb, hn, hm, hs, ht⟩ := h.blk h0
    exact Ow.mk_ h.len hB ((hk g rfl h0).trans hb) hn hm hs ht
theorem Ow.lt (h : Ow B w T size A n c xs) {g : Nat} (hg : A.map (·.block) = some g) (hc : 0 < c) : B ≤ g ∧ g < w.heap.size := by
  obtain ⟨g', cur, rfl, hB, hb, _⟩ := h.blk hc
  injection hg with hg
  subst hg
  exact ⟨hB, hb.lt⟩
theorem Ow.next (h : Ow B w T size A n c xs) (hb : Below w.heap.size w w') : Ow B w' T size A n c xs := h.keep fun g hg hc => hb.block g (h.lt hg hc).2
theorem Ow.alloc (h : Ow B w T size A n c xs) (o : Obj) : Ow B (w.alloc o) T size A n c xs := h.next ((Below.refl _ _).alloc (Nat.le_refl _) _)
theorem Ow.drew (h : Ow B w T size A n c xs) : Ow B w.drew T size A n c xs := h
theorem Ow.only {g : Nat} (h : Ow B w T size A n c xs) (ho : Only g w w') (hne : A.map (·.block) = some g → c = 0) : Ow B w' T size A n c xs :=
  h.keep fun k hk hc => ho.block k (h.lt hk hc).2 (by
    intro e; injection e with e; subst e
    have := hne hk
    omega)
theorem Ow.onlyB {g : Nat} (h : Ow B w T size A n c xs) (ho : Only g w w') (hg : g < B) : Ow B w' T size A n c xs :=
  h.only ho fun hA => by
    rcases Nat.eq_zero_or_pos c with h0 | h0
    · exact h0
    · have := (h.lt hA h0).1
      omega
theorem Ow.mono {B' : Nat} (h : Ow B w T size A n c xs) (hB : B' ≤ B) : Ow B' w T size A n c xs := by
  rcases Nat.eq_zero_or_pos c with h0 | h0
  · rcases h with h | ⟨h1, _⟩
    · exact .inl h
    · omega
  · obtain ⟨g, cur, rfl, hB', hb, hn, hm, hs, ht⟩ := h.blk h0
    exact Ow.mk_ h.len (by omega) hb hn hm hs ht
theorem Ow.src (h : Ow B w T size A n c xs) : Src w size A n xs := by
  refine ⟨h.len, fun hn => ?_⟩
  have hc : 0 < c := Nat.lt_of_lt_of_le hn h.le
  obtain ⟨g, cur, rfl, hB, hb, _, _, hs, ht⟩ := h.blk hc
  refine ⟨_, rfl, fun j u hu => ?_⟩
  rw [Addr.add_lit, Nat.zero_add, hb.cell]
  rw [← ht, List.getElem?_take] at hu
  split at hu
  · simpa using hu
  · cases hu
/-- what an append leaves below B -/
theorem Ow.grown {w0 : World} {C : Nat} (h : Ow B w T size A n c xs) (hg : w.grownBy w' (ownB A c)) (hb : Below C w0 w) (hC : C ≤ B) (hs : C ≤ w.heap.size) : Below C w0 w' :=
  hb.grown hg hs fun k hk => by
    unfold ownB at hk
    split at hk
    · cases hk
    · exact Nat.le_trans hC (h.lt hk (by omega)).1
end
theorem Blk.newAt (w : World) (T : Nat) (cs : Array Value) (b : Nat) (hb : w.heap.size = b) : Blk (w.alloc (.cells cs T)) b T cs := by subst hb; exact Blk.new _ _ _
theorem Blk.drew {w : World} {g T : Nat} {cs : Array Value} (h : Blk w g T cs) : Blk w.drew g T cs := h
theorem Blk.bare {w w' : World} {g T : Nat} {cs : Array Value} {A : Option Addr} (h : Blk w g T cs) (hg : w.grownBy w' (ownB A 0)) : Blk w' g T cs := (hg.block g h.lt (by simp [ownB])).trans h
theorem Ow.rdE {B : Nat} {w : World} {T : Nat} {A : Option Addr} {n c : Nat} {es : List Ent} (h : Ow B w T 2 A n c (cellsE es)) : RdE w A n es := by
  have hl := h.len
  rw [cellsE_length] at hl
  refine ⟨by omega, fun hn => ?_⟩
  obtain ⟨ad, hA, hc⟩ := h.src.2 hn
  have hcp : 0 < c := Nat.lt_of_lt_of_le hn h.le
  obtain ⟨g, cur, rfl, hB, hb, _, _, hs, ht⟩ := h.blk hcp
  injection hA with hA
  subst hA
  refine ⟨g, 0, rfl, hb.lt, fun k e he => ?_⟩
  obtain ⟨c1, c2⟩ := cellsE_get es k e he
  have d1 := hc _ _ c1
  have d2 := hc _ _ c2
  rw [Addr.add_lit] at d1 d2
  exact ⟨d1, by rw [Nat.add_assoc]; exact d2⟩
end Go.Proofs.YtepddbfafdfadaaGreat

/-
  Lemmas and contracts: Mem Dr Fb. No condition.
-/
import Derived.Laws.OwnMore
import Derived.Maps.AppendAt
import Derived.Deep.AppendLies
import Derived.RegionTactic
import Derived.OwnWalk
import Derived.Deep.LoopGhost
import Derived.Deep.Cut
import Derived.Deep.CutRange
import Derived.Deep.DeepCutAuto
import Derived.Deep.RegionLaw
import Derived.Laws.BitsAllLaws
import Derived.Laws.BitsLemmas
import Derived.Deep.Slices
import Derived.Test.YtemnlheidghbmaaGreatDoorKb1
import Derived.Test.YtemnlheidghbmaaGreatDoorKb2
namespace Go.Proofs.YtemnlheidghbmaaGreatDoor
open Go.RowKit Go.Sort
def Only (g : Nat) (w w' : World) : Prop := w.grownBy w' (some g)
section
variable {g : Nat} {a b c w w' : World}
theorem Only.refl (g : Nat) (w : World) : Only g w w := World.grownBy.refl w _
theorem Only.size (h : Only g a b) : a.heap.size ≤ b.heap.size := World.grownBy.size h
theorem Only.trans (h : Only g a b) (k : Only g b c) : Only g a c :=
 ⟨k.os.trans h.os, k.tape.trans h.tape, k.output.trans h.output, Nat.le_trans h.size k.size, fun i hi hne => (k.block i (Nat.lt_of_lt_of_le hi h.size) hne).trans (h.block i hi hne)⟩
theorem Only.of_below (h : Below a.heap.size a b) (g : Nat) : Only g a b := ⟨h.os, h.tape, h.output, h.size, fun i hi _ => h.block i hi⟩
theorem Only.below {B : Nat} (h : Only g a b) (hg : B ≤ g) (hB : B ≤ a.heap.size) : Below B a b := ⟨h.os, h.tape, h.output, h.size, fun k hk => h.block k (by omega) (by intro e; injection e with e; omega)⟩
theorem Only.next (h : Only g a b) (k : Below b.heap.size b c) : Only g a c := h.trans (Only.of_below k g)
theorem Only.set_ {p : Addr} (h : Only g a b) (hp : p.block = g ∨ a.heap.size ≤ p.block) (u : Value) : Only g a (b.setCell p u) :=
 ⟨h.os, h.tape, h.output, by simpa [World.setCell] using h.size, fun i hi hne => (Below.heap_setCell b p u i (by
  rintro rfl
  rcases hp with hp | hp
  ·exact hne (by rw [hp])
  ·omega)).trans (h.block i hi hne)⟩
theorem Only.drewN (h : Only g a b) (n : Nat) : Only g a (b.drewN n) := ⟨h.os, h.tape, h.output, h.size, h.block⟩
theorem Only.cell {x : Nat} (h : Only g w w') (hx : x < w.heap.size) (hne : x ≠ g) (o : Nat) : w'.cell? ⟨x, o, none⟩ = w.cell? ⟨x, o, none⟩ := World.cell?_of_block (w := w) (h.block x hx (by intro e; injection e with e; exact hne e))
theorem Only.frozen {x : Nat} (h : Only g w w') (hx : x < w.heap.size) (hne : x ≠ g) (o : Nat) : w'.frozen? ⟨x, o, none⟩ = w.frozen? ⟨x, o, none⟩ := World.frozen?_of_block (w := w) (h.block x hx (by intro e; injection e with e; exact hne e))
theorem Blk.only {x T : Nat} {cs : Array Value} (hb : Blk w x T cs) (h : Only g w w') (hne : x ≠ g) : Blk w' x T cs := (h.block x hb.lt (by intro e; injection e with e; exact hne e)).trans hb
theorem Blk.ne_ {g' T T' : Nat} {cs cs' : Array Value} (h : Blk w g T cs) (h' : Blk w g' T' cs') (hne : T ≠ T') : g ≠ g' := by
 rintro rfl
 unfold Blk at h h'
 rw [h] at h'
 injection h' with h'
 injection h' with _ ht
 exact hne ht
end
theorem own_form {w : World} {base e size n : Nat} {v : Value} {xs : List Value} (h : w.ownsRow base e size v n xs) : ∃ A c, v = .slice A n c := by
 rcases h.2 with ⟨rfl, h0⟩ | ⟨g, cap, cur, rfl, _⟩
 ·exact ⟨none, 0, by rw [h0]⟩
 ·exact ⟨_, _, rfl⟩
def Src (w : World) (size : Nat) (A : Option Addr) (m : Nat) (news : List Value) : Prop :=
 news.length = m * size ∧ (0 < m → ∃ ad, A = some ad ∧ ∀ j u, news[j]? = some u → w.cell? (ad.add j) = some u)
theorem Src.keep {w w' : World} {size m : Nat} {A : Option Addr} {news : List Value} (h : Src w size A m news) (hk : ∀ p : Addr, p.block < w.heap.size → w'.cell? p = w.cell? p) : Src w' size A m news :=
 ⟨h.1, fun hm => by
  obtain ⟨ad, e, hc⟩ := h.2 hm
  refine ⟨ad, e, fun j u hu => ?_⟩
  have h1 := hc j u hu
  rw [hk _ (World.block_lt_of_cell? _ _ h1)]
  exact h1⟩
theorem Src.below {w w' : World} {size m : Nat} {A : Option Addr} {news : List Value} (h : Src w size A m news) (hb : Below w.heap.size w w') : Src w' size A m news := h.keep fun _ hp => hb.cell hp
theorem Src.blk {w : World} {g T size m : Nat} {news : List Value} (h : Blk w g T news.toArray) (hl : news.length = m * size) : Src w size (some ⟨g, 0, none⟩) m news :=
 ⟨hl, fun _ => ⟨_, rfl, fun j u hu => by rw [Addr.add_lit, Nat.zero_add, h.cell]; simpa using hu⟩⟩
section
variable {P : Program} (w : World)
theorem run_append_of_nil (base : Nat) (t ty e : TypeId) (i : TypeInfo) (size : Nat) (ht : P.underlying t = some (.slice e)) (hi : P.info? e = some i)
  (v : Value) (n : Nat) (xs : List Value) (hown : w.ownsRow base e size v n xs) (c : Nat) : (Builtin.append_ #[t, t] ty #[v, .slice none 0 c]).run P w = .ok v w := by
 rcases hown.2 with ⟨rfl, rfl⟩ | ⟨g, cap, cur, rfl, _, _, hnc, _⟩
 ·simp [Builtin.append_, run_underlying ht, sizeOf, typeInfo, hi, Builtin.lenOf, Builtin.firstCells]
 ·simp [Builtin.append_, run_underlying ht, sizeOf, typeInfo, hi, Builtin.lenOf, Builtin.firstCells, hnc, storeCells]
theorem run_append_any (base : Nat) (t ty e : TypeId) (i : TypeInfo) (z : Value) (size bytes : Nat) (ht : P.underlying t = some (.slice e)) (hi : P.info? e = some i) (hz : i.zero = some z)
  (hsize : i.size = size) (hby : i.bytes = bytes) (hzs : z.cells.size = size) (hsz : 0 < size)
  (v : Value) (n : Nat) (xs : List Value) (hown : w.ownsRow base e size v n xs)
  (A : Option Addr) (m c : Nat) (news : List Value) (hr : Src w size A m news) (h1 : ∀ u ∈ news, u.oneCell' = true)
  (h63 : n + m ≤ maxLen) (hbytes : (n + m) * bytes ≤ 140737488355328) (hbase : base ≤ w.heap.size) (hA : A = none → m = 0) :
  ∃ v' w', (Builtin.append_ #[t, t] ty #[v, .slice A m c]).run P w = .ok v' w' ∧ w'.ownsRow base e size v' (n + m) (xs ++ news) ∧ w.grownBy w' v.ownBlock ∧
   (v'.ownBlock = v.ownBlock ∨ v'.ownBlock = some w.heap.size) := by
 rcases A with _ | ad
 ·obtain rfl := hA rfl
  obtain rfl : news = [] := List.eq_nil_of_length_eq_zero (by simpa using hr.1)
  exact ⟨v, w, run_append_of_nil w base t ty e i size ht hi v n xs hown c, by simpa using hown, World.grownBy.refl w _, .inl rfl⟩
 ·have hcells : ∀ j u, news[j]? = some u → w.cell? (ad.add j) = some u := by
   intro j u hu
   rcases Nat.eq_zero_or_pos m with h0 | h0
   ·subst h0
    obtain rfl : news = [] := List.eq_nil_of_length_eq_zero (by simpa using hr.1)
    simp at hu
   ·obtain ⟨ad', h, hc⟩ := hr.2 h0
    injection h with h
    subst h
    exact hc j u hu
  obtain ⟨v', w', hrun, h2, h3, _, h5⟩ := run_append_own_at (P := P) w base t ty e i z size bytes ht hi hz hsize hby hzs hsz v n xs hown ad m c news hr.1 hcells h1 h63 hbytes hbase
  exact ⟨v', w', hrun, h2, h3, h5⟩
end
def Ow (B : Nat) (w : World) (T size : Nat) (A : Option Addr) (n c : Nat) (xs : List Value) : Prop :=
 (n = 0 ∧ c = 0 ∧ xs = []) ∨ (0 < c ∧ w.ownsRow B T size (.slice A n c) n xs)
theorem Ow.of_own {B : Nat} {w : World} {T size n c : Nat} {A : Option Addr} {xs : List Value} (h : w.ownsRow B T size (.slice A n c) n xs) : Ow B w T size A n c xs := by
 rcases Nat.eq_zero_or_pos c with hc | hc
 ·left
  have hn : n = 0 := by
   rcases h.2 with ⟨_, h0⟩ | ⟨g, cap, cur, hv, _, _, hnc, _⟩
   ·exact h0
   ·injection hv with _ _ h3; omega
  exact ⟨hn, hc, List.eq_nil_of_length_eq_zero (by rw [h.1, hn]; simp)⟩
 ·exact .inr ⟨hc, h⟩
def ownB (A : Option Addr) (c : Nat) : Option Nat := if c = 0 then none else A.map (·.block)
section
variable {P : Program} (w : World)
theorem run_append_bare (t ty e : TypeId) (i : TypeInfo) (ht : P.underlying t = some (.slice e)) (hi : P.info? e = some i) (a : Addr) (m c : Nat) (A : Option Addr) (hm : 0 < m) (hm63 : m ≤ maxLen) (hb : m * i.bytes ≤ 140737488355328) :
  (Builtin.append_ #[t, t] ty #[.slice (some a) 0 0, .slice A m c]).run P w = (Builtin.append_ #[t, t] ty #[.slice none 0 0, .slice A m c]).run P w := by
 have h0 : ¬ m = 0 := by omega
 have h1 : ¬ (9223372036854775807 < (m : Int) ∧ i.bytes = 0) := by unfold maxLen at hm63; omega
 have h2 : Builtin.nextslicecap m 0 = m := by unfold Builtin.nextslicecap; rw [if_pos (by omega)]
 have h3 : ¬ 281474976710656 < m * i.bytes := by omega
 simp [Builtin.append_, run_underlying ht, sizeOf, typeInfo, hi, Builtin.lenOf, h0, Builtin.firstCells, loadCells, loadCellsFrom, h1, h2, h3]
theorem run_append_none_ (t ty e : TypeId) (i : TypeInfo) (ht : P.underlying t = some (.slice e)) (hi : P.info? e = some i) (A A' : Option Addr) (c : Nat) :
  (Builtin.append_ #[t, t] ty #[.slice A 0 0, .slice A' 0 c]).run P w = .ok (.slice A 0 0) w := by
 cases A <;> cases A' <;> simp [Builtin.append_, run_underlying ht, sizeOf, typeInfo, hi, Builtin.lenOf, Builtin.firstCells, loadCells, loadCellsFrom, storeCells]
theorem run_append_ow (base : Nat) (t ty e : TypeId) (i : TypeInfo) (z : Value) (size bytes : Nat) (ht : P.underlying t = some (.slice e)) (hi : P.info? e = some i) (hz : i.zero = some z)
  (hsize : i.size = size) (hby : i.bytes = bytes) (hzs : z.cells.size = size) (hsz : 0 < size)
  (A : Option Addr) (n c : Nat) (xs : List Value) (hown : Ow base w e size A n c xs)
  (A2 : Option Addr) (m c2 : Nat) (news : List Value) (hr : Src w size A2 m news) (h1 : ∀ u ∈ news, u.oneCell' = true)
  (h63 : n + m ≤ maxLen) (hbytes : (n + m) * bytes ≤ 140737488355328) (hbase : base ≤ w.heap.size) :
  ∃ A' c' w', (Builtin.append_ #[t, t] ty #[.slice A n c, .slice A2 m c2]).run P w = .ok (.slice A' (n + m) c') w' ∧ Ow base w' e size A' (n + m) c' (xs ++ news) ∧ w.grownBy w' (ownB A c) ∧
   (∀ g, A'.map (·.block) = some g → 0 < c' → ownB A c = some g ∨ g = w.heap.size) := by
 have hA : A2 = none → m = 0 := by
  intro h
  rcases Nat.eq_zero_or_pos m with h0 | h0
  ·exact h0
  ·obtain ⟨ad, h2, _⟩ := hr.2 h0
   rw [h] at h2; cases h2
 have key : ∀ v : Value, ∀ (n : Nat) (xs : List Value), w.ownsRow base e size v n xs → n + m ≤ maxLen → (n + m) * bytes ≤ 140737488355328 → ∃ A' c' w', (Builtin.append_ #[t, t] ty #[v, .slice A2 m c2]).run P w = .ok (.slice A' (n + m) c') w' ∧ w'.ownsRow base e size (.slice A' (n + m) c') (n + m) (xs ++ news) ∧ w.grownBy w' v.ownBlock ∧
   ((Value.slice A' (n + m) c').ownBlock = v.ownBlock ∨ (Value.slice A' (n + m) c').ownBlock = some w.heap.size) := by
  intro v n xs ho g1 g2
  obtain ⟨v', w', r1, r2, r3, r4⟩ := run_append_any (P := P) w base t ty e i z size bytes ht hi hz hsize hby hzs hsz v n xs ho A2 m c2 news hr h1 g1 g2 hbase hA
  obtain ⟨A', c', rfl⟩ := own_form r2
  exact ⟨A', c', w', r1, r2, r3, r4⟩
 have out : ∀ (A' : Option Addr) (k c' : Nat) (b : Option Nat), ((Value.slice A' k c').ownBlock = b ∨ (Value.slice A' k c').ownBlock = some w.heap.size) → ∀ g, A'.map (·.block) = some g → b = some g ∨ g = w.heap.size := by
  intro A' k c' b h g hg
  cases A' with
  | none => cases hg
  | some a =>
   simp [Value.ownBlock] at h hg
   subst hg
   rcases h with h | h
   ·exact .inl h.symm
   ·exact .inr h
 rcases hown with ⟨rfl, rfl, rfl⟩ | ⟨hc, hown⟩
 ·rcases Nat.eq_zero_or_pos m with h0 | h0
  ·subst h0
   obtain rfl : news = [] := List.eq_nil_of_length_eq_zero (by simpa using hr.1)
   exact ⟨A, 0, w, run_append_none_ w t ty e i ht hi A A2 c2, .inl ⟨rfl, rfl, rfl⟩, World.grownBy.refl w _, fun g _ h => absurd h (by omega)⟩
  ·obtain ⟨A', c', w', r1, r2, r3, r4⟩ := key (.slice none 0 0) 0 [] (World.ownsRow_nil _ _ _ _) h63 hbytes
   refine ⟨A', c', w', ?_, Ow.of_own r2, by simpa [ownB, Value.ownBlock] using r3, fun g hg _ => by simpa [ownB, Value.ownBlock] using out A' _ c' _ r4 g hg⟩
   rw [← r1]
   cases A with
   | none => rfl
   | some a => exact run_append_bare w t ty e i ht hi a m c2 A2 h0 (by omega) (by rw [hby]; rwa [Nat.zero_add] at hbytes)
 ·obtain ⟨A', c', w', r1, r2, r3, r4⟩ := key _ n xs hown h63 hbytes
  have hob : (Value.slice A n c).ownBlock = ownB A c := by
   unfold ownB Value.ownBlock
   rw [if_neg (by omega)]
   cases A <;> rfl
  rw [hob] at r3 r4
  exact ⟨A', c', w', r1, Ow.of_own r2, r3, fun g hg _ => out A' _ c' _ r4 g hg⟩
theorem wp_append_ow {o : Oper} {a : Act} {K : Act → World → Prop} {Q : Exit → Act → World → Prop} (s x : Operand) (t : TypeId)
  (ho : o.op = .call { callee := .builtin .append, args := #[s, x], argTypes := #[t, t] })
  (base : Nat) (e : TypeId) (i : TypeInfo) (z : Value) (size bytes : Nat) (ht : P.underlying t = some (.slice e)) (hi : P.info? e = some i) (hz : i.zero = some z)
  (hsize : i.size = size) (hby : i.bytes = bytes) (hzs : z.cells.size = size) (hsz : 0 < size)
  (A : Option Addr) (n c : Nat) (xs : List Value) (hs : a.eval s = .slice A n c) (hown : Ow base w e size A n c xs)
  (A2 : Option Addr) (m c2 : Nat) (news : List Value) (hx : a.eval x = .slice A2 m c2) (hr : Src w size A2 m news) (h1 : ∀ u ∈ news, u.oneCell' = true)
  (h63 : n + m ≤ maxLen) (hbytes : (n + m) * bytes ≤ 140737488355328) (hbase : base ≤ w.heap.size)
  (h : ∀ A' c' w', Ow base w' e size A' (n + m) c' (xs ++ news) → w.grownBy w' (ownB A c) → (∀ g, A'.map (·.block) = some g → 0 < c' → ownB A c = some g ∨ g = w.heap.size) → K (a.put o.dst (.slice A' (n + m) c')) w') : o.wp P a w K Q := by
 obtain ⟨A', c', w', hrun, h2, h3, h4⟩ := run_append_ow (P := P) w base t o.type e i z size bytes ht hi hz hsize hby hzs hsz A n c xs hown A2 m c2 news hr h1 h63 hbytes hbase
 unfold Oper.wp execOp
 simp only [ho, resolve, invoke, builtin, Sem.run_bind, Sem.run_pure, Result.andThen_ok, List.map_toArray, List.map_cons, List.map_nil, hs, hx, hrun]
 exact h A' c' w' h2 h3 h4
theorem wpList_append_ow {ops : Array Oper} {rest : List Oper} {o : Oper} {a : Act} {Q : Exit → Act → World → Prop} (hgd : o.guard = none) (s x : Operand) (t : TypeId)
  (ho : o.op = .call { callee := .builtin .append, args := #[s, x], argTypes := #[t, t] })
  (base : Nat) (e : TypeId) (i : TypeInfo) (z : Value) (size bytes : Nat) (ht : P.underlying t = some (.slice e)) (hi : P.info? e = some i) (hz : i.zero = some z)
  (hsize : i.size = size) (hby : i.bytes = bytes) (hzs : z.cells.size = size) (hsz : 0 < size)
  (A : Option Addr) (n c : Nat) (xs : List Value) (hs : a.eval s = .slice A n c) (hown : Ow base w e size A n c xs)
  (A2 : Option Addr) (m c2 : Nat) (news : List Value) (hx : a.eval x = .slice A2 m c2) (hr : Src w size A2 m news) (h1 : ∀ u ∈ news, u.oneCell' = true)
  (h63 : n + m ≤ maxLen) (hbytes : (n + m) * bytes ≤ 140737488355328) (hbase : base ≤ w.heap.size)
  (h : ∀ A' c' w', Ow base w' e size A' (n + m) c' (xs ++ news) → w.grownBy w' (ownB A c) → (∀ g, A'.map (·.block) = some g → 0 < c' → ownB A c = some g ∨ g = w.heap.size) → wpList P ops Q rest (a.put o.dst (.slice A' (n + m) c')) w') : wpList P ops Q (o :: rest) a w :=
 wpList_plain hgd fun _ hK => wp_append_ow w s x t ho base e i z size bytes ht hi hz hsize hby hzs hsz A n c xs hs hown A2 m c2 news hx hr h1 h63 hbytes hbase fun A' c' w' h2 h3 h4 => hK _ _ (h A' c' w' h2 h3 h4)
theorem step_append_ow {ops : Array Oper} {o : Oper} {a : Act} {K : Act → World → Prop} {Q : Exit → Act → World → Prop} {E : Prop} (hgd : o.guard = none) (s x : Operand) (t : TypeId)
  (ho : o.op = .call { callee := .builtin .append, args := #[s, x], argTypes := #[t, t] })
  (base : Nat) (e : TypeId) (i : TypeInfo) (z : Value) (size bytes : Nat) (ht : P.underlying t = some (.slice e)) (hi : P.info? e = some i) (hz : i.zero = some z)
  (hsize : i.size = size) (hby : i.bytes = bytes) (hzs : z.cells.size = size) (hsz : 0 < size)
  (A : Option Addr) (n c : Nat) (xs : List Value) (hs : a.eval s = .slice A n c) (hown : Ow base w e size A n c xs)
  (A2 : Option Addr) (m c2 : Nat) (news : List Value) (hx : a.eval x = .slice A2 m c2) (hr : Src w size A2 m news) (h1 : ∀ u ∈ news, u.oneCell' = true)
  (h63 : n + m ≤ maxLen) (hbytes : (n + m) * bytes ≤ 140737488355328) (hbase : base ≤ w.heap.size)
  (h : ∀ A' c' w', Ow base w' e size A' (n + m) c' (xs ++ news) → w.grownBy w' (ownB A c) → (∀ g, A'.map (·.block) = some g → 0 < c' → ownB A c = some g ∨ g = w.heap.size) → K (a.put o.dst (.slice A' (n + m) c')) w') :
  if Region.wanted o (yielded ops a.tmps) = true then Oper.wp P o a w K Q else E := by
 have hw : Region.wanted o (yielded ops a.tmps) = true := by simp [Region.wanted, hgd]
 rw [if_pos hw]
 exact wp_append_ow w s x t ho base e i z size bytes ht hi hz hsize hby hzs hsz A n c xs hs hown A2 m c2 news hx hr h1 h63 hbytes hbase h
end
section
variable {B : Nat} {w w' : World} {T size n c : Nat} {A : Option Addr} {xs : List Value}
theorem Ow.bare (B : Nat) (w : World) (T size : Nat) (A : Option Addr) : Ow B w T size A 0 0 [] := .inl ⟨rfl, rfl, rfl⟩
theorem Ow.len (h : Ow B w T size A n c xs) : xs.length = n * size := by
 rcases h with ⟨rfl, _, rfl⟩ | ⟨_, h⟩
 ·simp
 ·exact h.1
theorem Ow.blk (h : Ow B w T size A n c xs) (hc : 0 < c) : ∃ g cur, A = some ⟨g, 0, none⟩ ∧ B ≤ g ∧ Blk w g T cur ∧ n ≤ c ∧ c ≤ maxLen ∧ cur.size = c * size ∧ cur.toList.take (n * size) = xs := by
 rcases h with ⟨_, rfl, _⟩ | ⟨_, h⟩
 ·omega
 ·rcases h.2 with ⟨h1, _⟩ | ⟨g, cap, cur, hv, hg, hb, r⟩
  ·injection h1 with _ _ h3; omega
  ·injection hv with h1 _ h3
   subst h3
   exact ⟨g, cur, h1, hg, hb, r⟩
theorem Ow.mk_ {g : Nat} {cur : Array Value} (hx : xs.length = n * size) (hB : B ≤ g) (hb : Blk w g T cur) (hn : n ≤ c) (hm : c ≤ maxLen) (hs : cur.size = c * size) (ht : cur.toList.take (n * size) = xs) : Ow B w T size (some ⟨g, 0, none⟩) n c xs :=
 Ow.of_own ⟨hx, .inr ⟨g, c, cur, rfl, hB, hb, hn, hm, hs, ht⟩⟩
theorem Ow.le (h : Ow B w T size A n c xs) : n ≤ c := by
 rcases Nat.eq_zero_or_pos c with h0 | h0
 ·rcases h with ⟨rfl, _⟩ | ⟨h1, _⟩
  ·omega
  ·omega
 ·obtain ⟨_, _, _, _, _, h1, _⟩ := h.blk h0
  exact h1
theorem Ow.keep (h : Ow B w T size A n c xs) (hk : ∀ g, A.map (·.block) = some g → 0 < c → w'.heap[g]? = w.heap[g]?) : Ow B w' T size A n c xs := by
 rcases Nat.eq_zero_or_pos c with h0 | h0
 ·rcases h with h | ⟨h1, _⟩
  ·exact .inl h
  ·omega
 ·obtain ⟨g, cur, rfl, hB, hb, hn, hm, hs, ht⟩ := h.blk h0
  exact Ow.mk_ h.len hB ((hk g rfl h0).trans hb) hn hm hs ht
theorem Ow.lt (h : Ow B w T size A n c xs) {g : Nat} (hg : A.map (·.block) = some g) (hc : 0 < c) : B ≤ g ∧ g < w.heap.size := by
 obtain ⟨g', cur, rfl, hB, hb, _⟩ := h.blk hc
 injection hg with hg
 subst hg
 exact ⟨hB, hb.lt⟩
theorem Ow.next (h : Ow B w T size A n c xs) (hb : Below w.heap.size w w') : Ow B w' T size A n c xs := h.keep fun g hg hc => hb.block g (h.lt hg hc).2
theorem Ow.alloc (h : Ow B w T size A n c xs) (o : Obj) : Ow B (w.alloc o) T size A n c xs := h.next ((Below.refl _ _).alloc (Nat.le_refl _) _)
theorem Ow.drew (h : Ow B w T size A n c xs) : Ow B w.drew T size A n c xs := h
theorem Ow.only {g : Nat} (h : Ow B w T size A n c xs) (ho : Only g w w') (hne : A.map (·.block) = some g → c = 0) : Ow B w' T size A n c xs :=
 h.keep fun k hk hc => ho.block k (h.lt hk hc).2 (by
  intro e; injection e with e; subst e
  have := hne hk
  omega)
theorem Ow.onlyB {g : Nat} (h : Ow B w T size A n c xs) (ho : Only g w w') (hg : g < B) : Ow B w' T size A n c xs :=
 h.only ho fun hA => by
  rcases Nat.eq_zero_or_pos c with h0 | h0
  ·exact h0
  ·have := (h.lt hA h0).1
   omega
theorem Ow.mono {B' : Nat} (h : Ow B w T size A n c xs) (hB : B' ≤ B) : Ow B' w T size A n c xs := by
 rcases Nat.eq_zero_or_pos c with h0 | h0
 ·rcases h with h | ⟨h1, _⟩
  ·exact .inl h
  ·omega
 ·obtain ⟨g, cur, rfl, hB', hb, hn, hm, hs, ht⟩ := h.blk h0
  exact Ow.mk_ h.len (by omega) hb hn hm hs ht
theorem Ow.src (h : Ow B w T size A n c xs) : Src w size A n xs := by
 refine ⟨h.len, fun hn => ?_⟩
 have hc : 0 < c := Nat.lt_of_lt_of_le hn h.le
 obtain ⟨g, cur, rfl, hB, hb, _, _, hs, ht⟩ := h.blk hc
 refine ⟨_, rfl, fun j u hu => ?_⟩
 rw [Addr.add_lit, Nat.zero_add, hb.cell]
 rw [← ht, List.getElem?_take] at hu
 split at hu
 ·simpa using hu
 ·cases hu
theorem Ow.grown {w0 : World} {C : Nat} (h : Ow B w T size A n c xs) (hg : w.grownBy w' (ownB A c)) (hb : Below C w0 w) (hC : C ≤ B) (hs : C ≤ w.heap.size) : Below C w0 w' :=
 hb.grown hg hs fun k hk => by
  unfold ownB at hk
  split at hk
  ·cases hk
  ·exact Nat.le_trans hC (h.lt hk (by omega)).1
end
theorem Blk.newAt (w : World) (T : Nat) (cs : Array Value) (b : Nat) (hb : w.heap.size = b) : Blk (w.alloc (.cells cs T)) b T cs := by subst hb; exact Blk.new _ _ _
theorem Blk.drew {w : World} {g T : Nat} {cs : Array Value} (h : Blk w g T cs) : Blk w.drew g T cs := h
theorem Blk.bare {w w' : World} {g T : Nat} {cs : Array Value} {A : Option Addr} (h : Blk w g T cs) (hg : w.grownBy w' (ownB A 0)) : Blk w' g T cs := (hg.block g h.lt (by simp [ownB])).trans h
theorem Ow.rdE {B : Nat} {w : World} {T : Nat} {A : Option Addr} {n c : Nat} {es : List Ent} (h : Ow B w T 2 A n c (cellsE es)) : RdE w A n es := by
 have hl := h.len
 rw [cellsE_length] at hl
 refine ⟨by omega, fun hn => ?_⟩
 obtain ⟨ad, hA, hc⟩ := h.src.2 hn
 have hcp : 0 < c := Nat.lt_of_lt_of_le hn h.le
 obtain ⟨g, cur, rfl, hB, hb, _, _, hs, ht⟩ := h.blk hcp
 injection hA with hA
 subst hA
 refine ⟨g, 0, rfl, hb.lt, fun k e he => ?_⟩
 obtain ⟨c1, c2⟩ := cellsE_get es k e he
 have d1 := hc _ _ c1
 have d2 := hc _ _ c2
 rw [Addr.add_lit] at d1 d2
 exact ⟨d1, by rw [Nat.add_assoc]; exact d2⟩
end Go.Proofs.YtemnlheidghbmaaGreatDoor
namespace Go.Proofs.YtemnlheidghbmaaGreatDoor
open Go.RowKit Go.Sort
def RdI (k : IntKind) (w : World) (A : Option Addr) (n : Nat) (zs : List Int) : Prop :=
 zs.length = n ∧ (0 < n → ∃ b off, A = some ⟨b, off, none⟩ ∧ b < w.heap.size ∧ ∀ j z, zs[j]? = some z → w.cell? ⟨b, off + j, none⟩ = some (.int k z))
section
variable {k : IntKind} {w w' : World} {A : Option Addr} {n : Nat} {zs : List Int}
theorem RdI.len (h : RdI k w A n zs) : zs.length = n := h.1
theorem RdI.at_ (h : RdI k w A n zs) {j : Nat} (hj : j < n) : ∃ b off z, A = some ⟨b, off, none⟩ ∧ b < w.heap.size ∧ zs[j]? = some z ∧ w.cell? ⟨b, off + j, none⟩ = some (.int k z) := by
 obtain ⟨b, off, hA, hb, hc⟩ := h.2 (by omega)
 have hl : j < zs.length := by rw [h.1]; exact hj
 exact ⟨b, off, zs[j], hA, hb, List.getElem?_eq_getElem hl, hc j _ (List.getElem?_eq_getElem hl)⟩
theorem RdI.keep (h : RdI k w A n zs) (hs : w.heap.size ≤ w'.heap.size) (hk : ∀ b o, 0 < n → A.map (·.block) = some b → b < w.heap.size → w'.cell? ⟨b, o, none⟩ = w.cell? ⟨b, o, none⟩) : RdI k w' A n zs := by
 refine ⟨h.1, fun hn => ?_⟩
 obtain ⟨b, off, hA, hlt, hc⟩ := h.2 hn
 exact ⟨b, off, hA, Nat.lt_of_lt_of_le hlt hs, fun j z hz => by rw [hk b _ hn (by rw [hA]; rfl) hlt]; exact hc j z hz⟩
theorem RdI.below (h : RdI k w A n zs) (hb : Below w.heap.size w w') : RdI k w' A n zs := h.keep hb.size fun b o _ _ hlt => (bcell hb).1 b o hlt
theorem RdI.only {g : Nat} (h : RdI k w A n zs) (ho : Only g w w') (hg : 0 < n → A.map (·.block) ≠ some g) : RdI k w' A n zs := h.keep ho.size fun b o h0 hb hlt => ho.cell hlt (by rintro rfl; exact hg h0 hb) o
theorem RdI.take (h : RdI k w A n zs) {m : Nat} (hm : m ≤ n) : RdI k w A m (zs.take m) := by
 refine ⟨by rw [List.length_take, h.1]; omega, fun hn => ?_⟩
 obtain ⟨b, off, hA, hlt, hc⟩ := h.2 (by omega)
 exact ⟨b, off, hA, hlt, fun j e he => hc j e (by
  rw [List.getElem?_take] at he
  split at he
  ·exact he
  ·cases he)⟩
end
theorem ofInt_i64 (a : Nat) (ha : a < 9223372036854775808) : (BitVec.ofInt 64 (a : Int)).toNat = a := by
 rw [BitVec.ofInt_natCast, BitVec.toNat_ofNat]; exact Nat.mod_eq_of_lt (by omega)
theorem i64_xor_nat (a b : Nat) (ha : a < 9223372036854775808) (hb : b < 9223372036854775808) : bits .xor .i64 (a : Int) (b : Int) = ((a ^^^ b : Nat) : Int) := by
 have hx : a ^^^ b < 2 ^ 63 := Nat.xor_lt_two_pow (by omega) (by omega)
 show IntKind.i64.wrap ((BitVec.ofInt 64 (a : Int) ^^^ BitVec.ofInt 64 (b : Int)).toNat : Int) = _
 rw [BitVec.toNat_xor, ofInt_i64 a ha, ofInt_i64 b hb, IntKind.wrap_i64]
 omega
def Rdr (w : World) (g p : Nat) : Prop :=
 ∃ (A : Option Addr) (n c : Nat) (zs : List Int), Blk w g 114 #[.slice A n c, .int .i64 p] ∧ RdI .u8 w A n zs ∧ (∀ z ∈ zs, 0 ≤ z ∧ z ≤ 255) ∧ n ≤ 2000 ∧ (0 < n → ∀ b, A.map (·.block) = some b → b < g)
theorem Rdr.lt {w : World} {g p : Nat} (h : Rdr w g p) : g < w.heap.size := by
 obtain ⟨A, n, c, zs, hb, _⟩ := h
 exact hb.lt
theorem Rdr.next {w w' : World} {g p : Nat} (h : Rdr w g p) (hb : Below w.heap.size w w') : Rdr w' g p := by
 obtain ⟨A, n, c, zs, h1, h2, h3, h4, h5⟩ := h
 exact ⟨A, n, c, zs, h1.next hb, h2.below hb, h3, h4, h5⟩
theorem Rdr.set_ {w : World} {g p : Nat} (h : Rdr w g p) {a : Addr} (ha : g < a.block) (u : Value) : Rdr (w.setCell a u) g p := by
 obtain ⟨A, n, c, zs, h1, h2, h3, h4, h5⟩ := h
 exact ⟨A, n, c, zs, h1.far (by omega) u, h2.only (g := a.block) ((Only.refl _ _).set_ (.inl rfl) u) (fun h0 hb => by have := h5 h0 _ hb; omega), h3, h4, h5⟩
theorem Rdr.only {w w' : World} {g g' p : Nat} (h : Rdr w g p) (ho : Only g' w w') (hg : g < g') : Rdr w' g p := by
 obtain ⟨A, n, c, zs, h1, h2, h3, h4, h5⟩ := h
 exact ⟨A, n, c, zs, h1.only ho (by omega), h2.only ho (fun h0 hb => by have := h5 h0 _ hb; omega), h3, h4, h5⟩
theorem Rdr.grown {w w' : World} {g p : Nat} (h : Rdr w g p) {row : Option Nat} (ho : w.grownBy w' row) (hg : ∀ b, row = some b → g < b) : Rdr w' g p := by
 obtain ⟨A, n, c, zs, h1, h2, h3, h4, h5⟩ := h
 refine ⟨A, n, c, zs, (ho.block g h1.lt (fun e => by have := hg g e.symm; omega)).trans h1, h2.keep ho.size (fun b o h0 hb hlt => World.cell?_of_block (w := w) (ho.block b hlt (fun e => by have := hg b e.symm; have := h5 h0 _ hb; omega))), h3, h4, h5⟩
def PickPost (g p : Nat) (n : Int) (w : World) (e : Ending) (w' : World) : Prop :=
 ∃ v : Int, e = .returned (.int .i64 v) ∧ 0 ≤ v ∧ (1 ≤ n → v < n) ∧ Rdr w' g (p + 1) ∧ Only g w w'
theorem l6Open_any (A : Option Addr) (n c : Nat) (zs : List Int) (w : World) (hr : RdI .u8 w A n zs) (hz : ∀ z ∈ zs, 0 ≤ z ∧ z ≤ 255) (hn : n ≤ c) (hc : c ≤ maxLen) :
  Calls Tryz.prog 35 #[.slice A n c] w fun e w' => ∃ g, e = .returned (.pointer (some ⟨g, 0, none⟩)) ∧ w.heap.size ≤ g ∧ Rdr w' g 0 ∧ Below w.heap.size w w' := by
 have HR := Lib.hid hr
 have HZ := Lib.hid hz
 unfold maxLen at hc
 clear hr hz
 by_cases h2 : 2000 < n
 ·obtain ⟨b, off, z, rfl, hb, _, _⟩ := HR.out.at_ (j := 0) (by omega)
  have h2' : (2000 : Int) < n := by omega
  have h3 : ¬ c = 0 := by omega
  go_enter Tryz.func35, Tryz.ntmps35
  go_wp2
  go_ret
  refine ⟨_, rfl, Nat.le_refl _, ⟨_, _, _, _, Blk.new _ _ _, (HR.out.take (m := 2000) (by omega)).below ((Below.refl _ _).alloc (Nat.le_refl _) _), fun z hz => HZ.out z (List.mem_of_mem_take hz), Nat.le_refl _, fun _ b' hb' => by simp at hb'; omega⟩, by go_grown⟩
 ·have h2' : ¬ (2000 : Int) < n := by omega
  have hA : 0 < n → ∀ b, A.map (·.block) = some b → b < w.heap.size := fun h0 => by
   obtain ⟨b, off, z, rfl, hb, _, _⟩ := HR.out.at_ (j := 0) h0
   intro b' hb'
   simp at hb'
   omega
  have HA := Lib.hid hA; clear hA
  go_enter Tryz.func35, Tryz.ntmps35
  go_wp2
  go_ret
  exact ⟨_, rfl, Nat.le_refl _, ⟨_, _, _, _, Blk.new _ _ _, HR.out.below ((Below.refl _ _).alloc (Nat.le_refl _) _), HZ.out, by omega, HA.out⟩, by go_grown⟩
theorem xor_bd (x : Int) (h0 : 0 ≤ x) (h1 : x ≤ 1152921504606846976) : ∃ y : Int, bits .xor .i64 x (x / 64) = y ∧ 0 ≤ y ∧ y ≤ 2305843009213693952 := by
 obtain ⟨a, rfl⟩ := Int.eq_ofNat_of_zero_le h0
 have e : ((a : Int) / 64) = ((a / 64 : Nat) : Int) := by omega
 refine ⟨((a ^^^ (a / 64) : Nat) : Int), by rw [e]; exact i64_xor_nat _ _ (by omega) (by omega), by omega, ?_⟩
 have hx : a ^^^ (a / 64) < 2 ^ 61 := Nat.xor_lt_two_pow (by omega) (by omega)
 omega
set_option maxHeartbeats 2000000 in
theorem pick_any (g : Nat) (n : Int) (p : Nat) (w : World) (h : Rdr w g p) (hp : p ≤ 1099511627776) :
  Calls Tryz.prog 37 #[.pointer (some ⟨g, 0, none⟩), .int .i64 n] w (PickPost g p n w) := by
 obtain ⟨A, m, c, zs, hb, hr, hz, hm, hA⟩ := h
 have hb0 : w.cell? ⟨g, 0, none⟩ = some (.slice A m c) := hb.cell 0
 have hb1 : w.cell? ⟨g, 1, none⟩ = some (.int .i64 p) := hb.cell 1
 have hf1 := hb.frozen 1
 have HB := Lib.hid hb
 have HR := Lib.hid hr
 have HZ := Lib.hid hz
 have HA := Lib.hid hA
 have hg := hb.lt
 have hend : ∀ v : Int, 0 ≤ v → (1 ≤ n → v < n) → ∀ k, PickPost g p n w (.returned (.int .i64 v)) ((w.setCell ⟨g, 1, none⟩ (.int .i64 ((p : Int) + 1))).drewN k) := by
  intro v h0 h1 k
  have ho : Only g w ((w.setCell ⟨g, 1, none⟩ (.int .i64 ((p : Int) + 1))).drewN k) := ((Only.refl g w).set_ (p := ⟨g, 1, none⟩) (.inl rfl) _).drewN k
  exact ⟨v, rfl, h0, h1, ⟨A, m, c, zs, HB.out.set_ 1 _, HR.out.only ho (fun h0 hb => by have := HA.out h0 _ hb; omega), HZ.out, hm, HA.out⟩, ho⟩
 have HE := Lib.hid hend
 clear hb hr hz hA hend
 have k0 : (w.setCell ⟨g, 1, none⟩ (.int .i64 ((p : Int) + 1))).cell? ⟨g, 0, none⟩ = some (.slice A m c) := (HB.out.set_ 1 _).cell 0
 have k1 : (w.setCell ⟨g, 1, none⟩ (.int .i64 ((p : Int) + 1))).cell? ⟨g, 1, none⟩ = some (.int .i64 ((p : Int) + 1)) := (HB.out.set_ 1 _).cell 1
 by_cases hn : n < 1
 ·go_enter Tryz.func37, Tryz.ntmps37
  go_wp2
  go_ret
  exact HE.out 0 (Int.le_refl _) (by omega) 0
 ·by_cases hm0 : m = 0
  ·subst hm0
   go_enter Tryz.func37, Tryz.ntmps37
   go_wp2
   go_ret
   exact HE.out 0 (Int.le_refl _) (by omega) 0
  ·have hm1 : ((m : Int) == 0) = false := by simp; omega
   have hcell : ∀ j, j < m → ∃ b off z, A = some ⟨b, off, none⟩ ∧ b < w.heap.size ∧ b ≠ g ∧ zs[j]? = some z ∧ (w.setCell ⟨g, 1, none⟩ (.int .i64 ((p : Int) + 1))).cell? ⟨b, off + j, none⟩ = some (.int .u8 z) := by
    intro j hj
    obtain ⟨b, off, z, hA, hb, hz, hc⟩ := HR.out.at_ hj
    have hne : b ≠ g := by
     intro hbg
     have := HA.out (by omega) b (by rw [hA]; rfl)
     omega
    exact ⟨b, off, z, hA, hb, hne, hz, by rw [World.cell?_setCell_other _ _ _ _ (by simp)]; exact hc⟩
   by_cases hpm : p < m
   ·obtain ⟨b, off, z, rfl, hb, hne, hz, hc⟩ := hcell p hpm
    have hzb := HZ.out z (List.mem_of_getElem? hz)
    have hz0 : 0 ≤ z := hzb.1
    have hz1 : z ≤ 255 := hzb.2
    clear hz hzb hb0 hcell
    go_enter Tryz.func37, Tryz.ntmps37
    go_wp2
    go_ret
    exact HE.out _ (Int.emod_nonneg _ (by omega)) (fun _ => Int.emod_lt_of_pos _ (by omega)) 0
   ·have hj1 : p % m < m := Nat.mod_lt _ (by omega)
    have hj2 : (p * 7 + 3) % m < m := Nat.mod_lt _ (by omega)
    obtain ⟨b, off, z, rfl, hb, hne, hz, hc⟩ := hcell (p % m) hj1
    obtain ⟨b', off', z', hA', hb', hne', hz', hc'⟩ := hcell ((p * 7 + 3) % m) hj2
    obtain ⟨rfl, rfl⟩ : b = b' ∧ off = off' := by simpa using hA'
    have hzb := HZ.out z (List.mem_of_getElem? hz)
    have hz0 : 0 ≤ z := hzb.1
    have hz1 : z ≤ 255 := hzb.2
    have hzb' := HZ.out z' (List.mem_of_getElem? hz')
    have hz0' : 0 ≤ z' := hzb'.1
    have hz1' : z' ≤ 255 := hzb'.2
    have hi1 : (0 : Int) ≤ (p : Int) % m := by omega
    have hi2 : (p : Int) % m < m := by omega
    have hi3 : (0 : Int) ≤ ((p : Int) * 7 + 3) % m := Int.emod_nonneg _ (by omega)
    have hi4 : ((p : Int) * 7 + 3) % m < m := Int.emod_lt_of_pos _ (by omega)
    have hi5 : ((p : Int) % m).toNat = p % m := by omega
    have hi6 : (((p : Int) * 7 + 3) % m).toNat = (p * 7 + 3) % m := by
     rw [show ((p : Int) * 7 + 3) % m = (((p * 7 + 3) % m : Nat) : Int) by push_cast; rfl]
     rfl
    have hq0 : (0 : Int) ≤ (p : Int) / m := Int.ediv_nonneg (by omega) (by omega)
    have hq1 : (p : Int) / m ≤ p := Int.ediv_le_self _ (by omega)
    obtain ⟨y, hy, hy0, hy1⟩ := xor_bd (z * 131 + z' * 1117 + p * 29 + (p : Int) / m * 53) (by omega) (by omega)
    clear hz hzb hz' hzb' hb0 hcell hA'
    go_enter Tryz.func37, Tryz.ntmps37
    go_wp2
    go_quiet (fail)
    go_wp2
    go_ret
    exact HE.out _ (Int.emod_nonneg _ (by omega)) (fun _ => Int.emod_lt_of_pos _ (by omega)) _
end Go.Proofs.YtemnlheidghbmaaGreatDoor
namespace Go.Proofs.YtemnlheidghbmaaGreatDoor
open Go.RowKit Go.ChangeShapes Go.WideShapes Go.ChangeAt Go.Joins Go.Deep
def IntsOf (k : IntKind) (w : World) (A : Option Addr) (n c : Nat) (zs : List Int) : Prop := RdI k w A n zs ∧ n ≤ c ∧ c ≤ maxLen ∧ ∀ z ∈ zs, (Lit.int k z).wf = true
abbrev BytesIn := IntsOf .u8
theorem BytesIn.bd {w : World} {A : Option Addr} {n c : Nat} {zs : List Int} (h : BytesIn w A n c zs) : ∀ z ∈ zs, 0 ≤ z ∧ z ≤ 255 := by
 intro z hz
 have := h.2.2.2 z hz
 simp only [Lit.wf, Bool.and_eq_true, decide_eq_true_eq] at this
 have h0 : IntKind.u8.min = 0 := by decide
 have h1 : IntKind.u8.max = 255 := by decide
 omega
theorem open_IntsOf {k : IntKind} {H : Type} {enc : TypeId × Value → H} {P : Program} {w : World} {t e : TypeId} {fuel : Nat} {A : Option Addr} {n c : Nat} {x : DataW H × List MemPlace}
  (ht : P.underlying t = some (.slice e)) (he : P.underlying e = some (.int k)) (ce : P.cellsOf e = 1)
  (h : DataW.trod enc P w 0 (fun _ => true) true fuel t [.slice A n c] = some x) :
  ∃ zs : List Int, IntsOf k w A n c zs := by
 rcases open_slice1 ht ce h with ⟨hcs, _⟩ | ⟨a, len, cap, m, n', V, D, Pl, hcs, _, hl, hm, hmm, _, hx⟩
 ·simp at hcs
  obtain ⟨rfl, rfl, rfl⟩ := hcs
  exact ⟨[], ⟨rfl, fun h => absurd h (by omega)⟩, Nat.le_refl _, by simp [maxLen], fun e he => by cases he⟩
 ·simp at hcs
  obtain ⟨rfl, rfl, rfl⟩ := hcs
  have hmn : n ≤ m := by rw [hmm]; simp; exact hl
  have hv : ∀ i, i < n → V i = .int k (numOf_ (V i)) ∧ (Lit.int k (numOf_ (V i))).wf = true := by
   intro i hi
   obtain ⟨_, t0⟩ := hx i (by omega)
   obtain ⟨q0, e0, _, w0⟩ := DataW.trod_int he t0
   have e0' : V i = .int k q0 := by simpa using e0
   rw [e0']
   exact ⟨rfl, w0⟩
  refine ⟨(List.range n).map fun i => numOf_ (V i), ⟨by simp, fun hn => ?_⟩, hl, hm, fun e he => ?_⟩
  ·obtain ⟨b, off, spot⟩ := a
   have hs : spot = none := by
    have := World.cell?_spot (hx 0 (by omega)).1
    simpa [Addr.add] using this
   subst hs
   refine ⟨b, off, rfl, ?_, fun k' e he => ?_⟩
   ·have := World.block_lt_of_cell? _ _ (hx 0 (by omega)).1
    simpa [Addr.add] using this
   ·have hk : k' < n := by
     have := (List.getElem?_eq_some_iff.1 he).1
     simpa using this
    obtain ⟨g0, _⟩ := hx k' (by omega)
    obtain ⟨v0, _⟩ := hv k' hk
    have hee : e = numOf_ (V k') := by
     have := he
     simp [hk] at this
     exact this.symm
    rw [Addr.add_lit] at g0
    subst hee
    rw [g0, v0]; rfl
  ·obtain ⟨i, hi, rfl⟩ := List.mem_map.1 he
   exact (hv i (List.mem_range.1 hi)).2
theorem open_BytesIn {H : Type} {enc : TypeId × Value → H} {P : Program} {w : World} {t e : TypeId} {fuel : Nat} {A : Option Addr} {n c : Nat} {x : DataW H × List MemPlace}
  (ht : P.underlying t = some (.slice e)) (he : P.underlying e = some (.int .u8)) (ce : P.cellsOf e = 1)
  (h : DataW.trod enc P w 0 (fun _ => true) true fuel t [.slice A n c] = some x) :
  ∃ zs : List Int, BytesIn w A n c zs := open_IntsOf ht he ce h
end Go.Proofs.YtemnlheidghbmaaGreatDoor

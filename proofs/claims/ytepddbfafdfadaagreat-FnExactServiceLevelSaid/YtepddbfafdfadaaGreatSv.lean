/-
  Services as data (levels, tracks, services), and how they lie in memory: read (RdB, RdT, RdS) and owned (OwT, OwS: every row in an interval of blocks, no block twice). No condition: definitions and lemmas.
-/
import Derived.Test.YtepddbfafdfadaaGreatRd
import Derived.Test.YtepddbfafdfadaaGreatBm
import Derived.Test.YtepddbfafdfadaaGreatDr
namespace Go.Proofs.YtepddbfafdfadaaGreat
open Go.RowKit Go.Sort

abbrev Bx := Int × Int × Int × Int
def encB (b : Bx) : List Value := [.int .i64 b.1, .int .i64 b.2.1, .int .i64 b.2.2.1, .int .i64 b.2.2.2]
theorem encB_len (b : Bx) : (encB b).length = 4 := rfl
theorem encB_one : ∀ b, ∀ u ∈ encB b, u.oneCell' = true := by
  intro b u hu
  simp [encB] at hu
  rcases hu with rfl | rfl | rfl | rfl <;> rfl
abbrev cellsB : List Bx → List Value := cellsX encB
theorem cellsB_len (bs : List Bx) : (cellsB bs).length = bs.length * 4 := cellsX_length encB_len bs

/-- a slice of boxes -/
abbrev RdB (w : World) (A : Option Addr) (n : Nat) (bs : List Bx) : Prop := Rd encB 4 w A n bs
theorem RdB.cells {w : World} {A : Option Addr} {n : Nat} {bs : List Bx} (h : RdB w A n bs) {k : Nat} (hk : k < n) : ∃ b off x, A = some ⟨b, off, none⟩ ∧ b < w.heap.size ∧ bs[k]? = some x ∧ w.cell? ⟨b, off + k * 4, none⟩ = some (.int .i64 x.1) ∧ w.cell? ⟨b, off + k * 4 + 1, none⟩ = some (.int .i64 x.2.1) ∧ w.cell? ⟨b, off + k * 4 + 2, none⟩ = some (.int .i64 x.2.2.1) ∧ w.cell? ⟨b, off + k * 4 + 3, none⟩ = some (.int .i64 x.2.2.2) := by
  obtain ⟨b, off, x, hA, hb, hx, hc⟩ := h.at_ hk
  exact ⟨b, off, x, hA, hb, hx, hc 0 _ rfl, hc 1 _ rfl, hc 2 _ rfl, hc 3 _ rfl⟩

structure Lvl where
  id : Int
  ticks : Int
  sx : Int
  sy : Int
  walls : List Bx
  gates : List Bx
  f : Bx
  bans : Int
structure Trk where
  l : Lvl
  b : List Ent
structure Svc where
  ts : List Trk
  keys : List Int
  tags : List Int
structure Sl where
  a : Option Addr
  n : Nat
  c : Nat
/-- the slices of a track -/
structure TP where
  w : Sl
  g : Sl
  b : Sl
abbrev Row := TP × Trk

abbrev Sl.v (s : Sl) : Value := .slice s.a s.n s.c
abbrev lvlV (l : Lvl) (ws gs : Sl) : Value := .agg #[.int .i64 l.id, .int .i64 l.ticks, .int .i64 l.sx, .int .i64 l.sy, .slice ws.a ws.n ws.c, .slice gs.a gs.n gs.c, .int .i64 l.f.1, .int .i64 l.f.2.1, .int .i64 l.f.2.2.1, .int .i64 l.f.2.2.2, .int .i64 l.bans]
def encT (x : Row) : List Value := [.int .i64 x.2.l.id, .int .i64 x.2.l.ticks, .int .i64 x.2.l.sx, .int .i64 x.2.l.sy, .slice x.1.w.a x.1.w.n x.1.w.c, .slice x.1.g.a x.1.g.n x.1.g.c, .int .i64 x.2.l.f.1, .int .i64 x.2.l.f.2.1, .int .i64 x.2.l.f.2.2.1, .int .i64 x.2.l.f.2.2.2, .int .i64 x.2.l.bans, .slice x.1.b.a x.1.b.n x.1.b.c]
theorem encT_len (x : Row) : (encT x).length = 12 := rfl
theorem encT_one : ∀ x, ∀ u ∈ encT x, u.oneCell' = true := by
  intro x u hu
  simp [encT] at hu
  rcases hu with rfl | rfl | rfl | rfl | rfl | rfl | rfl | rfl | rfl | rfl | rfl | rfl <;> rfl
abbrev cellsT : List Row → List Value := cellsX encT
theorem cellsT_len (xs : List Row) : (cellsT xs).length = xs.length * 12 := cellsX_length encT_len xs

/-- the cells of a slice of integers -/
abbrev cellsI (zs : List Int) : List Value := zs.map (Value.int .i64)
theorem cellsI_one (zs : List Int) : ∀ u ∈ cellsI zs, u.oneCell' = true := by
  intro u hu
  obtain ⟨z, _, rfl⟩ := List.mem_map.1 hu
  rfl
theorem Src.ints {w : World} {A : Option Addr} {n : Nat} {zs : List Int} (h : RdI .i64 w A n zs) : Src w 1 A n (cellsI zs) := by
  refine ⟨by simp [h.1], fun hn => ?_⟩
  obtain ⟨b, off, hA, hb, hc⟩ := h.2 hn
  refine ⟨_, hA, fun j u hu => ?_⟩
  rw [Addr.add_lit]
  simp only [cellsI, List.getElem?_map, Option.map_eq_some_iff] at hu
  obtain ⟨z, hz, rfl⟩ := hu
  exact hc j z hz
theorem Ow.rdI {B T c : Nat} {w : World} {A : Option Addr} {n : Nat} {zs : List Int} (h : Ow B w T 1 A n c (cellsI zs)) : RdI .i64 w A n zs := by
  have hl := h.len
  refine ⟨by simpa using hl, fun hn => ?_⟩
  obtain ⟨g, cur, hg, _, hb, _⟩ := h.blk (Nat.lt_of_lt_of_le hn h.le)
  obtain ⟨ad, hA, hc⟩ := h.src.2 hn
  rw [hg] at hA
  injection hA with hA
  subst hA
  refine ⟨g, 0, hg, hb.lt, fun j z hz => ?_⟩
  have := hc j (.int .i64 z) (by simp [cellsI, hz])
  rw [Addr.add_lit] at this
  exact this
theorem RdI.blk {w : World} {g T : Nat} {zs : List Int} (h : Blk w g T (cellsI zs).toArray) : RdI .i64 w (some ⟨g, 0, none⟩) zs.length zs := by
  refine ⟨rfl, fun _ => ⟨g, 0, rfl, h.lt, fun k e hk => ?_⟩⟩
  rw [Nat.zero_add, h.cell]
  simp [cellsI, hk]

def SlOk (n c : Nat) : Prop := n ≤ c ∧ n ≤ 1048576
/-- the rows of a level -/
def RdL (w : World) (l : Lvl) (ws gs : Sl) : Prop := RdB w ws.a ws.n l.walls ∧ RdB w gs.a gs.n l.gates ∧ SlOk ws.n ws.c ∧ SlOk gs.n gs.c
def RdT (w : World) (x : Row) : Prop := RdL w x.2.l x.1.w x.1.g ∧ RdE w x.1.b.a x.1.b.n x.2.b ∧ SlOk x.1.b.n x.1.b.c
/-- a slice of tracks -/
def RdTs (w : World) (A : Option Addr) (n : Nat) (xs : List Row) : Prop := Rd encT 12 w A n xs ∧ ∀ x ∈ xs, RdT w x
def RdS (w : World) (t k g : Sl) (S : Svc) : Prop :=
  (∃ xs, xs.map (·.2) = S.ts ∧ RdTs w t.a t.n xs) ∧ RdI .i64 w k.a k.n S.keys ∧ RdI .i64 w g.a g.n S.tags ∧ SlOk t.n t.c ∧ SlOk k.n k.c ∧ SlOk g.n g.c
abbrev svV (t k g : Sl) : Value := .agg #[.slice t.a t.n t.c, .slice k.a k.n k.c, .slice g.a g.n g.c]

section
variable {w w' : World} {l : Lvl} {ws gs : Sl} {x : Row} {A : Option Addr} {n : Nat} {xs : List Row} {S : Svc} {t k g : Sl}
theorem RdL.below (h : RdL w l ws gs) (hb : Below w.heap.size w w') : RdL w' l ws gs := ⟨h.1.below hb, h.2.1.below hb, h.2.2⟩
theorem RdT.below (h : RdT w x) (hb : Below w.heap.size w w') : RdT w' x := ⟨h.1.below hb, h.2.1.below hb, h.2.2⟩
theorem RdTs.below (h : RdTs w A n xs) (hb : Below w.heap.size w w') : RdTs w' A n xs := ⟨h.1.below hb, fun x hx => (h.2 x hx).below hb⟩
theorem RdS.below (h : RdS w t k g S) (hb : Below w.heap.size w w') : RdS w' t k g S := by
  obtain ⟨⟨xs, h1, h2⟩, h3, h4, h5⟩ := h
  exact ⟨⟨xs, h1, h2.below hb⟩, h3.below hb, h4.below hb, h5⟩
theorem RdTs.cells (h : RdTs w A n xs) {k : Nat} (hk : k < n) : ∃ b off x, A = some ⟨b, off, none⟩ ∧ b < w.heap.size ∧ xs[k]? = some x ∧ RdT w x ∧
    w.cell? ⟨b, off + k * 12, none⟩ = some (.int .i64 x.2.l.id) ∧ w.cell? ⟨b, off + k * 12 + 1, none⟩ = some (.int .i64 x.2.l.ticks) ∧ w.cell? ⟨b, off + k * 12 + 2, none⟩ = some (.int .i64 x.2.l.sx) ∧ w.cell? ⟨b, off + k * 12 + 3, none⟩ = some (.int .i64 x.2.l.sy) ∧
    w.cell? ⟨b, off + k * 12 + 4, none⟩ = some (.slice x.1.w.a x.1.w.n x.1.w.c) ∧ w.cell? ⟨b, off + k * 12 + 5, none⟩ = some (.slice x.1.g.a x.1.g.n x.1.g.c) ∧
    w.cell? ⟨b, off + k * 12 + 6, none⟩ = some (.int .i64 x.2.l.f.1) ∧ w.cell? ⟨b, off + k * 12 + 7, none⟩ = some (.int .i64 x.2.l.f.2.1) ∧ w.cell? ⟨b, off + k * 12 + 8, none⟩ = some (.int .i64 x.2.l.f.2.2.1) ∧ w.cell? ⟨b, off + k * 12 + 9, none⟩ = some (.int .i64 x.2.l.f.2.2.2) ∧
    w.cell? ⟨b, off + k * 12 + 10, none⟩ = some (.int .i64 x.2.l.bans) ∧ w.cell? ⟨b, off + k * 12 + 11, none⟩ = some (.slice x.1.b.a x.1.b.n x.1.b.c) := by
  obtain ⟨b, off, x, hA, hb, hx, hc⟩ := h.1.at_ hk
  exact ⟨b, off, x, hA, hb, hx, h.2 x (List.mem_of_getElem? hx), hc 0 _ rfl, hc 1 _ rfl, hc 2 _ rfl, hc 3 _ rfl, hc 4 _ rfl, hc 5 _ rfl, hc 6 _ rfl, hc 7 _ rfl, hc 8 _ rfl, hc 9 _ rfl, hc 10 _ rfl, hc 11 _ rfl⟩
end

/-- the block that a slice owns, as a list -/
def blkOf (s : Sl) : List Nat := (ownB s.a s.c).toList
abbrev OwB (lo hi : Nat) (w : World) (s : Sl) (bs : List Bx) : Prop := OwI lo hi w 44 4 s.a s.n s.c (cellsB bs)
abbrev OwEn (lo hi : Nat) (w : World) (s : Sl) (es : List Ent) : Prop := OwI lo hi w 67 2 s.a s.n s.c (cellsE es)
abbrev OwZ (lo hi : Nat) (w : World) (s : Sl) (zs : List Int) : Prop := OwI lo hi w 3 1 s.a s.n s.c (cellsI zs)
def OwL (lo hi : Nat) (w : World) (l : Lvl) (ws gs : Sl) : Prop := OwB lo hi w ws l.walls ∧ OwB lo hi w gs l.gates ∧ ws.n ≤ 1048576 ∧ gs.n ≤ 1048576
def OwT (lo hi : Nat) (w : World) (x : Row) : Prop := OwL lo hi w x.2.l x.1.w x.1.g ∧ OwEn lo hi w x.1.b x.2.b ∧ x.1.b.n ≤ 1048576
def boxBlks (xs : List Row) : List Nat := xs.flatMap fun x => blkOf x.1.w ++ blkOf x.1.g
def entBlks (xs : List Row) : List Nat := xs.flatMap fun x => blkOf x.1.b
def OwTs (lo hi : Nat) (w : World) (t : Sl) (xs : List Row) : Prop :=
  OwI lo hi w 62 12 t.a t.n t.c (cellsT xs) ∧ (∀ x ∈ xs, OwT lo hi w x) ∧ (boxBlks xs).Nodup ∧ (entBlks xs).Nodup ∧ t.n ≤ 1048576
def OwS (lo hi : Nat) (w : World) (t k g : Sl) (S : Svc) : Prop :=
  (∃ xs, xs.map (·.2) = S.ts ∧ OwTs lo hi w t xs) ∧ OwZ lo hi w k S.keys ∧ OwZ lo hi w g S.tags ∧ (blkOf k ++ blkOf g).Nodup ∧ k.n ≤ 1048576 ∧ g.n ≤ 1048576

theorem mem_blkOf {s : Sl} {b : Nat} : b ∈ blkOf s ↔ 0 < s.c ∧ s.a.map (·.block) = some b := by
  unfold blkOf ownB
  by_cases h : s.c = 0
  · simp [h]
  · rw [if_neg h]
    cases s.a with
    | none => simp
    | some a => simp; omega

section
variable {lo hi lo' hi' : Nat} {w w' : World} {l : Lvl} {ws gs : Sl} {x : Row} {xs : List Row} {S : Svc} {t k g : Sl}
theorem OwI.rdB {T : Nat} {s : Sl} {bs : List Bx} (h : OwI lo hi w T 4 s.a s.n s.c (cellsB bs)) : RdB w s.a s.n bs := h.ow.rd encB_len (by omega)
theorem OwL.rd (h : OwL lo hi w l ws gs) : RdL w l ws gs := ⟨h.1.rdB, h.2.1.rdB, ⟨h.1.ow.le, h.2.2.1⟩, ⟨h.2.1.ow.le, h.2.2.2⟩⟩
theorem OwT.rd (h : OwT lo hi w x) : RdT w x := ⟨h.1.rd, h.2.1.ow.rdE, h.2.1.ow.le, h.2.2⟩
theorem OwTs.rd (h : OwTs lo hi w t xs) : RdTs w t.a t.n xs := ⟨h.1.ow.rd encT_len (by omega), fun x hx => (h.2.1 x hx).rd⟩
theorem OwS.rd (h : OwS lo hi w t k g S) : RdS w t k g S := by
  obtain ⟨⟨xs, h1, h2⟩, h3, h4, _, h5, h6⟩ := h
  exact ⟨⟨xs, h1, h2.rd⟩, h3.ow.rdI, h4.ow.rdI, ⟨h2.1.ow.le, h2.2.2.2.2⟩, ⟨h3.ow.le, h5⟩, ⟨h4.ow.le, h6⟩⟩
theorem OwL.next (h : OwL lo hi w l ws gs) (hb : Below w.heap.size w w') : OwL lo hi w' l ws gs := ⟨h.1.next hb, h.2.1.next hb, h.2.2⟩
theorem OwT.next (h : OwT lo hi w x) (hb : Below w.heap.size w w') : OwT lo hi w' x := ⟨h.1.next hb, h.2.1.next hb, h.2.2⟩
theorem OwTs.next (h : OwTs lo hi w t xs) (hb : Below w.heap.size w w') : OwTs lo hi w' t xs := ⟨h.1.next hb, fun x hx => (h.2.1 x hx).next hb, h.2.2⟩
theorem OwS.next (h : OwS lo hi w t k g S) (hb : Below w.heap.size w w') : OwS lo hi w' t k g S := by
  obtain ⟨⟨xs, h1, h2⟩, h3, h4, h5⟩ := h
  exact ⟨⟨xs, h1, h2.next hb⟩, h3.next hb, h4.next hb, h5⟩
theorem OwL.mono (h : OwL lo hi w l ws gs) (h1 : lo' ≤ lo) (h2 : hi ≤ hi') : OwL lo' hi' w l ws gs := ⟨h.1.mono h1 h2, h.2.1.mono h1 h2, h.2.2⟩
theorem OwT.mono (h : OwT lo hi w x) (h1 : lo' ≤ lo) (h2 : hi ≤ hi') : OwT lo' hi' w x := ⟨h.1.mono h1 h2, h.2.1.mono h1 h2, h.2.2⟩
theorem OwTs.mono (h : OwTs lo hi w t xs) (h1 : lo' ≤ lo) (h2 : hi ≤ hi') : OwTs lo' hi' w t xs := ⟨h.1.mono h1 h2, fun x hx => (h.2.1 x hx).mono h1 h2, h.2.2⟩
theorem OwS.mono (h : OwS lo hi w t k g S) (h1 : lo' ≤ lo) (h2 : hi ≤ hi') : OwS lo' hi' w t k g S := by
  obtain ⟨⟨xs, h3, h4⟩, h5, h6, h7⟩ := h
  exact ⟨⟨xs, h3, h4.mono h1 h2⟩, h5.mono h1 h2, h6.mono h1 h2, h7⟩
theorem OwL.frm (h : OwL lo hi w l ws gs) (hf : Frm lo' hi' w w') (hd : hi ≤ lo' ∨ hi' ≤ lo) : OwL lo hi w' l ws gs := ⟨h.1.frm hf hd, h.2.1.frm hf hd, h.2.2⟩
theorem OwT.frm (h : OwT lo hi w x) (hf : Frm lo' hi' w w') (hd : hi ≤ lo' ∨ hi' ≤ lo) : OwT lo hi w' x := ⟨h.1.frm hf hd, h.2.1.frm hf hd, h.2.2⟩
theorem OwTs.frm (h : OwTs lo hi w t xs) (hf : Frm lo' hi' w w') (hd : hi ≤ lo' ∨ hi' ≤ lo) : OwTs lo hi w' t xs := ⟨h.1.frm hf hd, fun x hx => (h.2.1 x hx).frm hf hd, h.2.2⟩
theorem OwS.frm (h : OwS lo hi w t k g S) (hf : Frm lo' hi' w w') (hd : hi ≤ lo' ∨ hi' ≤ lo) : OwS lo hi w' t k g S := by
  obtain ⟨⟨xs, h1, h2⟩, h3, h4, h5⟩ := h
  exact ⟨⟨xs, h1, h2.frm hf hd⟩, h3.frm hf hd, h4.frm hf hd, h5⟩
theorem OwS.bare (lo hi : Nat) (w : World) (A A' A'' : Option Addr) : OwS lo hi w ⟨A, 0, 0⟩ ⟨A', 0, 0⟩ ⟨A'', 0, 0⟩ ⟨[], [], []⟩ :=
  ⟨⟨[], rfl, OwI.bare _ _ _ _ _ _, by simp, by simp [boxBlks], by simp [entBlks], by simp⟩, OwI.bare _ _ _ _ _ _, OwI.bare _ _ _ _ _ _, by simp [blkOf, ownB], by simp, by simp⟩
end

theorem infoB : (Tryz.prog.info? 44).map (fun i => (i.zero, i.size, i.bytes)) = some (some (.agg #[.int .i64 0, .int .i64 0, .int .i64 0, .int .i64 0]), 4, 32) := by kernel_rfl
theorem infoT : (Tryz.prog.info? 62).map (fun i => (i.zero, i.size, i.bytes)) = some (some (.agg #[.int .i64 0, .int .i64 0, .int .i64 0, .int .i64 0, .slice none 0 0, .slice none 0 0, .int .i64 0, .int .i64 0, .int .i64 0, .int .i64 0, .int .i64 0, .slice none 0 0]), 12, 144) := by kernel_rfl
theorem infoZ : (Tryz.prog.info? 3).map (fun i => (i.zero, i.size, i.bytes)) = some (some (.int .i64 0), 1, 8) := by kernel_rfl
end Go.Proofs.YtepddbfafdfadaaGreat

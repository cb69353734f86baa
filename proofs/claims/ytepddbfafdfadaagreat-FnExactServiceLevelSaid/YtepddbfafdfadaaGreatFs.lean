/-
  How an argument that is a service, or a level, is opened: it reads as a service (RdSr), or a level (RdLr). No condition.
-/
import Derived.Test.YtepddbfafdfadaaGreatFr
import Derived.Test.YtepddbfafdfadaaGreatSz
namespace Go.Proofs.YtepddbfafdfadaaGreat
open Go.RowKit Go.ChangeShapes Go.WideShapes Go.ChangeAt Go.Deep

section
variable {H : Type} {enc : TypeId × Value → H}
theorem open_row {α : Type} [Inhabited α] {encx : α → List Value} {sz : Nat} {Q : α → Prop} {P : Program} {w : World} {t e : TypeId} {fuel : Nat} {A : Option Addr} {n c : Nat} {x : DataW H × List MemPlace}
    (ht : P.underlying t = some (.slice e)) (ce : P.cellsOf e = sz) (hsz : 0 < sz) (hlen : ∀ x, (encx x).length = sz)
    (hop : ∀ fuel cs y, DataW.trod enc P w 0 (fun _ => true) true fuel e cs = some y → ∃ x, cs = encx x ∧ Q x)
    (h : DataW.trod enc P w 0 (fun _ => true) true fuel t [.slice A n c] = some x) :
    ∃ xs : List α, Rd encx sz w A n xs ∧ (∀ x ∈ xs, Q x) ∧ n ≤ c ∧ c ≤ maxLen := by
  rcases open_slice ht h with ⟨hcs, _⟩ | ⟨a, len, cap, m, n', D, Pl, hcs, _, hl, hm, hmm, _, hx⟩
  · simp at hcs
    obtain ⟨rfl, rfl, rfl⟩ := hcs
    exact ⟨[], Rd.nil_ _ _, by simp, Nat.le_refl _, by simp [maxLen]⟩
  · simp at hcs
    obtain ⟨rfl, rfl, rfl⟩ := hcs
    have hmn : n ≤ m := by rw [hmm]; simp; exact hl
    obtain ⟨f, hf⟩ := choose_lt (α := α) (n := n) (p := fun i y => Q y ∧ ∀ j v, (encx y)[j]? = some v → w.cell? ((a.add (i * sz)).add j) = some v) (fun i hi => by
      obtain ⟨cs', h1, h2⟩ := hx i (by omega)
      rw [ce] at h1
      obtain ⟨_, hlen', hcell⟩ := World.cells?_some h1
      obtain ⟨y, rfl, hq⟩ := hop _ _ _ h2
      refine ⟨y, hq, fun j v hv => ?_⟩
      have hj : j < sz := by
        have := (List.getElem?_eq_some_iff.1 hv).1
        rw [hlen] at this
        exact this
      rw [hcell j hj, hv])
    refine ⟨(List.range n).map f, ⟨by simp, fun hn => ?_⟩, fun y hy => ?_, hl, hm⟩
    · obtain ⟨b, off, spot⟩ := a
      have h0 : (encx (f 0))[0]? = some ((encx (f 0))[0]'(by rw [hlen]; exact hsz)) := List.getElem?_eq_getElem _
      have hc0 := (hf 0 hn).2 0 _ h0
      have hs : spot = none := by
        have := World.cell?_spot hc0
        simpa [Addr.add] using this
      subst hs
      refine ⟨b, off, rfl, ?_, fun k y hk j v hv => ?_⟩
      · have := World.block_lt_of_cell? _ _ hc0
        simpa [Addr.add] using this
      · have hkn : k < n := by
          have := (List.getElem?_eq_some_iff.1 hk).1
          simpa using this
        have hy : y = f k := by
          simp [hkn] at hk
          exact hk.symm
        subst hy
        have := (hf k hkn).2 j v hv
        rw [Addr.add_lit, Addr.add_lit] at this
        exact this
    · obtain ⟨i, hi, rfl⟩ := List.mem_map.1 hy
      exact (hf i (List.mem_range.1 hi)).1

theorem open_sl {P : Program} {w : World} {t e : TypeId} {fuel : Nat} {v : Value} {x : DataW H × List MemPlace} (ht : P.underlying t = some (.slice e)) (h : DataW.trod enc P w 0 (fun _ => true) true fuel t [v] = some x) : ∃ s : Sl, v = .slice s.a s.n s.c := by
  rcases open_slice ht h with ⟨hcs, _⟩ | ⟨a, len, cap, m, n', D, Pl, hcs, _⟩
  · simp at hcs
    exact ⟨⟨none, 0, 0⟩, hcs⟩
  · simp at hcs
    exact ⟨⟨some a, len, cap⟩, hcs⟩
end

theorem RdSr.below {w w' : World} {t k g : Sl} {S : Svc} {xs : List Row} (h : RdSr w t k g S xs) (hb : Below w.heap.size w w') : RdSr w' t k g S xs :=
  ⟨h.1, h.2.1.below hb, h.2.2.1.below hb, h.2.2.2.1.below hb, h.2.2.2.2⟩
theorem cells_int : Tryz.prog.cellsOf 3 = 1 := by kernel_rfl
theorem cells_vec : Tryz.prog.cellsOf 27 = 2 := by kernel_rfl
theorem cells_box : Tryz.prog.cellsOf 30 = 4 := by kernel_rfl
theorem cells_boxs : Tryz.prog.cellsOf 28 = 1 := by kernel_rfl
theorem cells_level : Tryz.prog.cellsOf 32 = 11 := by kernel_rfl
theorem cells_entry : Tryz.prog.cellsOf 180 = 2 := by kernel_rfl
theorem cells_entries : Tryz.prog.cellsOf 115 = 1 := by kernel_rfl
theorem cells_track : Tryz.prog.cellsOf 117 = 12 := by kernel_rfl
theorem cells_tracks : Tryz.prog.cellsOf 22 = 1 := by kernel_rfl
theorem cells_ints : Tryz.prog.cellsOf 23 = 1 := by kernel_rfl
theorem cells_service : Tryz.prog.cellsOf 25 = 3 := by kernel_rfl

section
variable {H : Type} {enc : TypeId × Value → H} {w : World} {fuel : Nat} {cs : List Value} {x : DataW H × List MemPlace} {v : Value}
set_option maxRecDepth 100000 in
theorem open_num (h : DataW.trod enc Tryz.prog w 0 (fun _ => true) true fuel 3 [v] = some x) : ∃ a : Int, v = .int .i64 a := by
  obtain ⟨q, e, _, _⟩ := DataW.trod_int Tryz.underlying3 h
  exact ⟨q, by simpa using e⟩
set_option maxRecDepth 100000 in
theorem open_vec (h : DataW.trod enc Tryz.prog w 0 (fun _ => true) true fuel 27 cs = some x) : ∃ a b : Int, cs = [.int .i64 a, .int .i64 b] := by
  obtain ⟨y0, y1, n, _, hl, t0, t1⟩ := trod_struct2 Tryz.underlying27 h
  rw [cells_vec] at hl
  match cs, hl with
  | [c0, c1], _ =>
    simp only [cells_int, List.drop, List.take] at t0 t1
    obtain ⟨a, rfl⟩ := open_num t0
    obtain ⟨b, rfl⟩ := open_num t1
    exact ⟨a, b, rfl⟩
set_option maxRecDepth 100000 in
theorem open_box (h : DataW.trod enc Tryz.prog w 0 (fun _ => true) true fuel 30 cs = some x) : ∃ b : Bx, cs = encB b := by
  obtain ⟨y0, y1, n, _, hl, t0, t1⟩ := trod_struct2 Tryz.underlying30 h
  rw [cells_box] at hl
  match cs, hl with
  | [c0, c1, c2, c3], _ =>
    simp only [cells_vec, List.drop, List.take] at t0 t1
    obtain ⟨a, b, e0⟩ := open_vec t0
    obtain ⟨c, d, e1⟩ := open_vec t1
    simp at e0 e1
    obtain ⟨rfl, rfl⟩ := e0
    obtain ⟨rfl, rfl⟩ := e1
    exact ⟨(a, b, c, d), rfl⟩
set_option maxRecDepth 100000 in
theorem open_boxes {s : Sl} (h : DataW.trod enc Tryz.prog w 0 (fun _ => true) true fuel 28 [.slice s.a s.n s.c] = some x) : ∃ bs, RdB w s.a s.n bs ∧ SlRaw s.n s.c := by
  obtain ⟨xs, h1, _, h2, h3⟩ := open_row (Q := fun _ => True) Tryz.underlying28 cells_box (by omega) encB_len (fun _ _ _ hy => by obtain ⟨b, hb⟩ := open_box hy; exact ⟨b, hb, trivial⟩) h
  exact ⟨xs, h1, h2, h3⟩
set_option maxRecDepth 100000 in
theorem open_entries {s : Sl} (h : DataW.trod enc Tryz.prog w 0 (fun _ => true) true fuel 115 [.slice s.a s.n s.c] = some x) : ∃ es, RdE w s.a s.n es ∧ SlRaw s.n s.c := by
  obtain ⟨es, h1, h2, h3, _⟩ := open_ents Tryz.underlying115 Tryz.underlying180 (by kernel_rfl) rfl rfl (by kernel_rfl) (by kernel_rfl) Tryz.underlying3 Tryz.underlying3 h
  exact ⟨es, h1, h2, h3⟩
set_option maxRecDepth 100000 in
theorem open_nums {s : Sl} (h : DataW.trod enc Tryz.prog w 0 (fun _ => true) true fuel 23 [.slice s.a s.n s.c] = some x) : ∃ zs, RdI .i64 w s.a s.n zs ∧ SlRaw s.n s.c := by
  obtain ⟨xs, h1, _, h2, h3⟩ := open_row (encx := fun z : Int => [Value.int .i64 z]) (sz := 1) (Q := fun _ => True) Tryz.underlying23 cells_int (by omega) (fun _ => rfl) (fun _ cs y hy => by
    obtain ⟨q, e, _, _⟩ := DataW.trod_int Tryz.underlying3 hy
    exact ⟨q, e, trivial⟩) h
  refine ⟨xs, ⟨h1.len, fun hn => ?_⟩, h2, h3⟩
  obtain ⟨b, off, hA, hb, hc⟩ := h1.2 hn
  refine ⟨b, off, hA, hb, fun k z hk => ?_⟩
  have := hc k z hk 0 _ rfl
  simpa using this
set_option maxRecDepth 100000 in
theorem open_lvl (h : DataW.trod enc Tryz.prog w 0 (fun _ => true) true fuel 32 cs = some x) : ∃ (l : Lvl) (ws gs : Sl), cs = [.int .i64 l.id, .int .i64 l.ticks, .int .i64 l.sx, .int .i64 l.sy, .slice ws.a ws.n ws.c, .slice gs.a gs.n gs.c, .int .i64 l.f.1, .int .i64 l.f.2.1, .int .i64 l.f.2.2.1, .int .i64 l.f.2.2.2, .int .i64 l.bans] ∧ RdLr w l ws gs := by
  obtain ⟨xs, n, _, _, hl, hlen, hf⟩ := DataW.trod_struct Tryz.underlying32 h
  rw [cells_level] at hl
  match cs, hl, xs, hlen with
  | [c0, c1, c2, c3, c4, c5, c6, c7, c8, c9, c10], _, [x0, x1, x2, x3, x4, x5, x6], _ =>
    have t0 : DataW.trod enc Tryz.prog w 0 (fun _ => true) true n 3 ((List.drop 0 [c0, c1, c2, c3, c4, c5, c6, c7, c8, c9, c10]).take (Tryz.prog.cellsOf 3)) = some x0 := hf 0 _ rfl
    have t1 : DataW.trod enc Tryz.prog w 0 (fun _ => true) true n 3 ((List.drop 1 [c0, c1, c2, c3, c4, c5, c6, c7, c8, c9, c10]).take (Tryz.prog.cellsOf 3)) = some x1 := hf 1 _ rfl
    have t2 : DataW.trod enc Tryz.prog w 0 (fun _ => true) true n 27 ((List.drop 2 [c0, c1, c2, c3, c4, c5, c6, c7, c8, c9, c10]).take (Tryz.prog.cellsOf 27)) = some x2 := hf 2 _ rfl
    have t3 : DataW.trod enc Tryz.prog w 0 (fun _ => true) true n 28 ((List.drop 4 [c0, c1, c2, c3, c4, c5, c6, c7, c8, c9, c10]).take (Tryz.prog.cellsOf 28)) = some x3 := hf 3 _ rfl
    have t4 : DataW.trod enc Tryz.prog w 0 (fun _ => true) true n 28 ((List.drop 5 [c0, c1, c2, c3, c4, c5, c6, c7, c8, c9, c10]).take (Tryz.prog.cellsOf 28)) = some x4 := hf 4 _ rfl
    have t5 : DataW.trod enc Tryz.prog w 0 (fun _ => true) true n 30 ((List.drop 6 [c0, c1, c2, c3, c4, c5, c6, c7, c8, c9, c10]).take (Tryz.prog.cellsOf 30)) = some x5 := hf 5 _ rfl
    have t6 : DataW.trod enc Tryz.prog w 0 (fun _ => true) true n 3 ((List.drop 10 [c0, c1, c2, c3, c4, c5, c6, c7, c8, c9, c10]).take (Tryz.prog.cellsOf 3)) = some x6 := hf 6 _ rfl
    simp only [cells_int, cells_vec, cells_boxs, cells_box, List.drop, List.take] at t0 t1 t2 t3 t4 t5 t6
    obtain ⟨i, rfl⟩ := open_num t0
    obtain ⟨ti, rfl⟩ := open_num t1
    obtain ⟨sx, sy, e2⟩ := open_vec t2
    obtain ⟨ws, rfl⟩ := open_sl Tryz.underlying28 t3
    obtain ⟨gs, rfl⟩ := open_sl Tryz.underlying28 t4
    obtain ⟨b1, hb1, hs1⟩ := open_boxes t3
    obtain ⟨b2, hb2, hs2⟩ := open_boxes t4
    obtain ⟨f, e5⟩ := open_box t5
    obtain ⟨bn, rfl⟩ := open_num t6
    simp [encB] at e2 e5
    obtain ⟨rfl, rfl⟩ := e2
    obtain ⟨rfl, rfl, rfl, rfl⟩ := e5
    exact ⟨⟨i, ti, sx, sy, b1, b2, f, bn⟩, ws, gs, rfl, hb1, hb2, hs1, hs2⟩
instance : Inhabited Row := ⟨⟨⟨none, 0, 0⟩, ⟨none, 0, 0⟩, ⟨none, 0, 0⟩⟩, ⟨⟨0, 0, 0, 0, [], [], (0, 0, 0, 0), 0⟩, []⟩⟩
set_option maxRecDepth 100000 in
theorem open_trk (h : DataW.trod enc Tryz.prog w 0 (fun _ => true) true fuel 117 cs = some x) : ∃ x : Row, cs = encT x ∧ RdTr w x := by
  obtain ⟨y0, y1, n, _, hl, t0, t1⟩ := trod_struct2 Tryz.underlying117 h
  rw [cells_track] at hl
  match cs, hl with
  | [c0, c1, c2, c3, c4, c5, c6, c7, c8, c9, c10, c11], _ =>
    simp only [cells_level, cells_entries, List.drop, List.take] at t0 t1
    obtain ⟨l, ws, gs, e0, hl⟩ := open_lvl t0
    obtain ⟨s, rfl⟩ := open_sl Tryz.underlying115 t1
    obtain ⟨es, he, hs⟩ := open_entries t1
    simp at e0
    obtain ⟨rfl, rfl, rfl, rfl, rfl, rfl, rfl, rfl, rfl, rfl, rfl⟩ := e0
    exact ⟨(⟨ws, gs, s⟩, ⟨l, es⟩), rfl, hl, he, hs⟩
set_option maxRecDepth 100000 in
theorem open_tracks {s : Sl} (h : DataW.trod enc Tryz.prog w 0 (fun _ => true) true fuel 22 [.slice s.a s.n s.c] = some x) : ∃ xs, RdTsr w s.a s.n xs ∧ SlRaw s.n s.c := by
  obtain ⟨xs, h1, h0, h2, h3⟩ := open_row (Q := RdTr w) Tryz.underlying22 cells_track (by omega) encT_len (fun _ _ _ hy => open_trk hy) h
  exact ⟨xs, ⟨h1, h0⟩, h2, h3⟩
set_option maxRecDepth 100000 in
theorem open_svc (h : DataW.trod enc Tryz.prog w 0 (fun _ => true) true fuel 25 cs = some x) : ∃ (t k g : Sl) (S : Svc) (xs : List Row), cs = [.slice t.a t.n t.c, .slice k.a k.n k.c, .slice g.a g.n g.c] ∧ RdSr w t k g S xs := by
  obtain ⟨ys, n, _, _, hl, hlen, hf⟩ := DataW.trod_struct Tryz.underlying25 h
  rw [cells_service] at hl
  match cs, hl, ys, hlen with
  | [c0, c1, c2], _, [x0, x1, x2], _ =>
    have t0 : DataW.trod enc Tryz.prog w 0 (fun _ => true) true n 22 ((List.drop 0 [c0, c1, c2]).take (Tryz.prog.cellsOf 22)) = some x0 := hf 0 _ rfl
    have t1 : DataW.trod enc Tryz.prog w 0 (fun _ => true) true n 23 ((List.drop 1 [c0, c1, c2]).take (Tryz.prog.cellsOf 23)) = some x1 := hf 1 _ rfl
    have t2 : DataW.trod enc Tryz.prog w 0 (fun _ => true) true n 23 ((List.drop 2 [c0, c1, c2]).take (Tryz.prog.cellsOf 23)) = some x2 := hf 2 _ rfl
    simp only [cells_ints, cells_tracks, List.drop, List.take] at t0 t1 t2
    obtain ⟨t, rfl⟩ := open_sl Tryz.underlying22 t0
    obtain ⟨k, rfl⟩ := open_sl Tryz.underlying23 t1
    obtain ⟨g, rfl⟩ := open_sl Tryz.underlying23 t2
    obtain ⟨xs, h1, s1⟩ := open_tracks t0
    obtain ⟨zs, h2, s2⟩ := open_nums t1
    obtain ⟨us, h3, s3⟩ := open_nums t2
    exact ⟨t, k, g, ⟨xs.map (·.2), zs, us⟩, xs, rfl, rfl, h1, h2, h3, s1, s2, s3⟩
set_option maxRecDepth 100000 in
/-- an argument that is a service -/
theorem open_service {W : World} {r : Reach} {b0 : Nat} {v : Value} {d : DataW H} {p : List MemPlace} (hv : Value.okWide Tryz.prog W r b0 25 v) (h : DataW.Trod enc Tryz.prog W 0 (fun _ => true) true 25 v d p) :
    ∃ (t k g : Sl) (S : Svc) (xs : List Row), v = svV t k g ∧ RdSr W t k g S xs := by
  obtain ⟨cs, rfl, _⟩ := okWide_struct Tryz.underlying25 hv
  obtain ⟨m, hm⟩ := h
  obtain ⟨t, k, g, S, xs, e, hr⟩ := open_svc hm
  refine ⟨t, k, g, S, xs, ?_, hr⟩
  have : cs = #[.slice t.a t.n t.c, .slice k.a k.n k.c, .slice g.a g.n g.c] := by
    cases cs
    simpa [Value.cells] using e
  rw [this]
set_option maxRecDepth 100000 in
theorem open_level {W : World} {r : Reach} {b0 : Nat} {v : Value} {d : DataW H} {p : List MemPlace} (hv : Value.okWide Tryz.prog W r b0 32 v) (h : DataW.Trod enc Tryz.prog W 0 (fun _ => true) true 32 v d p) :
    ∃ (l : Lvl) (ws gs : Sl), v = lvlV l ws gs ∧ RdLr W l ws gs := by
  obtain ⟨cs, rfl, _⟩ := okWide_struct Tryz.underlying32 hv
  obtain ⟨m, hm⟩ := h
  obtain ⟨l, ws, gs, e, hr⟩ := open_lvl hm
  refine ⟨l, ws, gs, ?_, hr⟩
  have : cs = #[.int .i64 l.id, .int .i64 l.ticks, .int .i64 l.sx, .int .i64 l.sy, .slice ws.a ws.n ws.c, .slice gs.a gs.n gs.c, .int .i64 l.f.1, .int .i64 l.f.2.1, .int .i64 l.f.2.2.1, .int .i64 l.f.2.2.2, .int .i64 l.bans] := by
    cases cs
    simpa [Value.cells] using e
  rw [this]
end
end Go.Proofs.YtepddbfafdfadaaGreat

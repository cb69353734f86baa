/-
  slices.BinarySearchFunc at tracks with findTrack's closure; findTrack; l41Find. Slices of at most 2^20 tracks.
-/
import Derived.Test.YtepddbfafdfadaaGreatSi
namespace Go.Proofs.YtepddbfafdfadaaGreat
open Go.RowKit Go.Sort

set_option maxHeartbeats 1000000 in
theorem findTrack1_any (x : Row) (id : Int) (w : World) :
    Calls Tryz.prog 106 #[.agg (encT x).toArray, .int .i64 id] w fun e w' => e = .returned (.int .i64 (wrap64 (x.2.l.id - id))) ∧ Below w.heap.size w w' := by
  simp only [encT]
  go_enter Tryz.func106, Tryz.ntmps106
  go_wp2
  go_ret
  exact ⟨rfl, by go_grown⟩

/-- the track at i stands ahead of the number, as the program reckons it -/
def ahead (xs : List Row) (id : Int) (i : Nat) : Prop := ∃ x, xs[i]? = some x ∧ wrap64 (x.2.l.id - id) < 0
/-- where the search ends -/
def EndAt (xs : List Row) (id : Int) (i : Nat) : Prop := i ≤ xs.length ∧ (i = 0 ∨ ahead xs id (i - 1)) ∧ (i = xs.length ∨ ¬ ahead xs id i)
def hitAt (xs : List Row) (id : Int) (i : Nat) : Bool := match xs[i]? with
  | none => false
  | some x => decide (wrap64 (x.2.l.id - id) = 0)

set_option maxRecDepth 100000 in
set_option maxHeartbeats 4000000 in
theorem search_any (A : Option Addr) (n c : Nat) (xs : List Row) (id : Int) (w : World) (hr : RdTs w A n xs) (hn : n ≤ 1048576) :
    Calls Tryz.prog 105 #[.slice A n c, .int .i64 id, .func (.func 106) #[] #[]] w fun e w' => ∃ i : Nat, e = .returned (.tuple #[.int .i64 i, .bool (hitAt xs id i)]) ∧ EndAt xs id i ∧ Below w.heap.size w w' := by
  have HR := Lib.hid hr
  have hl := hr.1.len
  have HL := Lib.hid hl
  clear hr hl
  go_enter Tryz.func105, Tryz.ntmps105
  go_wp2
  go_loopw [9, 10, 11] (fun i j _ wr => ∃ p q : Nat, p ≤ q ∧ q ≤ n ∧ i = .int .i64 p ∧ j = .int .i64 q ∧ Hid (Below w.heap.size w wr ∧ (p = 0 ∨ ahead xs id (p - 1)) ∧ (q = n ∨ ¬ ahead xs id q))) (fun i j _ _ => (intOf j).toNat - (intOf i).toNat)
  case atStart => exact ⟨0, n, Nat.zero_le _, Nat.le_refl _, rfl, rfl, Below.refl _ _, .inl rfl, .inl rfl⟩
  case round =>
    obtain ⟨p, q, hpq, hq, rfl, rfl, HB⟩ := hrel
    by_cases hlt : p < q
    · have hm1 : p ≤ (p + q) / 2 := by omega
      have hm2 : (p + q) / 2 < q := by omega
      have hm3 : (p + q) / 2 < n := by omega
      obtain ⟨b, off, x, hA, hb, hx, hrx, e0, e1, e2, e3, e4, e5, e6, e7, e8, e9, e10, e11⟩ := RdTs.cells (HR.out.below HB.out.1) hm3
      subst hA
      have c1 := fun W => findTrack1_any x id W
      simp only [encT] at c1
      have C1 := Lib.hid c1
      have HX := Lib.hid hx
      clear hx hrx c1
      by_cases hneg : wrap64 (x.2.l.id - id) < 0
      · go_wp2_with (first | (go_at_call 106; refine (C1.out _).mono ?_; rintro e w1 ⟨rfl, hb1⟩))
        exact ⟨⟨(p + q) / 2 + 1, q, by omega, hq, by push_cast; rfl, rfl, below_next HB.out.1 hb1, .inr ⟨x, by simpa using HX.out, hneg⟩, HB.out.2.2⟩, by simp [intOf]; omega⟩
      · go_wp2_with (first | (go_at_call 106; refine (C1.out _).mono ?_; rintro e w1 ⟨rfl, hb1⟩))
        exact ⟨⟨p, (p + q) / 2, hm1, by omega, rfl, by push_cast; rfl, below_next HB.out.1 hb1, HB.out.2.1, .inr (by rintro ⟨y, hy, hyn⟩; rw [HX.out] at hy; injection hy with hy; subst hy; exact absurd hyn (by omega))⟩, by simp [intOf]; omega⟩
    · obtain rfl : p = q := by omega
      have hend : EndAt xs id p := ⟨by rw [HL.out]; exact hq, HB.out.2.1, by rw [HL.out]; exact HB.out.2.2⟩
      have HE := Lib.hid hend
      clear hend
      by_cases hpn : p < n
      · obtain ⟨b, off, x, hA, hb, hx, hrx, e0, e1, e2, e3, e4, e5, e6, e7, e8, e9, e10, e11⟩ := RdTs.cells (HR.out.below HB.out.1) hpn
        subst hA
        have c1 := fun W => findTrack1_any x id W
        simp only [encT] at c1
        have C1 := Lib.hid c1
        have HX := Lib.hid hx
        have HH := Lib.hid (show hitAt xs id p = decide (wrap64 (x.2.l.id - id) = 0) by simp [hitAt, hx])
        clear hx hrx c1
        go_wp2_with (first | (go_at_call 106; refine (C1.out _).mono ?_; rintro e w1 ⟨rfl, hb1⟩))
        go_ret2
        refine ⟨p, by rw [HH.out]; rfl, HE.out, below_next HB.out.1 hb1⟩
      · have HH := Lib.hid (show hitAt xs id p = false by simp [hitAt, List.getElem?_eq_none (show xs.length ≤ p by have := HL.out; omega)])
        go_wp2
        go_ret2
        exact ⟨p, by rw [HH.out]; rfl, HE.out, HB.out.1⟩

set_option maxRecDepth 100000 in
set_option maxHeartbeats 4000000 in
theorem findTrack_any (t k g : Sl) (xs : List Row) (id : Int) (w : World) (hr : RdTs w t.a t.n xs) (hn : t.n ≤ 1048576) :
    Calls Tryz.prog 56 #[svV t k g, .int .i64 id] w fun e w' => ∃ i : Nat, e = .returned (.tuple #[.int .i64 i, .bool (hitAt xs id i)]) ∧ EndAt xs id i ∧ Below w.heap.size w w' := by
  have HR := Lib.hid hr
  clear hr
  go_enter Tryz.func56, Tryz.ntmps56
  go_wp2_with fail
  refine (search_any _ _ _ xs id _ (HR.out.below (by go_grown)) hn).mono ?_
  rintro e w1 ⟨i, rfl, he, hb1⟩
  have HE := Lib.hid he
  have HB := Lib.hid (ba hb1)
  clear he hb1
  go_wp2_with fail
  go_ret2
  exact ⟨i, rfl, HE.out, HB.out⟩

def hasId (id : Int) (t : Trk) : Bool := t.l.id == id
/-- where the reference finds a level -/
def findI (ts : List Trk) (id : Int) : Int := match ts.findIdx? (hasId id) with
  | none => -1
  | some i => i
theorem findI_none {ts : List Trk} {id : Int} (h : ∀ t ∈ ts, t.l.id ≠ id) : findI ts id = -1 := by
  have : ts.findIdx? (hasId id) = none := by
    rw [List.findIdx?_eq_none_iff]
    intro t ht
    simpa [hasId] using h t ht
  simp [findI, this]
theorem findI_some {ts : List Trk} {id : Int} {i : Nat} {t : Trk} (h : ts[i]? = some t) (ht : t.l.id = id) (hb : ∀ j u, j < i → ts[j]? = some u → u.l.id ≠ id) : findI ts id = i := by
  have : ts.findIdx? (hasId id) = some i := by
    rw [List.findIdx?_eq_some_iff_getElem]
    obtain ⟨hi, he⟩ := List.getElem?_eq_some_iff.1 h
    refine ⟨hi, by rw [he]; simpa [hasId] using ht, fun j hj => ?_⟩
    have := hb j _ hj (List.getElem?_eq_getElem (by omega))
    simpa [hasId] using this
  simp [findI, this]

set_option maxRecDepth 100000 in
set_option maxHeartbeats 4000000 in
theorem l41Find_any (t k g : Sl) (S : Svc) (id : Int) (w : World) (hr : RdS w t k g S) :
    Calls Tryz.prog 47 #[svV t k g, .int .i64 id] w fun e w' => e = .returned (.int .i64 (findI S.ts id)) ∧ Below w.heap.size w w' := by
  obtain ⟨⟨xs, hxs, hr1⟩, _, _, ⟨_, hn1⟩, _, _⟩ := hr
  obtain ⟨A, n, c⟩ := t
  simp only at hr1 hn1
  have HR := Lib.hid hr1
  have HXS := Lib.hid hxs
  have HL := Lib.hid hr1.1.len
  clear hr1 hxs
  have HB0 := Lib.hid ((Below.refl w.heap.size w).alloc (Nat.le_refl _) (.cells #[.slice A n c, .slice k.a k.n k.c, .slice g.a g.n g.c] 37))
  go_enter Tryz.func47, Tryz.ntmps47
  go_wp2
  go_loop [5] (fun i => ∃ p : Nat, p ≤ n ∧ i = .int .i64 p ∧ Hid (∀ j x, j < p → xs[j]? = some x → x.2.l.id ≠ id)) (fun i => n - (intOf i).toNat)
  case atStart => exact ⟨0, Nat.zero_le _, rfl, fun j x hj => absurd hj (Nat.not_lt_zero _)⟩
  case round =>
    obtain ⟨p, hp, rfl, HF⟩ := hrel
    by_cases hlt : p < n
    · obtain ⟨b, off, x, hA, hb, hx, hrx, e0, _⟩ := RdTs.cells HR.out hlt
      subst hA
      have HX := Lib.hid hx
      clear hx hrx
      have hbn : ¬ b = w.heap.size := by omega
      by_cases hid : x.2.l.id = id
      · have HI := Lib.hid hid
        have hie : (x.2.l.id == id) = true := by simpa using hid
        clear hid
        go_wp2
        go_ret
        have hf : findI S.ts id = p := by
          refine findI_some (t := x.2) (by rw [← HXS.out, List.getElem?_map, HX.out]; rfl) HI.out (fun j u hj hu => ?_)
          rw [← HXS.out, List.getElem?_map] at hu
          obtain ⟨y, hy, rfl⟩ := Option.map_eq_some_iff.1 hu
          exact HF.out j y hj hy
        exact ⟨by rw [hf]; rfl, HB0.out⟩
      · have HI := Lib.hid hid
        have hie : (x.2.l.id == id) = false := by simpa using hid
        clear hid
        go_wp2
        go_round
        case rel => exact ⟨p + 1, by omega, by go_num, fun j y hj hy => by
          rcases Nat.lt_succ_iff_lt_or_eq.1 hj with hj | rfl
          · exact HF.out j y hj hy
          · rw [HX.out] at hy; injection hy with hy; subst hy; exact HI.out⟩
        case measure => simp [intOf]; omega
    · go_wp2
      go_ret
      have hf : findI S.ts id = -1 := findI_none (fun t ht => by
        rw [← HXS.out] at ht
        obtain ⟨y, hy, rfl⟩ := List.mem_map.1 ht
        obtain ⟨j, hj, rfl⟩ := List.mem_iff_getElem.1 hy
        exact HF.out j _ (by have := HL.out; omega) (List.getElem?_eq_getElem hj))
      exact ⟨by rw [hf]; rfl, HB0.out⟩
end Go.Proofs.YtepddbfafdfadaaGreat

/-
  Lemmas and contracts: Eh Bn Tp Cl To Tk St Tt Ts. No condition.
-/
import Derived.Deep.RegionHeld3
import Derived.Test.YtemnlheidghbmaaGreatKc7
import Derived.Test.YtemnlheidghbmaaGreatKc8
import Derived.Test.YtemnlheidghbmaaGreatKc13
import Derived.Test.YtemnlheidghbmaaGreatKc21
namespace Go.Proofs.YtemnlheidghbmaaGreat
open Go.RowKit Go.Sort
def atS (ls : List ByteArray) (k : Nat) : ByteArray := (ls[k]?).getD ByteArray.empty
def readL (ls : List ByteArray) : Rep × Bool := readGo (lineW (atS ls 0) sW1) (lineW (atS ls 1) sW2) (lineW (atS ls 2) sW3) (lineW (atS ls 3) sW4)
def decW (s : ByteArray) : Rep × Bool :=
 if (cutW s 10).length = 5 ∧ (atS (cutW s 10) 4).toList.isEmpty = true then (if (readL (cutW s 10)).2 then ((readL (cutW s 10)).1, true) else (rep0, false)) else (rep0, false)
theorem readL_ok (ls : List ByteArray) (h : (readL ls).2 = true) : repOk (readL ls).1 = true := by
 unfold readL readGo at h ⊢
 split at h
 ·rename_i hc
  rw [if_pos hc]
  simp only [readR, Bool.and_eq_true] at h ⊢
  exact h.2
 ·cases h
theorem decW_ok {s : ByteArray} (h : (decW s).2 = true) : repOk (decW s).1 = true := by
 unfold decW at h ⊢
 split at h
 ·rename_i hc
  rw [if_pos hc]
  split at h
  ·rename_i h2
   rw [if_pos h2]
   exact readL_ok _ h2
  ·cases h
 ·cases h
set_option maxRecDepth 100000 in
set_option maxHeartbeats 4000000 in
theorem specReplayDecode_any (s : ByteArray) (w : World) (hn : s.size ≤ 1048576) :
  Calls Tryz.prog 87 #[.string s] w (RepPost w.heap.size (decW s) w) := by
 go_enter Tryz.func87, Tryz.ntmps87
 go_wp2_with fail
 refine (l23Cut_any s 10 _ hn).mono ?_
 rintro e w1 ⟨A, c, rfl, hO, hb⟩
 have KR := Lib.hid ((Blk.new w 82 (repC rep0 ⟨none, 0, 0⟩ ⟨none, 0, 0⟩)).next hb)
 have HB := Lib.hid (ba hb)
 obtain ⟨L, hL⟩ : ∃ L, (cutW s 10).length = L := ⟨_, rfl⟩
 rw [hL] at hO ⊢
 have HL := Lib.hid hL
 have HRW := Lib.hid (Ow.rd encTx_len (by decide) hO)
 have HSZ := Lib.hid (cutW_size s 10)
 clear hO hb hL
 by_cases h5 : L = 5
 rotate_left
 ·have h5' : ((L : Int) == 5) = false := by simp; omega
  have h5n : ¬ (L : Int) = 5 := by omega
  have HF := Lib.hid (show decW s = (rep0, false) by unfold decW; simp [HL.out, h5])
  have cr := fun o => KR.out.cell o
  have fr := fun o => KR.out.frozen o
  have zr := KR.out.lt
  go_wp2_with fail
  refine bodyPost_ret (v := .tuple #[repV rep0 ⟨none, 0, 0⟩ ⟨none, 0, 0⟩, .bool false]) (by simp [results, Tryz.results87, go_sem, cr, rep0]) rfl ?_
  unfold RepPost
  rw [HF.out]
  exact ⟨_, _, rfl, rdR_zero _, by have hb := HB.out; go_grown⟩
 subst h5
 obtain ⟨b, off, x4, hA, hbb, hx4, hc4⟩ := RdW.cells HRW.out (k := 4) (by omega)
 subst hA
 have H4 := Lib.hid (show atS (cutW s 10) 4 = x4 by simp [atS, hx4])
 clear hx4
 cases hz : x4.toList.isEmpty
 ·have hz2 := hz
  have HZ := Lib.hid hz
  clear hz
  have HF := Lib.hid (show decW s = (rep0, false) by unfold decW; simp [HL.out, H4.out, HZ.out])
  have cr := fun o => KR.out.cell o
  have fr := fun o => KR.out.frozen o
  have zr := KR.out.lt
  go_wp2_with fail
  refine bodyPost_ret (v := .tuple #[repV rep0 ⟨none, 0, 0⟩ ⟨none, 0, 0⟩, .bool false]) (by simp [results, Tryz.results87, go_sem, cr, rep0]) rfl ?_
  unfold RepPost
  rw [HF.out]
  exact ⟨_, _, rfl, rdR_zero _, by have hb := HB.out; go_grown⟩
 have hz2 := hz
 have HZ := Lib.hid hz
 clear hz
 obtain ⟨L0, L1, L2, L3, L4, hls⟩ : ∃ a b c d e, cutW s 10 = [a, b, c, d, e] := by
  have h := HL.out
  match hq : cutW s 10, h with
  | [a, b, c, d, e], _ => exact ⟨a, b, c, d, e, rfl⟩
 have HLS := Lib.hid hls
 have hread := HRW.out
 rw [hls] at hread
 have HRD := Lib.hid hread
 have hsz : ∀ b ∈ [L0, L1, L2, L3], b.size ≤ 1048576 := fun b hb => by
  have := HSZ.out b (by rw [hls]; simp at hb ⊢; rcases hb with h | h | h | h <;> simp [h])
  omega
 have HSZ4 := Lib.hid hsz
 clear hls hread hsz
 go_wp2_with fail
 refine (l23Read_any _ 5 c L0 L1 L2 L3 [L4] _ HRD.out HSZ4.out).mono ?_
 rintro e w2 ⟨si, sh, rfl, hR, hb⟩
 replace KR := Lib.hid (KR.out.next hb)
 replace HB := Lib.hid (below_next HB.out hb)
 have HQ := Lib.hid (show decW s = if (readGo (lineW L0 sW1) (lineW L1 sW2) (lineW L2 sW3) (lineW L3 sW4)).2 then ((readGo (lineW L0 sW1) (lineW L1 sW2) (lineW L2 sW3) (lineW L3 sW4)).1, true) else (rep0, false) by
  unfold decW
  rw [if_pos ⟨HL.out, by rw [H4.out]; exact HZ.out⟩]
  simp only [readL, HLS.out, atS]
  rfl)
 generalize readGo (lineW L0 sW1) (lineW L1 sW2) (lineW L2 sW3) (lineW L3 sW4) = q at *
 obtain ⟨r, ok⟩ := q
 have HR := Lib.hid hR
 clear hR hb hc4
 go_upto_region 5 with (fail)
 refine into_world (fun W => Below w2.heap.size w2 W ∧ Blk W w2.heap.size 82 (repC r si sh)) ⟨ba (Below.refl _ _), Blk.new _ _ _⟩ ?_
 rintro W ⟨hb, hk⟩
 have KO := Lib.hid hk
 replace KR := Lib.hid (KR.out.next hb)
 replace HR := Lib.hid (HR.out.next hb)
 replace HB := Lib.hid (below_next HB.out hb)
 clear hb hk
 cases ok
 ·have HF := Lib.hid (show decW s = (rep0, false) by rw [HQ.out]; rfl)
  have cr := fun o => KR.out.cell o
  have fr := fun o => KR.out.frozen o
  have zr := KR.out.lt
  go_wp2_with fail
  refine bodyPost_ret (v := .tuple #[repV rep0 ⟨none, 0, 0⟩ ⟨none, 0, 0⟩, .bool false]) (by simp [results, Tryz.results87, go_sem, cr, rep0]) rfl ?_
  unfold RepPost
  rw [HF.out]
  exact ⟨_, _, rfl, rdR_zero _, by have hb := HB.out; go_grown⟩
 ·have HF := Lib.hid (show decW s = (r, true) by rw [HQ.out]; rfl)
  have co := fun o => KO.out.cell o
  have fo := fun o => KO.out.frozen o
  have zo := KO.out.lt
  have cr := fun o => KR.out.cell o
  have fr := fun o => KR.out.frozen o
  have zr := KR.out.lt
  go_wp2_with fail
  refine bodyPost_ret (v := .tuple #[repV r si sh, .bool true]) (by simp [results, Tryz.results87, go_sem, cr]) rfl ?_
  unfold RepPost
  rw [HF.out]
  have q2 := fun v0 v1 v2 v3 v4 v5 => (((((((Only.refl w.heap.size W).set_ (p := ⟨w.heap.size, 0, none⟩) (.inl rfl) v0).set_ (p := ⟨w.heap.size, 1, none⟩) (.inl rfl) v1).set_ (p := ⟨w.heap.size, 2, none⟩) (.inl rfl) v2).set_ (p := ⟨w.heap.size, 3, none⟩) (.inl rfl) v3).set_ (p := ⟨w.heap.size, 4, none⟩) (.inl rfl) v4).set_ (p := ⟨w.heap.size, 5, none⟩) (.inl rfl) v5)
  exact ⟨si, sh, rfl, HR.out.onlyT KR.out (by decide) (by decide) (q2 _ _ _ _ _ _), HB.out.trans ((q2 _ _ _ _ _ _).below (Nat.le_refl _) HB.out.size)⟩
end Go.Proofs.YtemnlheidghbmaaGreat
namespace Go.Proofs.YtemnlheidghbmaaGreat
open Go.RowKit Go.Sort
set_option maxHeartbeats 1000000 in
theorem findTrack1_any (x : Row) (id : Int) (w : World) :
  Calls Tryz.prog 63 #[.agg (encT x).toArray, .int .i64 id] w fun e w' => e = .returned (.int .i64 (wrap64 (x.2.l.id - id))) ∧ Below w.heap.size w w' := by
 simp only [encT]
 go_enter Tryz.func63, Tryz.ntmps63
 go_wp2
 go_ret
 exact ⟨rfl, by go_grown⟩
def ahead (xs : List Row) (id : Int) (i : Nat) : Prop := ∃ x, xs[i]? = some x ∧ wrap64 (x.2.l.id - id) < 0
def EndAt (xs : List Row) (id : Int) (i : Nat) : Prop := i ≤ xs.length ∧ (i = 0 ∨ ahead xs id (i - 1)) ∧ (i = xs.length ∨ ¬ ahead xs id i)
def hitAt (xs : List Row) (id : Int) (i : Nat) : Bool := match xs[i]? with
 | none => false
 | some x => decide (wrap64 (x.2.l.id - id) = 0)
set_option maxRecDepth 100000 in
set_option maxHeartbeats 4000000 in
theorem search_any (A : Option Addr) (n c : Nat) (xs : List Row) (id : Int) (w : World) (hr : RdTs w A n xs) (hn : n ≤ 1048576) :
  Calls Tryz.prog 62 #[.slice A n c, .int .i64 id, .func (.func 63) #[] #[]] w fun e w' => ∃ i : Nat, e = .returned (.tuple #[.int .i64 i, .bool (hitAt xs id i)]) ∧ EndAt xs id i ∧ Below w.heap.size w w' := by
 have HR := Lib.hid hr
 have hl := hr.1.len
 have HL := Lib.hid hl
 clear hr hl
 go_enter Tryz.func62, Tryz.ntmps62
 go_wp2
 go_loopw [9, 10, 11] (fun i j _ wr => ∃ p q : Nat, p ≤ q ∧ q ≤ n ∧ i = .int .i64 p ∧ j = .int .i64 q ∧ Hid (Below w.heap.size w wr ∧ (p = 0 ∨ ahead xs id (p - 1)) ∧ (q = n ∨ ¬ ahead xs id q))) (fun i j _ _ => (intOf j).toNat - (intOf i).toNat)
 case atStart => exact ⟨0, n, Nat.zero_le _, Nat.le_refl _, rfl, rfl, Below.refl _ _, .inl rfl, .inl rfl⟩
 case round =>
  obtain ⟨p, q, hpq, hq, rfl, rfl, HB⟩ := hrel
  by_cases hlt : p < q
  ·have hm1 : p ≤ (p + q) / 2 := by omega
   have hm2 : (p + q) / 2 < q := by omega
   have hm3 : (p + q) / 2 < n := by omega
   obtain ⟨b, off, x, hA, hb, hx, hrx, e0, e1, e2, e3, e4, e5, e6, e7, e8, e9, e10, e11⟩ := RdTs.cells (HR.out.below HB.out.1) hm3
   subst hA
   have c1 := fun W => findTrack1_any x id W
   simp only [encT] at c1
   have C1 := Lib.hid c1
   have HX := Lib.hid hx
   clear hx hrx c1
   by_cases hneg : wrap64 (x.2.l.id - id) < 0
   ·go_wp2_with (first | (go_at_call 63; refine (C1.out _).mono ?_; rintro e w1 ⟨rfl, hb1⟩))
    exact ⟨⟨(p + q) / 2 + 1, q, by omega, hq, by push_cast; rfl, rfl, below_next HB.out.1 hb1, .inr ⟨x, by simpa using HX.out, hneg⟩, HB.out.2.2⟩, by simp [intOf]; omega⟩
   ·go_wp2_with (first | (go_at_call 63; refine (C1.out _).mono ?_; rintro e w1 ⟨rfl, hb1⟩))
    exact ⟨⟨p, (p + q) / 2, hm1, by omega, rfl, by push_cast; rfl, below_next HB.out.1 hb1, HB.out.2.1, .inr (by rintro ⟨y, hy, hyn⟩; rw [HX.out] at hy; injection hy with hy; subst hy; exact absurd hyn (by omega))⟩, by simp [intOf]; omega⟩
  ·obtain rfl : p = q := by omega
   have hend : EndAt xs id p := ⟨by rw [HL.out]; exact hq, HB.out.2.1, by rw [HL.out]; exact HB.out.2.2⟩
   have HE := Lib.hid hend
   clear hend
   by_cases hpn : p < n
   ·obtain ⟨b, off, x, hA, hb, hx, hrx, e0, e1, e2, e3, e4, e5, e6, e7, e8, e9, e10, e11⟩ := RdTs.cells (HR.out.below HB.out.1) hpn
    subst hA
    have c1 := fun W => findTrack1_any x id W
    simp only [encT] at c1
    have C1 := Lib.hid c1
    have HX := Lib.hid hx
    have HH := Lib.hid (show hitAt xs id p = decide (wrap64 (x.2.l.id - id) = 0) by simp [hitAt, hx])
    clear hx hrx c1
    go_wp2_with (first | (go_at_call 63; refine (C1.out _).mono ?_; rintro e w1 ⟨rfl, hb1⟩))
    go_ret2
    refine ⟨p, by rw [HH.out]; rfl, HE.out, below_next HB.out.1 hb1⟩
   ·have HH := Lib.hid (show hitAt xs id p = false by simp [hitAt, List.getElem?_eq_none (show xs.length ≤ p by have := HL.out; omega)])
    go_wp2
    go_ret2
    exact ⟨p, by rw [HH.out]; rfl, HE.out, HB.out.1⟩
set_option maxRecDepth 100000 in
set_option maxHeartbeats 4000000 in
theorem findTrack_any (t k g : Sl) (xs : List Row) (id : Int) (w : World) (hr : RdTs w t.a t.n xs) (hn : t.n ≤ 1048576) :
  Calls Tryz.prog 25 #[svV t k g, .int .i64 id] w fun e w' => ∃ i : Nat, e = .returned (.tuple #[.int .i64 i, .bool (hitAt xs id i)]) ∧ EndAt xs id i ∧ Below w.heap.size w w' := by
 have HR := Lib.hid hr
 clear hr
 go_enter Tryz.func25, Tryz.ntmps25
 go_wp2_with fail
 refine (search_any _ _ _ xs id _ (HR.out.below (by go_grown)) hn).mono ?_
 rintro e w1 ⟨i, rfl, he, hb1⟩
 have HE := Lib.hid he
 have HB := Lib.hid (ba hb1)
 clear he hb1
 go_wp2_with fail
 go_ret2
 exact ⟨i, rfl, HE.out, HB.out⟩
def hasId (id : Int) (t : Trk) : Bool := t.l.id == id
def findI (ts : List Trk) (id : Int) : Int := match ts.findIdx? (hasId id) with
 | none => -1
 | some i => i
theorem findI_none {ts : List Trk} {id : Int} (h : ∀ t ∈ ts, t.l.id ≠ id) : findI ts id = -1 := by
 have : ts.findIdx? (hasId id) = none := by
  rw [List.findIdx?_eq_none_iff]
  intro t ht
  simpa [hasId] using h t ht
 simp [findI, this]
theorem findI_some {ts : List Trk} {id : Int} {i : Nat} {t : Trk} (h : ts[i]? = some t) (ht : t.l.id = id) (hb : ∀ j u, j < i → ts[j]? = some u → u.l.id ≠ id) : findI ts id = i := by
 have : ts.findIdx? (hasId id) = some i := by
  rw [List.findIdx?_eq_some_iff_getElem]
  obtain ⟨hi, he⟩ := List.getElem?_eq_some_iff.1 h
  refine ⟨hi, by rw [he]; simpa [hasId] using ht, fun j hj => ?_⟩
  have := hb j _ hj (List.getElem?_eq_getElem (by omega))
  simpa [hasId] using this
 simp [findI, this]
set_option maxRecDepth 100000 in
set_option maxHeartbeats 4000000 in
theorem l41Find_any (t k g : Sl) (S : Svc) (id : Int) (w : World) (hr : RdS w t k g S) :
  Calls Tryz.prog 30 #[svV t k g, .int .i64 id] w fun e w' => e = .returned (.int .i64 (findI S.ts id)) ∧ Below w.heap.size w w' := by
 obtain ⟨⟨xs, hxs, hr1⟩, _, _, ⟨_, hn1⟩, _, _⟩ := hr
 obtain ⟨A, n, c⟩ := t
 simp only at hr1 hn1
 have HR := Lib.hid hr1
 have HXS := Lib.hid hxs
 have HL := Lib.hid hr1.1.len
 clear hr1 hxs
 have HB0 := Lib.hid ((Below.refl w.heap.size w).alloc (Nat.le_refl _) (.cells #[.slice A n c, .slice k.a k.n k.c, .slice g.a g.n g.c] 26))
 go_enter Tryz.func30, Tryz.ntmps30
 go_wp2
 go_loop [5] (fun i => ∃ p : Nat, p ≤ n ∧ i = .int .i64 p ∧ Hid (∀ j x, j < p → xs[j]? = some x → x.2.l.id ≠ id)) (fun i => n - (intOf i).toNat)
 case atStart => exact ⟨0, Nat.zero_le _, rfl, fun j x hj => absurd hj (Nat.not_lt_zero _)⟩
 case round =>
  obtain ⟨p, hp, rfl, HF⟩ := hrel
  by_cases hlt : p < n
  ·obtain ⟨b, off, x, hA, hb, hx, hrx, e0, _⟩ := RdTs.cells HR.out hlt
   subst hA
   have HX := Lib.hid hx
   clear hx hrx
   have hbn : ¬ b = w.heap.size := by omega
   by_cases hid : x.2.l.id = id
   ·have HI := Lib.hid hid
    have hie : (x.2.l.id == id) = true := by simpa using hid
    clear hid
    go_wp2
    go_ret
    have hf : findI S.ts id = p := by
     refine findI_some (t := x.2) (by rw [← HXS.out, List.getElem?_map, HX.out]; rfl) HI.out (fun j u hj hu => ?_)
     rw [← HXS.out, List.getElem?_map] at hu
     obtain ⟨y, hy, rfl⟩ := Option.map_eq_some_iff.1 hu
     exact HF.out j y hj hy
    exact ⟨by rw [hf]; rfl, HB0.out⟩
   ·have HI := Lib.hid hid
    have hie : (x.2.l.id == id) = false := by simpa using hid
    clear hid
    go_wp2
    go_round
    case rel => exact ⟨p + 1, by omega, by go_num, fun j y hj hy => by
     rcases Nat.lt_succ_iff_lt_or_eq.1 hj with hj | rfl
     ·exact HF.out j y hj hy
     ·rw [HX.out] at hy; injection hy with hy; subst hy; exact HI.out⟩
    case measure => simp [intOf]; omega
  ·go_wp2
   go_ret
   have hf : findI S.ts id = -1 := findI_none (fun t ht => by
    rw [← HXS.out] at ht
    obtain ⟨y, hy, rfl⟩ := List.mem_map.1 ht
    obtain ⟨j, hj, rfl⟩ := List.mem_iff_getElem.1 hy
    exact HF.out j _ (by have := HL.out; omega) (List.getElem?_eq_getElem hj))
   exact ⟨by rw [hf]; rfl, HB0.out⟩
end Go.Proofs.YtemnlheidghbmaaGreat
namespace Go.Proofs.YtemnlheidghbmaaGreat
open Go.RowKit Go.Sort
def topS (S : Svc) (id : Int) : List Ent × Bool :=
 if validS S then (match S.ts.findIdx? (hasId id) with
  | none => ([], false)
  | some i => (((S.ts[i]?).map (·.b)).getD [], true)) else ([], false)
def TopPost (B : Nat) (r : List Ent × Bool) (w : World) (e : Ending) (w' : World) : Prop :=
 ∃ A' c', e = .returned (.tuple #[.slice A' r.1.length c', .bool r.2]) ∧ OwE B w' A' r.1.length c' r.1 ∧ Below B w w'
theorem valid_trk {S : Svc} (h : validS S = true) {i : Nat} {t : Trk} (ht : S.ts[i]? = some t) : levelOk t.l = true ∧ validE t.b = true ∧ (0 < i → prevId S.ts i < t.l.id) ∧ t.b.all (keyed S.keys) = true := by
 have h5 := (validS_of h).2.2.2.2.1 i (List.getElem?_eq_some_iff.1 ht).1
 rw [trkOk_some ht] at h5
 simp only [Bool.and_eq_true, Bool.not_eq_true', Bool.and_eq_false_iff, decide_eq_false_iff_not] at h5
 obtain ⟨⟨⟨h1, h2⟩, h3⟩, h4⟩ := h5
 exact ⟨h1, h2, fun hi => by rcases h3 with h3 | h3 <;> omega, h4⟩
theorem valid_id {S : Svc} (h : validS S = true) {i : Nat} {t : Trk} (ht : S.ts[i]? = some t) : 0 ≤ t.l.id ∧ t.l.id ≤ 99 := by
 have h1 := (valid_trk h ht).1
 unfold levelOk at h1
 simp only [Bool.and_eq_true] at h1
 have h2 := h1.1.1.1.1.1.1.1.1.1
 simpa [inR] using h2
theorem valid_lt {S : Svc} (h : validS S = true) : ∀ (j i : Nat) (t u : Trk), i < j → S.ts[i]? = some t → S.ts[j]? = some u → t.l.id < u.l.id
 | 0, i, t, u, hij, _, _ => absurd hij (Nat.not_lt_zero _)
 |j + 1, i, t, u, hij, ht, hu => by
  have hj : j < S.ts.length := by have := (List.getElem?_eq_some_iff.1 hu).1; omega
  have hp := (valid_trk h hu).2.2.1 (Nat.succ_pos _)
  have hpe : prevId S.ts (j + 1) = (S.ts[j]).l.id := by simp [prevId, List.getElem?_eq_getElem hj]
  rw [hpe] at hp
  rcases Nat.lt_succ_iff_lt_or_eq.1 hij with hlt | rfl
  ·exact Int.lt_trans (valid_lt h j i t _ hlt ht (List.getElem?_eq_getElem hj)) hp
  ·rw [List.getElem?_eq_getElem hj] at ht
   injection ht with ht
   rw [← ht]; exact hp
theorem findIdx_at {S : Svc} (h : validS S = true) {i : Nat} {t : Trk} {id : Int} (ht : S.ts[i]? = some t) (hid : t.l.id = id) : S.ts.findIdx? (hasId id) = some i := by
 rw [List.findIdx?_eq_some_iff_getElem]
 obtain ⟨hi, he⟩ := List.getElem?_eq_some_iff.1 ht
 refine ⟨hi, by rw [he]; simpa [hasId] using hid, fun j hj => ?_⟩
 have := valid_lt h i j _ t hj (List.getElem?_eq_getElem (by omega)) ht
 simp [hasId]
 omega
theorem findIdx_no {ts : List Trk} {id : Int} (h : ts.findIdx? (hasId id) = none) {i : Nat} {t : Trk} (ht : ts[i]? = some t) : t.l.id ≠ id := by
 rw [List.findIdx?_eq_none_iff] at h
 have := h t (List.mem_of_getElem? ht)
 simpa [hasId] using this
theorem findIdx_some {ts : List Trk} {id : Int} {i : Nat} (h : ts.findIdx? (hasId id) = some i) : ∃ t, ts[i]? = some t ∧ t.l.id = id := by
 rw [List.findIdx?_eq_some_iff_getElem] at h
 obtain ⟨hi, h1, _⟩ := h
 exact ⟨_, List.getElem?_eq_getElem hi, by simpa [hasId] using h1⟩
theorem wrap_zero {a id : Int} (h : wrap64 (a - id) = 0) (ha : 0 ≤ a) (ha2 : a ≤ 99) (h1 : -9223372036854775808 ≤ id) (h2 : id ≤ 9223372036854775807) : a = id := by
 unfold wrap64 at h
 omega
theorem wrap_small {a id : Int} (ha : 0 ≤ a) (ha2 : a ≤ 99) (h1 : 0 ≤ id) (h2 : id ≤ 99) : wrap64 (a - id) = a - id := by
 unfold wrap64
 omega
theorem search_hit {S : Svc} {xs : List Row} {id : Int} {i : Nat} (h : validS S = true) (hxs : xs.map (·.2) = S.ts) (he : EndAt xs id i) (h1 : -9223372036854775808 ≤ id) (h2 : id ≤ 9223372036854775807) :
  (hitAt xs id i = true ∧ S.ts.findIdx? (hasId id) = some i) ∨ (hitAt xs id i = false ∧ S.ts.findIdx? (hasId id) = none) := by
 have hget : ∀ (j : Nat) (x : Row), xs[j]? = some x → S.ts[j]? = some x.2 := fun j x hx => by rw [← hxs, List.getElem?_map, hx]; rfl
 cases hh : hitAt xs id i
 ·right
  refine ⟨rfl, ?_⟩
  cases hf : S.ts.findIdx? (hasId id) with
  | none => rfl
  | some m =>
   exfalso
   obtain ⟨t, ht, hid⟩ := findIdx_some hf
   have hr := valid_id h ht
   have hm : m < xs.length := by
    have := (List.getElem?_eq_some_iff.1 ht).1
    rw [← hxs, List.length_map] at this
    exact this
   have hxm := hget m _ (List.getElem?_eq_getElem hm)
   have hah : ∀ j, j < xs.length → (ahead xs id j ↔ j < m) := fun j hj => by
    have hxj := hget j _ (List.getElem?_eq_getElem hj)
    have hrj := valid_id h hxj
    have hw := wrap_small (id := id) hrj.1 hrj.2 (by rw [← hid]; exact hr.1) (by rw [← hid]; exact hr.2)
    constructor
    ·rintro ⟨y, hy, hn⟩
     rw [List.getElem?_eq_getElem hj] at hy
     injection hy with hy
     subst hy
     rw [hw] at hn
     rcases Nat.lt_or_ge j m with h3 | h3
     ·exact h3
     ·rcases Nat.lt_or_eq_of_le h3 with h4 | h4
      ·have := valid_lt h j m t _ h4 ht hxj
       omega
      ·subst h4
       rw [ht] at hxj
       injection hxj with hxj
       rw [← hxj] at hn
       omega
    ·intro hjm
     have := valid_lt h m j _ t hjm hxj ht
     exact ⟨_, List.getElem?_eq_getElem hj, by rw [hw]; omega⟩
   obtain ⟨e1, e2, e3⟩ := he
   have hi : i = m := by
    have a1 : i ≤ m := by
     rcases e2 with e2 | e2
     ·omega
     ·have hi1 : i - 1 < xs.length := by
       obtain ⟨y, hy, _⟩ := e2
       exact (List.getElem?_eq_some_iff.1 hy).1
      have := (hah (i - 1) hi1).1 e2
      omega
    rcases e3 with e3 | e3
    ·omega
    ·rcases Nat.lt_or_ge i m with h3 | h3
     ·exact absurd ((hah i (by omega)).2 h3) e3
     ·omega
   subst hi
   have hxe : (xs[i]).2.l.id = id := by rw [ht] at hxm; injection hxm with hxm; rw [← hxm]; exact hid
   have : hitAt xs id i = true := by
    simp only [hitAt, List.getElem?_eq_getElem hm, decide_eq_true_eq, hxe]
    simp [wrap64]
   rw [hh] at this
   cases this
 ·left
  refine ⟨rfl, ?_⟩
  cases hx : xs[i]? with
  | none => simp [hitAt, hx] at hh
  | some x =>
   simp only [hitAt, hx, decide_eq_true_eq] at hh
   have ht := hget i x hx
   have hr := valid_id h ht
   exact findIdx_at h ht (wrap_zero hh hr.1 hr.2 h1 h2)
theorem below_undrew' {B : Nat} {W X : World} (h : Below B W X) : Below B W X.drew := ⟨h.os, h.tape, h.output, h.size, h.block⟩
theorem topS_bad {S : Svc} {id : Int} (h : validS S = false) : topS S id = ([], false) := by simp [topS, h]
theorem topS_no {S : Svc} {id : Int} (h : validS S = true) (hf : S.ts.findIdx? (hasId id) = none) : topS S id = ([], false) := by simp [topS, h, hf]
theorem topS_at {S : Svc} {id : Int} {i : Nat} {t : Trk} (h : validS S = true) (hf : S.ts.findIdx? (hasId id) = some i) (ht : S.ts[i]? = some t) : topS S id = (t.b, true) := by simp [topS, h, hf, ht]
theorem row_of {S : Svc} {xs : List Row} {i : Nat} {t : Trk} (hxs : xs.map (·.2) = S.ts) (ht : S.ts[i]? = some t) : ∃ x, xs[i]? = some x ∧ x.2 = t := by
 rw [← hxs, List.getElem?_map] at ht
 exact Option.map_eq_some_iff.1 ht
set_option maxRecDepth 100000 in
set_option maxHeartbeats 8000000 in
theorem implServiceTop_any (t k g : Sl) (S : Svc) (id : Int) (w : World) (hr : RdS w t k g S) (hi1 : -9223372036854775808 ≤ id) (hi2 : id ≤ 9223372036854775807) :
  Calls Tryz.prog 10 #[svV t k g, .int .i64 id] w (TopPost w.heap.size (topS S id) w) := by
 have HRS := Lib.hid hr
 obtain ⟨⟨xs, hxs, hr1⟩, hr2, hr3, ⟨_, hn1⟩, ⟨_, hn2⟩, _, hn3⟩ := hr
 obtain ⟨A, n, c⟩ := t
 simp only at hr1 hn1
 have HR := Lib.hid hr1
 have HXS := Lib.hid hxs
 have HL := Lib.hid hr1.1.len
 clear hr1 hr2 hr3 hxs
 have HB0 := Lib.hid ((Below.refl w.heap.size w).alloc (Nat.le_refl _) (.cells #[.slice A n c, .slice k.a k.n k.c, .slice g.a g.n g.c] 26))
 have HK0 := Lib.hid (Blk.new w 26 #[.slice A n c, .slice k.a k.n k.c, .slice g.a g.n g.c])
 go_enter Tryz.func10, Tryz.ntmps10
 go_wp2_with fail
 refine (implServiceValid_any _ _ _ S _ (HRS.out.below HB0.out)).mono ?_
 rintro e w1 ⟨rfl, hb1⟩
 have HB1 := Lib.hid (below_next HB0.out hb1)
 have HK1 := Lib.hid (HK0.out.next hb1)
 have ca := fun o => HK1.out.cell o
 have za := HK1.out.lt
 clear hb1
 cases hv : validS S
 ·have HV := Lib.hid (topS_bad (id := id) hv)
  clear hv
  go_wp2_with fail
  go_ret2
  unfold TopPost
  rw [HV.out]
  exact ⟨none, 0, rfl, Ow.bare _ _ _ _ _, HB1.out⟩
 ·have HV := Lib.hid hv
  clear hv
  go_wp2_with fail
  refine (findTrack_any ⟨A, n, c⟩ k g xs id _ (HR.out.below HB1.out) hn1).mono ?_
  rintro e w2 ⟨i, rfl, he, hb2⟩
  have HE := Lib.hid he
  have HB2 := Lib.hid (below_next HB1.out hb2)
  have HK2 := Lib.hid (HK1.out.next hb2)
  clear hb2 he ca za
  have ca := fun o => HK2.out.cell o
  have za := HK2.out.lt
  rcases search_hit HV.out HXS.out HE.out hi1 hi2 with ⟨hh, hf⟩ | ⟨hh, hf⟩
  ·obtain ⟨tr, ht, _⟩ := findIdx_some hf
   obtain ⟨x, hx, hxt⟩ := row_of HXS.out ht
   have hin : i < n := by have := (List.getElem?_eq_some_iff.1 hx).1; have := HL.out; omega
   have HT := Lib.hid (topS_at HV.out hf ht)
   obtain ⟨b, off, y, hA, hb, hy, hry, e0, e1, e2, e3, e4, e5, e6, e7, e8, e9, e10, e11⟩ := RdTs.cells (HR.out.below HB2.out) hin
   obtain rfl : y = x := by rw [hx] at hy; exact (Option.some.inj hy).symm
   have HXT := Lib.hid hxt
   have HRY := Lib.hid hry
   subst hA
   rw [hh]
   clear hf ht hx hy hry hxt hh
   go_wp2_with fail
   refine (clone_any _ _ _ y.2.b _ HRY.out.2.1 (Nat.le_trans HRY.out.2.2.2 (by decide))).mono ?_
   rintro e w3 ⟨A3, c3, rfl, hO3, hb3⟩
   have HO3 := Lib.hid hO3
   have HB3 := Lib.hid (below_next HB2.out hb3)
   have HL3 := Lib.hid HRY.out.2.1.len
   have hs2 := HB2.out.size
   clear hO3 hb3
   go_wp2_with fail
   go_ret2
   unfold TopPost
   rw [HT.out, ← HXT.out, HL3.out]
   exact ⟨A3, c3, rfl, HO3.out.mono hs2, HB3.out⟩
  ·have HT := Lib.hid (topS_no HV.out hf)
   rw [hh]
   clear hf hh
   go_wp2_with fail
   go_ret2
   unfold TopPost
   rw [HT.out]
   exact ⟨none, 0, rfl, Ow.bare _ _ _ _ _, HB2.out⟩
theorem findI_at {ts : List Trk} {id : Int} {i : Nat} (h : ts.findIdx? (hasId id) = some i) : findI ts id = i := by simp [findI, h]
theorem findI_not {ts : List Trk} {id : Int} (h : ts.findIdx? (hasId id) = none) : findI ts id = -1 := by simp [findI, h]
set_option maxRecDepth 100000 in
set_option maxHeartbeats 8000000 in
theorem specServiceTop_any (t k g : Sl) (S : Svc) (id : Int) (w : World) (hr : RdS w t k g S) :
  Calls Tryz.prog 14 #[svV t k g, .int .i64 id] w (TopPost w.heap.size (topS S id) w) := by
 have HRS := Lib.hid hr
 obtain ⟨⟨xs, hxs, hr1⟩, hr2, hr3, ⟨_, hn1⟩, ⟨_, hn2⟩, _, hn3⟩ := hr
 obtain ⟨A, n, c⟩ := t
 obtain ⟨i0, hi0, hz0, hz1, hz2⟩ := info_parts infoE
 have HI := Lib.hid hi0
 have HZ := Lib.hid hz0
 have HS := Lib.hid hz1
 have HBY := Lib.hid hz2
 clear hi0 hz0 hz1 hz2
 simp only at hr1 hn1
 have HR := Lib.hid hr1
 have HXS := Lib.hid hxs
 have HL := Lib.hid hr1.1.len
 clear hr1 hr2 hr3 hxs
 have HB0 := Lib.hid ((Below.refl w.heap.size w).alloc (Nat.le_refl _) (.cells #[.slice A n c, .slice k.a k.n k.c, .slice g.a g.n g.c] 26))
 have HK0 := Lib.hid (Blk.new w 26 #[.slice A n c, .slice k.a k.n k.c, .slice g.a g.n g.c])
 go_enter Tryz.func14, Tryz.ntmps14
 go_wp2_with fail
 refine (specServiceValid_any _ _ _ S _ (HRS.out.below HB0.out)).mono ?_
 rintro e w1 ⟨rfl, hb1⟩
 have HB1 := Lib.hid (below_next HB0.out hb1)
 have HK1 := Lib.hid (HK0.out.next hb1)
 have ca := fun o => HK1.out.cell o
 have za := HK1.out.lt
 clear hb1
 cases hv : validS S
 ·have HV := Lib.hid (topS_bad (id := id) hv)
  clear hv
  go_wp2_with fail
  go_ret2
  unfold TopPost
  rw [HV.out]
  exact ⟨_, 0, rfl, Ow.bare _ _ _ _ _, HB1.out.alloc HB1.out.size _⟩
 ·have HV := Lib.hid hv
  clear hv
  go_wp2_with fail
  refine (l41Find_any _ _ _ S id _ (HRS.out.below HB1.out)).mono ?_
  rintro e w2 ⟨rfl, hb2⟩
  have HB2 := Lib.hid (below_next HB1.out hb2)
  have HK2 := Lib.hid (HK1.out.next hb2)
  clear hb2 ca za
  have ca := fun o => HK2.out.cell o
  have za := HK2.out.lt
  cases hf : S.ts.findIdx? (hasId id) with
  | none =>
   have HT := Lib.hid (topS_no HV.out hf)
   rw [findI_not hf]
   clear hf
   go_wp2_with fail
   go_ret2
   unfold TopPost
   rw [HT.out]
   exact ⟨_, 0, rfl, Ow.bare _ _ _ _ _, HB2.out.alloc HB2.out.size _⟩
  | some i =>
   obtain ⟨tr, ht, _⟩ := findIdx_some hf
   obtain ⟨x, hx, hxt⟩ := row_of HXS.out ht
   have hin : i < n := by have := (List.getElem?_eq_some_iff.1 hx).1; have := HL.out; omega
   have HT := Lib.hid (topS_at HV.out hf ht)
   obtain ⟨b, off, y, hA, hb, hy, hry, e0, e1, e2, e3, e4, e5, e6, e7, e8, e9, e10, e11⟩ := RdTs.cells (HR.out.below HB2.out) hin
   obtain rfl : y = x := by rw [hx] at hy; exact (Option.some.inj hy).symm
   have HXT := Lib.hid hxt
   have HRY := Lib.hid hry
   have HFI := Lib.hid (findI_at hf)
   subst hA
   rw [HFI.out]
   have hin' : (i : Int) < n := by omega
   have hi0' : (0 : Int) ≤ i := by omega
   have hineg : ¬ (i : Int) < 0 := by omega
   clear hf ht hx hy hry hxt e0 e1 e2 e3 e4 e5 e6 e7 e8 e9 e10
   go_upto_region 3 with (fail)
   have sof : ∀ X : World, Below w2.heap.size w2 X → X.cell? ⟨w.heap.size, 0, none⟩ = some (.slice (some ⟨b, off, none⟩) n c) ∧ X.cell? ⟨w.heap.size, 1, none⟩ = some (.slice k.a k.n k.c) ∧ X.cell? ⟨w.heap.size, 2, none⟩ = some (.slice g.a g.n g.c) ∧ X.cell? ⟨b, off + i * 12 + 11, none⟩ = some (.slice y.1.b.a y.1.b.n y.1.b.c) := fun X hX =>
    ⟨(HK2.out.next hX).cell 0, (HK2.out.next hX).cell 1, (HK2.out.next hX).cell 2, ((bcell hX).1 b _ hb).trans e11⟩
   have hdw : Below w2.heap.size w2 w2.drew := ⟨rfl, rfl, rfl, Nat.le_refl _, fun _ _ => rfl⟩
   have haw : Below w2.heap.size w2 ((w2.alloc (.cells #[] 68)).drew) := (below_undrew' ((Below.refl w2.heap.size w2).alloc (Nat.le_refl _) (.cells #[] 68)))
   have HDW := Lib.hid hdw
   have HAW := Lib.hid haw
   have HSOF := Lib.hid sof
   clear sof hdw haw
   have hnb := HRY.out.2.2.2
   have HRD := Lib.hid (show RdS w2.drew ⟨some ⟨b, off, none⟩, n, c⟩ k g S from (HRS.out.below HB2.out).below HDW.out)
   have HRA := Lib.hid (show RdS ((w2.alloc (.cells #[] 68)).drew) ⟨some ⟨b, off, none⟩, n, c⟩ k g S from (HRS.out.below HB2.out).below HAW.out)
   go_region_held3 (fun X => X.cell? ⟨w.heap.size, 0, none⟩ = some (.slice (some ⟨b, off, none⟩) n c) ∧ X.cell? ⟨w.heap.size, 1, none⟩ = some (.slice k.a k.n k.c) ∧ X.cell? ⟨w.heap.size, 2, none⟩ = some (.slice g.a g.n g.c) ∧ X.cell? ⟨b, off + i * 12 + 11, none⟩ = some (.slice y.1.b.a y.1.b.n y.1.b.c))
    (with_reducible (first | exact HSOF.out _ HDW.out | exact HSOF.out _ HAW.out | exact HSOF.out _ hy1 | exact HSOF.out _ (below_next hy1 (ba (Below.refl _ _))) | exact HSOF.out _ hb3))
    (first
    | (go_at_call 30; refine (l41Find_any ⟨some ⟨b, off, none⟩, n, c⟩ k g S id _ ?hq).mono ?_; (case hq => with_reducible first | exact HRD.out | exact HRA.out); rintro e y1 ⟨rfl, hb1⟩; have hy1 : Below w2.heap.size w2 y1 := (by with_reducible (first | exact below_next HDW.out hb1 | exact below_next HAW.out hb1)); rw [HFI.out])
    | (refine step_append_ow _ rfl (.tmp 16) (.tmp 24) _ rfl w2.heap.size 68 i0 _ 2 16 Tryz.underlying40 HI.out HZ.out HS.out HBY.out rfl (by omega) _ 0 0 [] rfl (Ow.bare _ y1 _ _ _) _ y.1.b.n y.1.b.c (cellsE y.2.b) rfl (Src.ents (HRY.out.2.1.below hy1)) (cellsE_one _) (by unfold maxLen; omega) (by omega) hy1.size ?_; intro A3 c3 w3 hO3 hg3 _; have hb3 := (Ow.bare w2.heap.size y1 68 2 _).grown hg3 hy1 (Nat.le_refl _) hy1.size)
    | (refine step_append_ow _ rfl (.tmp 16) (.tmp 24) _ rfl w2.heap.size 68 i0 _ 2 16 Tryz.underlying40 HI.out HZ.out HS.out HBY.out rfl (by omega) _ 0 0 [] rfl (Ow.bare _ (y1.alloc (.cells #[] 68)) _ _ _) _ y.1.b.n y.1.b.c (cellsE y.2.b) rfl (Src.ents (HRY.out.2.1.below (below_next hy1 (ba (Below.refl _ _))))) (cellsE_one _) (by unfold maxLen; omega) (by omega) (below_next hy1 (ba (Below.refl _ _))).size ?_; intro A3 c3 w3 hO3 hg3 _; have hb3 := (Ow.bare w2.heap.size (y1.alloc (.cells #[] 68)) 68 2 _).grown hg3 (below_next hy1 (ba (Below.refl _ _))) (Nat.le_refl _) (below_next hy1 (ba (Below.refl _ _))).size))
   all_goals
    have HB3 := Lib.hid (HB2.out.trans (hb3.mono HB2.out.size))
    have HO3 := Lib.hid hO3
    go_wp2_with fail
    go_ret2
    unfold TopPost
    rw [HT.out, ← HXT.out, HRY.out.2.1.len]
    have h := HO3.out.mono HB2.out.size
    rw [Nat.zero_add, List.nil_append] at h
    exact ⟨A3, c3, rfl, h, HB3.out⟩
end Go.Proofs.YtemnlheidghbmaaGreat
namespace Go.Proofs.YtemnlheidghbmaaGreat
open Go.RowKit Go.Sort
set_option maxRecDepth 100000 in
set_option maxHeartbeats 1000000 in
theorem cloneB_any (A : Option Addr) (n c : Nat) (bs : List Bx) (w : World) (hr : RdB w A n bs) (hn : n ≤ 1048576) :
  Calls Tryz.prog 66 #[.slice A n c] w fun e w' => ∃ A' c', e = .returned (.slice A' n c') ∧ Ow w.heap.size w' 31 4 A' n c' (cellsB bs) ∧ Below w.heap.size w w' := by
 have HR := Lib.hid hr
 obtain ⟨i0, hi0, hz0, hz1, hz2⟩ := info_parts infoB
 have HI := Lib.hid hi0
 have HZ := Lib.hid hz0
 have HS := Lib.hid hz1
 have HBY := Lib.hid hz2
 clear hi0 hz0 hz1 hz2
 cases A with
 | none =>
  have hn0 : n = 0 := by
   rcases Nat.eq_zero_or_pos n with h | h
   ·exact h
   ·obtain ⟨_, _, h1, _⟩ := hr.2 h; cases h1
  subst hn0
  have hes : bs = [] := List.eq_nil_of_length_eq_zero hr.len
  subst hes
  have hq := fun W => Lib.run_eql_slice_nil (P := Tryz.prog) W 29 31 none 0 c 0 0 Tryz.underlying29
  clear hr
  go_enter Tryz.func66, Tryz.ntmps66
  go_wp2
  go_ret
  exact ⟨none, 0, rfl, Ow.bare _ _ _ _ _, Below.refl _ _⟩
 | some ad =>
  have hq := fun W => Lib.run_eql_slice_nil (P := Tryz.prog) W 29 31 (some ad) n c 0 0 Tryz.underlying29
  clear hr
  have hb1 : Below w.heap.size w (w.alloc (.cells #[] 31)) := (Below.refl _ _).alloc (Nat.le_refl _) _
  have HB := Lib.hid hb1; clear hb1
  go_enter Tryz.func66, Tryz.ntmps66
  go_wp2_with (at_builtin; refine wpList_append_ow _ rfl (.tmp 5) (.tmp 6) _ rfl w.heap.size 31 i0 _ 4 32 Tryz.underlying29 HI.out HZ.out HS.out HBY.out rfl (by omega) _ 0 0 [] rfl (Ow.bare _ _ _ _ _) _ n c (cellsB bs) rfl (Src.rd encB_len (HR.out.below HB.out)) (cellsX_oneCell encB_one _) (by unfold maxLen; omega) (by omega) (by simp) ?_; intro A2 c2 w2 hown2 hg2 _)
  have HO := Lib.hid hown2
  have HG := Lib.hid hg2
  clear hown2 hg2
  go_wp2
  go_ret
  refine ⟨A2, c2, rfl, ?_, (Ow.bare w.heap.size _ 31 4 none).grown HG.out HB.out (Nat.le_refl _) (by simp)⟩
  have := HO.out
  rw [Nat.zero_add, List.nil_append] at this
  exact this
set_option maxRecDepth 100000 in
set_option maxHeartbeats 1000000 in
theorem cloneI_any (A : Option Addr) (n c : Nat) (bs : List Int) (w : World) (hr : RdI .i64 w A n bs) (hn : n ≤ 1048576) :
  Calls Tryz.prog 61 #[.slice A n c] w fun e w' => ∃ A' c', e = .returned (.slice A' n c') ∧ Ow w.heap.size w' 3 1 A' n c' (cellsI bs) ∧ Below w.heap.size w w' := by
 have HR := Lib.hid hr
 obtain ⟨i0, hi0, hz0, hz1, hz2⟩ := info_parts infoZ
 have HI := Lib.hid hi0
 have HZ := Lib.hid hz0
 have HS := Lib.hid hz1
 have HBY := Lib.hid hz2
 clear hi0 hz0 hz1 hz2
 cases A with
 | none =>
  have hn0 : n = 0 := by
   rcases Nat.eq_zero_or_pos n with h | h
   ·exact h
   ·obtain ⟨_, _, h1, _⟩ := hr.2 h; cases h1
  subst hn0
  have hes : bs = [] := List.eq_nil_of_length_eq_zero hr.len
  subst hes
  have hq := fun W => Lib.run_eql_slice_nil (P := Tryz.prog) W 24 3 none 0 c 0 0 Tryz.underlying24
  clear hr
  go_enter Tryz.func61, Tryz.ntmps61
  go_wp2
  go_ret
  exact ⟨none, 0, rfl, Ow.bare _ _ _ _ _, Below.refl _ _⟩
 | some ad =>
  have hq := fun W => Lib.run_eql_slice_nil (P := Tryz.prog) W 24 3 (some ad) n c 0 0 Tryz.underlying24
  clear hr
  have hb1 : Below w.heap.size w (w.alloc (.cells #[] 3)) := (Below.refl _ _).alloc (Nat.le_refl _) _
  have HB := Lib.hid hb1; clear hb1
  go_enter Tryz.func61, Tryz.ntmps61
  go_wp2_with (at_builtin; refine wpList_append_ow _ rfl (.tmp 5) (.tmp 6) _ rfl w.heap.size 3 i0 _ 1 8 Tryz.underlying24 HI.out HZ.out HS.out HBY.out rfl (by omega) _ 0 0 [] rfl (Ow.bare _ _ _ _ _) _ n c (cellsI bs) rfl (Src.ints (HR.out.below HB.out)) (cellsI_one _) (by unfold maxLen; omega) (by omega) (by simp) ?_; intro A2 c2 w2 hown2 hg2 _)
  have HO := Lib.hid hown2
  have HG := Lib.hid hg2
  clear hown2 hg2
  go_wp2
  go_ret
  refine ⟨A2, c2, rfl, ?_, (Ow.bare w.heap.size _ 3 1 none).grown HG.out HB.out (Nat.le_refl _) (by simp)⟩
  have := HO.out
  rw [Nat.zero_add, List.nil_append] at this
  exact this
end Go.Proofs.YtemnlheidghbmaaGreat
namespace Go.Proofs.YtemnlheidghbmaaGreat
open Go.RowKit Go.Sort
end Go.Proofs.YtemnlheidghbmaaGreat
namespace Go.Proofs.YtemnlheidghbmaaGreat
open Go.RowKit Go.Sort
end Go.Proofs.YtemnlheidghbmaaGreat
namespace Go.Proofs.YtemnlheidghbmaaGreat
open Go.RowKit Go.Sort
end Go.Proofs.YtemnlheidghbmaaGreat
namespace Go.Proofs.YtemnlheidghbmaaGreat
open Go.RowKit Go.Sort
theorem OwR.frm {lo hi lo' hi' : Nat} {w w' : World} {xs : List Row} (h : OwR lo hi w xs) (hf : Frm lo' hi' w w') (hd : hi ≤ lo' ∨ hi' ≤ lo) : OwR lo hi w' xs := ⟨fun x hx => (h.own x hx).frm hf hd, h.box, h.ent⟩
theorem OwR.step {g m : Nat} {w w1 W : World} {ys : List Row} {y : Row} (h : OwR (g + 1) m w ys) (h' : OwR m w1.heap.size w1 [y]) (hb : Below w.heap.size w w1) (hg : g + 1 ≤ m) (hm : m ≤ w1.heap.size) (hf : Frm g (g + 1) w1 W) : OwR (g + 1) W.heap.size W (ys ++ [y]) :=
 ((((h.next hb).frm hf (.inr (Nat.le_refl _))).app (h'.frm hf (.inr hg)) hg hm)).mono (Nat.le_refl _) hf.size
end Go.Proofs.YtemnlheidghbmaaGreat
namespace Go.Proofs.YtemnlheidghbmaaGreat
open Go.RowKit Go.Sort
theorem below_undrew {W w' : World} (h : Below W.drew.heap.size W.drew w') : Below W.heap.size W w' := ⟨h.os, h.tape, h.output, h.size, h.block⟩
end Go.Proofs.YtemnlheidghbmaaGreat

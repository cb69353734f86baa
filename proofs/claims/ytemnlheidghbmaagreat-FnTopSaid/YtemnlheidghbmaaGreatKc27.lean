/-
  Lemmas and contracts: Ky Ej Del Sc Rs Vp Ri Rv Pb. No condition.
-/
import Derived.Test.YtemnlheidghbmaaGreatKc3
import Derived.Test.YtemnlheidghbmaaGreatKc11
import Derived.Test.YtemnlheidghbmaaGreatKc13
import Derived.Test.YtemnlheidghbmaaGreatKc14
import Derived.Test.YtemnlheidghbmaaGreatKc18
import Derived.Test.YtemnlheidghbmaaGreatKc22
import Derived.Test.YtemnlheidghbmaaGreatKc26
namespace Go.Proofs.YtemnlheidghbmaaGreat
open Go.RowKit Go.Sort
def keyAt (S : Svc) (p : Int) : Int := (S.keys[p.toNat]?).getD 0
theorem OwS.setKey {lo hi : Nat} {w : World} {t k g : Sl} {S : Svc} (h : OwS lo hi w t k g S) {p : Nat} {b : Nat} (hk : k.a = some ⟨b, 0, none⟩) (hp : p < k.n) (v : Int) : OwS lo hi (w.setCell ⟨b, p, none⟩ (.int .i64 v)) t k g ⟨S.ts, S.keys.set p v, S.tags⟩ := by
 obtain ⟨⟨xs, h1, h2⟩, h3, h4, h5, h6, h7⟩ := h
 obtain ⟨ka, kn, kc⟩ := k
 simp only at hk hp h3
 subst hk
 have hle := h3.ow.le
 simp only at hle
 have hg : w.grownBy (w.setCell ⟨b, p, none⟩ (.int .i64 v)) (ownB (some ⟨b, 0, none⟩) kc) := by
  rw [ownB_some (by omega)]
  exact Only.set_ (p := ⟨b, p, none⟩) (Only.refl b w) (.inl rfl) _
 have hlen : p < (cellsI S.keys).length := by
  have := h3.ow.len
  simp only at this
  rw [this]; omega
 refine ⟨⟨xs, h1, h2.apartI h3.ow hg⟩, ⟨?_, h3.2⟩, h4.apartB (fun x hx hx' => (List.nodup_append.1 h5).2.2 x hx' x hx rfl) hg, h5, h6, h7⟩
 have := h3.ow.set_ hlen (.int .i64 v)
 show Ow _ _ _ 1 _ _ _ ((S.keys.set p v).map (Value.int .i64))
 rw [List.map_set]
 exact this
end Go.Proofs.YtemnlheidghbmaaGreat
namespace Go.Proofs.YtemnlheidghbmaaGreat
open Go.RowKit Go.Sort
def hasZ (zs : List Int) (n : Int) : Bool := zs.any fun z => z == n
set_option maxRecDepth 100000 in
set_option maxHeartbeats 4000000 in
theorem l1Has_any (A : Option Addr) (n c : Nat) (zs : List Int) (x : Int) (w : World) (hr : RdI .i64 w A n zs) (hn : n ≤ 1048576) :
  Calls Tryz.prog 112 #[.slice A n c, .int .i64 x] w fun e w' => e = .returned (.bool (hasZ zs x)) ∧ Below w.heap.size w w' := by
 have HR := Lib.hid hr
 have HL := Lib.hid hr.len
 clear hr
 have HB0 := Lib.hid (Below.refl w.heap.size w)
 go_enter Tryz.func112, Tryz.ntmps112
 go_wp2
 go_loop [5] (fun i => ∃ p : Nat, p ≤ n ∧ i = .int .i64 p ∧ Hid (∀ j z, j < p → zs[j]? = some z → z ≠ x)) (fun i => n - (intOf i).toNat)
 case atStart => exact ⟨0, Nat.zero_le _, rfl, fun j x hj => absurd hj (Nat.not_lt_zero _)⟩
 case round =>
  obtain ⟨p, hp, rfl, HF⟩ := hrel
  by_cases hlt : p < n
  ·obtain ⟨b, off, z, hA, hb, hx, hc⟩ := HR.out.at_ (j := p) (by omega)
   subst hA
   have HX := Lib.hid hx
   clear hx
   by_cases hid : z = x
   ·have HI := Lib.hid hid
    have hie : (z == x) = true := by simpa using hid
    clear hid
    go_wp2
    go_ret
    refine ⟨ret_bool ?_, HB0.out⟩
    have : hasZ zs x = true := by
     unfold hasZ
     rw [List.any_eq_true]
     exact ⟨z, List.mem_of_getElem? HX.out, by simp [HI.out]⟩
    rw [this]
   ·have HI := Lib.hid hid
    have hie : (z == x) = false := by simpa using hid
    clear hid
    go_wp2
    go_round
    case rel => exact ⟨p + 1, by omega, by go_num, fun j y hj hy => by
     rcases Nat.lt_succ_iff_lt_or_eq.1 hj with hj | rfl
     ·exact HF.out j y hj hy
     ·rw [HX.out] at hy; injection hy with hy; subst hy; exact HI.out⟩
    case measure => simp [intOf]; omega
  ·go_wp2
   go_ret
   refine ⟨ret_bool ?_, HB0.out⟩
   have : hasZ zs x = false := by
    unfold hasZ
    rw [List.any_eq_false]
    intro z hz
    obtain ⟨j, hj, rfl⟩ := List.mem_iff_getElem.1 hz
    have := HF.out j _ (by have := HL.out; omega) (List.getElem?_eq_getElem hj)
    simpa using this
   rw [this]
noncomputable def verS (S : Svc) (r : Rep) : Int × Int :=
 match S.ts.findIdx? (hasId r.lv) with
 | none => (2, -1)
 |some i => match S.ts[i]? with
  | none => (2, -1)
  | some t => (verdW t.l (keyAt S r.pl) r, (i : Int))
theorem verS_no {S : Svc} {r : Rep} (h : S.ts.findIdx? (hasId r.lv) = none) : verS S r = (2, -1) := by simp [verS, h]
theorem verS_at {S : Svc} {r : Rep} {i : Nat} {t : Trk} (h : S.ts.findIdx? (hasId r.lv) = some i) (ht : S.ts[i]? = some t) : verS S r = (verdW t.l (keyAt S r.pl) r, (i : Int)) := by simp [verS, h, ht]
set_option maxRecDepth 100000 in
set_option maxHeartbeats 8000000 in
theorem l41Verdict_any (t k g : Sl) (S : Svc) (r : Rep) (si sh : Sl) (w : World) (hr : RdS w t k g S) (hq : RdR w r si sh) (hv : validS S = true) (ho : repOk r = true) :
  Calls Tryz.prog 88 #[svV t k g, repV r si sh] w fun e w' => e = .returned (.tuple #[.int .i64 (verS S r).1, .int .i64 (verS S r).2]) ∧ Below w.heap.size w w' := by
 have HRS := Lib.hid hr
 have HRR := Lib.hid hq
 have HV := Lib.hid hv
 have HO := Lib.hid (repOk_facts ho)
 obtain ⟨⟨xs, hxs, hr1⟩, hr2, hr3, ⟨_, hn1⟩, ⟨_, hn2⟩, _, hn3⟩ := hr
 obtain ⟨A, n, c⟩ := t
 obtain ⟨KA, kn, kc⟩ := k
 simp only at hr1 hn1 hr2 hn2
 have HR := Lib.hid hr1
 have HK2 := Lib.hid hr2
 have HXS := Lib.hid hxs
 have HL := Lib.hid hr1.1.len
 have hkl := hr2.len
 have hk10 := (validS_of hv).1
 obtain rfl : kn = 10 := by omega
 have HBA := Lib.hid (Below.refl w.heap.size w)
 clear hr1 hr2 hr3 hxs hq hv ho hkl hk10
 go_enter Tryz.func88, Tryz.ntmps88
 go_wp2_with fail
 have KS0 := Lib.hid ((Blk.new w 26 #[.slice A n c, .slice KA 10 kc, .slice g.a g.n g.c]).alloc (.cells (repC r si sh) 82))
 have KR0 := Lib.hid (Blk.newAt (w.alloc (.cells #[.slice A n c, .slice KA 10 kc, .slice g.a g.n g.c] 26)) 82 (repC r si sh) (w.heap.size + 1) (by simp))
 refine (l41Find_any _ _ _ S r.lv _ (HRS.out.below (ba (ba (Below.refl _ _))))).mono ?_
 rintro e w1 ⟨rfl, hb⟩
 have KL := Lib.hid (KS0.out.next hb)
 have KR := Lib.hid (KR0.out.next hb)
 have HB := Lib.hid (ba (ba hb))
 clear hb KS0 KR0
 cases hf : S.ts.findIdx? (hasId r.lv) with
 | none =>
  have HT := Lib.hid (verS_no hf)
  rw [findI_not hf]
  clear hf
  go_wp2_with fail
  refine bodyPost_ret (v := .tuple #[.int .i64 2, .int .i64 (-1)]) (by simp [results, Tryz.results88, go_sem]) rfl ?_
  exact ⟨by rw [HT.out], HB.out⟩
 | some i =>
  obtain ⟨tr, ht, _⟩ := findIdx_some hf
  obtain ⟨x, hx, hxt⟩ := row_of HXS.out ht
  have hin : i < n := by have := (List.getElem?_eq_some_iff.1 hx).1; have := HL.out; omega
  have HT := Lib.hid (verS_at hf ht)
  obtain ⟨b, off, y, hA, hb, hy, hry, e0, e1, e2, e3, e4, e5, e6, e7, e8, e9, e10, e11⟩ := RdTs.cells (HR.out.below HB.out) hin
  obtain rfl : y = x := by rw [hx] at hy; exact (Option.some.inj hy).symm
  have HXT := Lib.hid hxt
  have HRY := Lib.hid hry
  have HFI := Lib.hid (findI_at hf)
  subst hA
  rw [HFI.out]
  obtain ⟨p, hp⟩ : ∃ p : Nat, r.pl = p := ⟨r.pl.toNat, by have := HO.out.2.1.1; omega⟩
  have hp9 : p ≤ 9 := by have := HO.out.2.1.2; omega
  obtain ⟨bk, ok, z, hKA, hbk, hz, hck⟩ := (HK2.out.below HB.out).at_ (j := p) (by omega)
  subst hKA
  have HZ := Lib.hid (show keyAt S r.pl = z by simp [keyAt, hp, hz])
  have hineg : ¬ (i : Int) < 0 := by omega
  have hp10 : (p : Int) < 10 := by omega
  have hp0 : (0 : Int) ≤ p := by omega
  have hp10' : p < 10 := by omega
  obtain ⟨vd, hvd⟩ : ∃ v, verdW y.2.l z r = v := ⟨_, rfl⟩
  have HVD := Lib.hid hvd
  clear hf ht hx hy hry hxt hvd hz
  obtain ⟨lv, pl, sc, ins, hs, tag⟩ := r
  simp only at hp
  subst hp
  go_upto_region 4 with (fail)
  refine wp_region_grow 16 (by kernel_rfl) (by kernel_rfl) (by kernel_rfl) (fun a b => Below a.heap.size a b) (fun mq w' => Below w1.heap.size w1 w') (fun iq v w' => match iq with | 0 => (v = .pointer (some ⟨w.heap.size, 0, none⟩)) | 1 => (v = .slice (some ⟨b, off, none⟩) n c) | 2 => (v = .int .i64 (i : Int)) | 3 => (v = .pointer (some ⟨b, off + i * 12, none⟩)) | 4 => (v = .pointer (some ⟨b, off + i * 12, none⟩)) | 5 => (v = lvlV y.2.l y.1.w y.1.g) | 6 => (v = .pointer (some ⟨w.heap.size, 1, none⟩)) | 7 => (v = .slice (some ⟨bk, ok, none⟩) 10 kc) | 8 => (v = .pointer (some ⟨w.heap.size + 1, 1, none⟩)) | 9 => (v = .int .i64 (p : Int)) | 10 => (v = .pointer (some ⟨bk, ok + p, none⟩)) | 11 => (v = .int .i64 z) | 12 => (v = repV ⟨lv, (p : Int), sc, ins, hs, tag⟩ si sh) | 13 => (v = .int .i64 vd) | 14 => (v = .int .i64 (i : Int)) | 15 => (v = .int .i64 vd) | _ => True) (fun sq => { tmps := #[svV ⟨some (⟨b, off, none⟩ : Addr), n, c⟩ ⟨some (⟨bk, ok, none⟩ : Addr), 10, kc⟩ g, repV ⟨lv, (p : Int), sc, ins, hs, tag⟩ si sh, Value.pointer (some (⟨w.heap.size, 0, none⟩ : Addr)), Value.pointer (some (⟨w.heap.size + 1, 0, none⟩ : Addr)), sq 15, Value.int .i64 0, Value.int .i64 (i : Int), Value.agg #[Value.slice (some (⟨b, off, none⟩ : Addr)) n c, Value.slice (some (⟨bk, ok, none⟩ : Addr)) 10 kc, Value.slice g.a g.n g.c], Value.pointer (some (⟨w.heap.size + 1, 0, none⟩ : Addr)), Value.int .i64 lv, Value.int .i64 (i : Int), Value.int .i64 (i : Int), Value.bool (decide ((i : Int) < 0)), undef, sq 0, sq 1, sq 2, sq 3, sq 4, sq 5, sq 6, sq 7, sq 8, sq 9, sq 10, sq 11, sq 12, sq 13, sq 14], defers := [] }) (fun j => match j with | 0 => undef | 1 => undef | 2 => undef | 3 => undef | 4 => undef | 5 => undef | 6 => undef | 7 => undef | 8 => undef | 9 => undef | 10 => undef | 11 => undef | 12 => undef | 13 => undef | 14 => undef | 15 => (.int .i64 0) | _ => undef) ?_ ?_ ?_ ?_
  ·rintro iq v a b hg h
   match iq, h with
   | 0, h => exact h
   | 1, h => exact h
   | 2, h => exact h
   | 3, h => exact h
   | 4, h => exact h
   | 5, h => exact h
   | 6, h => exact h
   | 7, h => exact h
   | 8, h => exact h
   | 9, h => exact h
   | 10, h => exact h
   | 11, h => exact h
   | 12, h => exact h
   | 13, h => exact h
   | 14, h => exact h
   | 15, h => exact h
   | (kq + 16), _ => exact trivial
  ·exact ⟨rfl, rfl, rfl, Nat.le_refl _, fun _ _ => rfl⟩
  ·intro mq sq w' iq oq hmq hiq hoq hJ hd Kq hK
   have hiq' : iq = 0 ∨ iq = 1 ∨ iq = 2 ∨ iq = 3 ∨ iq = 4 ∨ iq = 5 ∨ iq = 6 ∨ iq = 7 ∨ iq = 8 ∨ iq = 9 ∨ iq = 10 ∨ iq = 11 ∨ iq = 12 ∨ iq = 13 ∨ iq = 14 ∨ iq = 15 := by omega
   rcases hiq' with rfl | rfl | rfl | rfl | rfl | rfl | rfl | rfl | rfl | rfl | rfl | rfl | rfl | rfl | rfl | rfl
   ·cases (show some _ = some oq from hoq)
    have hK' := hK
    simp only [updV, Nat.reduceEqDiff, ↓reduceIte] at hK'
    clear hK hd
    generalize sq 0 = x0 at *
    generalize sq 1 = x1 at *
    generalize sq 2 = x2 at *
    generalize sq 3 = x3 at *
    generalize sq 4 = x4 at *
    generalize sq 5 = x5 at *
    generalize sq 6 = x6 at *
    generalize sq 7 = x7 at *
    generalize sq 8 = x8 at *
    generalize sq 9 = x9 at *
    generalize sq 10 = x10 at *
    generalize sq 11 = x11 at *
    generalize sq 12 = x12 at *
    generalize sq 13 = x13 at *
    generalize sq 14 = x14 at *
    generalize sq 15 = x15 at *
    go_simp
    exact hK' _ _ (Below.refl _ _) hJ rfl
   ·cases (show some _ = some oq from hoq)
    have d0 := hd 0 (by kernel_rfl) (by decide)
    have hK' := hK
    simp only [updV, Nat.reduceEqDiff, ↓reduceIte] at hK'
    clear hK hd
    generalize sq 0 = x0 at *
    generalize sq 1 = x1 at *
    generalize sq 2 = x2 at *
    generalize sq 3 = x3 at *
    generalize sq 4 = x4 at *
    generalize sq 5 = x5 at *
    generalize sq 6 = x6 at *
    generalize sq 7 = x7 at *
    generalize sq 8 = x8 at *
    generalize sq 9 = x9 at *
    generalize sq 10 = x10 at *
    generalize sq 11 = x11 at *
    generalize sq 12 = x12 at *
    generalize sq 13 = x13 at *
    generalize sq 14 = x14 at *
    generalize sq 15 = x15 at *
    obtain rfl := d0
    have hcc := (KL.out.next hJ).cell 0
    go_simp
    exact hK' _ _ (Below.refl _ _) hJ rfl
   ·cases (show some _ = some oq from hoq)
    have hK' := hK
    simp only [updV, Nat.reduceEqDiff, ↓reduceIte] at hK'
    clear hK hd
    generalize sq 0 = x0 at *
    generalize sq 1 = x1 at *
    generalize sq 2 = x2 at *
    generalize sq 3 = x3 at *
    generalize sq 4 = x4 at *
    generalize sq 5 = x5 at *
    generalize sq 6 = x6 at *
    generalize sq 7 = x7 at *
    generalize sq 8 = x8 at *
    generalize sq 9 = x9 at *
    generalize sq 10 = x10 at *
    generalize sq 11 = x11 at *
    generalize sq 12 = x12 at *
    generalize sq 13 = x13 at *
    generalize sq 14 = x14 at *
    generalize sq 15 = x15 at *
    go_simp
    exact hK' _ _ (Below.refl _ _) hJ rfl
   ·cases (show some _ = some oq from hoq)
    have d1 := hd 1 (by kernel_rfl) (by decide)
    have d2 := hd 2 (by kernel_rfl) (by decide)
    have hK' := hK
    simp only [updV, Nat.reduceEqDiff, ↓reduceIte] at hK'
    clear hK hd
    generalize sq 0 = x0 at *
    generalize sq 1 = x1 at *
    generalize sq 2 = x2 at *
    generalize sq 3 = x3 at *
    generalize sq 4 = x4 at *
    generalize sq 5 = x5 at *
    generalize sq 6 = x6 at *
    generalize sq 7 = x7 at *
    generalize sq 8 = x8 at *
    generalize sq 9 = x9 at *
    generalize sq 10 = x10 at *
    generalize sq 11 = x11 at *
    generalize sq 12 = x12 at *
    generalize sq 13 = x13 at *
    generalize sq 14 = x14 at *
    generalize sq 15 = x15 at *
    obtain rfl := d1
    obtain rfl := d2
    go_simp
    exact hK' _ _ (Below.refl _ _) hJ rfl
   ·cases (show some _ = some oq from hoq)
    have d3 := hd 3 (by kernel_rfl) (by decide)
    have hK' := hK
    simp only [updV, Nat.reduceEqDiff, ↓reduceIte] at hK'
    clear hK hd
    generalize sq 0 = x0 at *
    generalize sq 1 = x1 at *
    generalize sq 2 = x2 at *
    generalize sq 3 = x3 at *
    generalize sq 4 = x4 at *
    generalize sq 5 = x5 at *
    generalize sq 6 = x6 at *
    generalize sq 7 = x7 at *
    generalize sq 8 = x8 at *
    generalize sq 9 = x9 at *
    generalize sq 10 = x10 at *
    generalize sq 11 = x11 at *
    generalize sq 12 = x12 at *
    generalize sq 13 = x13 at *
    generalize sq 14 = x14 at *
    generalize sq 15 = x15 at *
    obtain rfl := d3
    go_simp
    exact hK' _ _ (Below.refl _ _) hJ rfl
   ·cases (show some _ = some oq from hoq)
    have d4 := hd 4 (by kernel_rfl) (by decide)
    have hK' := hK
    simp only [updV, Nat.reduceEqDiff, ↓reduceIte] at hK'
    clear hK hd
    generalize sq 0 = x0 at *
    generalize sq 1 = x1 at *
    generalize sq 2 = x2 at *
    generalize sq 3 = x3 at *
    generalize sq 4 = x4 at *
    generalize sq 5 = x5 at *
    generalize sq 6 = x6 at *
    generalize sq 7 = x7 at *
    generalize sq 8 = x8 at *
    generalize sq 9 = x9 at *
    generalize sq 10 = x10 at *
    generalize sq 11 = x11 at *
    generalize sq 12 = x12 at *
    generalize sq 13 = x13 at *
    generalize sq 14 = x14 at *
    generalize sq 15 = x15 at *
    obtain rfl := d4
    have f0 := ((bcell hJ).1 b _ hb).trans e0
    have f1 := ((bcell hJ).1 b _ hb).trans e1
    have f2 := ((bcell hJ).1 b _ hb).trans e2
    have f3 := ((bcell hJ).1 b _ hb).trans e3
    have f4 := ((bcell hJ).1 b _ hb).trans e4
    have f5 := ((bcell hJ).1 b _ hb).trans e5
    have f6 := ((bcell hJ).1 b _ hb).trans e6
    have f7 := ((bcell hJ).1 b _ hb).trans e7
    have f8 := ((bcell hJ).1 b _ hb).trans e8
    have f9 := ((bcell hJ).1 b _ hb).trans e9
    have f10 := ((bcell hJ).1 b _ hb).trans e10
    go_simp
    exact hK' _ _ (Below.refl _ _) hJ rfl
   ·cases (show some _ = some oq from hoq)
    have hK' := hK
    simp only [updV, Nat.reduceEqDiff, ↓reduceIte] at hK'
    clear hK hd
    generalize sq 0 = x0 at *
    generalize sq 1 = x1 at *
    generalize sq 2 = x2 at *
    generalize sq 3 = x3 at *
    generalize sq 4 = x4 at *
    generalize sq 5 = x5 at *
    generalize sq 6 = x6 at *
    generalize sq 7 = x7 at *
    generalize sq 8 = x8 at *
    generalize sq 9 = x9 at *
    generalize sq 10 = x10 at *
    generalize sq 11 = x11 at *
    generalize sq 12 = x12 at *
    generalize sq 13 = x13 at *
    generalize sq 14 = x14 at *
    generalize sq 15 = x15 at *
    go_simp
    exact hK' _ _ (Below.refl _ _) hJ rfl
   ·cases (show some _ = some oq from hoq)
    have d6 := hd 6 (by kernel_rfl) (by decide)
    have hK' := hK
    simp only [updV, Nat.reduceEqDiff, ↓reduceIte] at hK'
    clear hK hd
    generalize sq 0 = x0 at *
    generalize sq 1 = x1 at *
    generalize sq 2 = x2 at *
    generalize sq 3 = x3 at *
    generalize sq 4 = x4 at *
    generalize sq 5 = x5 at *
    generalize sq 6 = x6 at *
    generalize sq 7 = x7 at *
    generalize sq 8 = x8 at *
    generalize sq 9 = x9 at *
    generalize sq 10 = x10 at *
    generalize sq 11 = x11 at *
    generalize sq 12 = x12 at *
    generalize sq 13 = x13 at *
    generalize sq 14 = x14 at *
    generalize sq 15 = x15 at *
    obtain rfl := d6
    have hcc := (KL.out.next hJ).cell 1
    go_simp
    exact hK' _ _ (Below.refl _ _) hJ rfl
   ·cases (show some _ = some oq from hoq)
    have hK' := hK
    simp only [updV, Nat.reduceEqDiff, ↓reduceIte] at hK'
    clear hK hd
    generalize sq 0 = x0 at *
    generalize sq 1 = x1 at *
    generalize sq 2 = x2 at *
    generalize sq 3 = x3 at *
    generalize sq 4 = x4 at *
    generalize sq 5 = x5 at *
    generalize sq 6 = x6 at *
    generalize sq 7 = x7 at *
    generalize sq 8 = x8 at *
    generalize sq 9 = x9 at *
    generalize sq 10 = x10 at *
    generalize sq 11 = x11 at *
    generalize sq 12 = x12 at *
    generalize sq 13 = x13 at *
    generalize sq 14 = x14 at *
    generalize sq 15 = x15 at *
    go_simp
    exact hK' _ _ (Below.refl _ _) hJ rfl
   ·cases (show some _ = some oq from hoq)
    have d8 := hd 8 (by kernel_rfl) (by decide)
    have hK' := hK
    simp only [updV, Nat.reduceEqDiff, ↓reduceIte] at hK'
    clear hK hd
    generalize sq 0 = x0 at *
    generalize sq 1 = x1 at *
    generalize sq 2 = x2 at *
    generalize sq 3 = x3 at *
    generalize sq 4 = x4 at *
    generalize sq 5 = x5 at *
    generalize sq 6 = x6 at *
    generalize sq 7 = x7 at *
    generalize sq 8 = x8 at *
    generalize sq 9 = x9 at *
    generalize sq 10 = x10 at *
    generalize sq 11 = x11 at *
    generalize sq 12 = x12 at *
    generalize sq 13 = x13 at *
    generalize sq 14 = x14 at *
    generalize sq 15 = x15 at *
    obtain rfl := d8
    have hcc := (KR.out.next hJ).cell 1
    go_simp
    exact hK' _ _ (Below.refl _ _) hJ rfl
   ·cases (show some _ = some oq from hoq)
    have d7 := hd 7 (by kernel_rfl) (by decide)
    have d9 := hd 9 (by kernel_rfl) (by decide)
    have hK' := hK
    simp only [updV, Nat.reduceEqDiff, ↓reduceIte] at hK'
    clear hK hd
    generalize sq 0 = x0 at *
    generalize sq 1 = x1 at *
    generalize sq 2 = x2 at *
    generalize sq 3 = x3 at *
    generalize sq 4 = x4 at *
    generalize sq 5 = x5 at *
    generalize sq 6 = x6 at *
    generalize sq 7 = x7 at *
    generalize sq 8 = x8 at *
    generalize sq 9 = x9 at *
    generalize sq 10 = x10 at *
    generalize sq 11 = x11 at *
    generalize sq 12 = x12 at *
    generalize sq 13 = x13 at *
    generalize sq 14 = x14 at *
    generalize sq 15 = x15 at *
    obtain rfl := d7
    obtain rfl := d9
    go_simp
    exact hK' _ _ (Below.refl _ _) hJ rfl
   ·cases (show some _ = some oq from hoq)
    have d10 := hd 10 (by kernel_rfl) (by decide)
    have hK' := hK
    simp only [updV, Nat.reduceEqDiff, ↓reduceIte] at hK'
    clear hK hd
    generalize sq 0 = x0 at *
    generalize sq 1 = x1 at *
    generalize sq 2 = x2 at *
    generalize sq 3 = x3 at *
    generalize sq 4 = x4 at *
    generalize sq 5 = x5 at *
    generalize sq 6 = x6 at *
    generalize sq 7 = x7 at *
    generalize sq 8 = x8 at *
    generalize sq 9 = x9 at *
    generalize sq 10 = x10 at *
    generalize sq 11 = x11 at *
    generalize sq 12 = x12 at *
    generalize sq 13 = x13 at *
    generalize sq 14 = x14 at *
    generalize sq 15 = x15 at *
    obtain rfl := d10
    have hcc := ((bcell hJ).1 bk _ hbk).trans hck
    go_simp
    exact hK' _ _ (Below.refl _ _) hJ rfl
   ·cases (show some _ = some oq from hoq)
    have hK' := hK
    simp only [updV, Nat.reduceEqDiff, ↓reduceIte] at hK'
    clear hK hd
    generalize sq 0 = x0 at *
    generalize sq 1 = x1 at *
    generalize sq 2 = x2 at *
    generalize sq 3 = x3 at *
    generalize sq 4 = x4 at *
    generalize sq 5 = x5 at *
    generalize sq 6 = x6 at *
    generalize sq 7 = x7 at *
    generalize sq 8 = x8 at *
    generalize sq 9 = x9 at *
    generalize sq 10 = x10 at *
    generalize sq 11 = x11 at *
    generalize sq 12 = x12 at *
    generalize sq 13 = x13 at *
    generalize sq 14 = x14 at *
    generalize sq 15 = x15 at *
    have hcc := fun q => (KR.out.next hJ).cell q
    go_simp
    exact hK' _ _ (Below.refl _ _) hJ rfl
   ·cases (show some _ = some oq from hoq)
    have d5 := hd 5 (by kernel_rfl) (by decide)
    have d11 := hd 11 (by kernel_rfl) (by decide)
    have d12 := hd 12 (by kernel_rfl) (by decide)
    have hK' := hK
    simp only [updV, Nat.reduceEqDiff, ↓reduceIte] at hK'
    clear hK hd
    generalize sq 0 = x0 at *
    generalize sq 1 = x1 at *
    generalize sq 2 = x2 at *
    generalize sq 3 = x3 at *
    generalize sq 4 = x4 at *
    generalize sq 5 = x5 at *
    generalize sq 6 = x6 at *
    generalize sq 7 = x7 at *
    generalize sq 8 = x8 at *
    generalize sq 9 = x9 at *
    generalize sq 10 = x10 at *
    generalize sq 11 = x11 at *
    generalize sq 12 = x12 at *
    generalize sq 13 = x13 at *
    generalize sq 14 = x14 at *
    generalize sq 15 = x15 at *
    obtain rfl := d5
    obtain rfl := d11
    obtain rfl := d12
    go_simp
    refine (specVerifyReplay_any y.2.l y.1.w y.1.g z ⟨lv, (p : Int), sc, ins, hs, tag⟩ si sh _ (HRY.out.below hJ).1 ((HRR.out.below HB.out).below hJ)).mono ?_
    rintro e w2 ⟨rfl, hb⟩
    rw [HVD.out]
    exact hK' _ _ hb (below_next hJ hb) rfl
   ·cases (show some _ = some oq from hoq)
    have hK' := hK
    simp only [updV, Nat.reduceEqDiff, ↓reduceIte] at hK'
    clear hK hd
    generalize sq 0 = x0 at *
    generalize sq 1 = x1 at *
    generalize sq 2 = x2 at *
    generalize sq 3 = x3 at *
    generalize sq 4 = x4 at *
    generalize sq 5 = x5 at *
    generalize sq 6 = x6 at *
    generalize sq 7 = x7 at *
    generalize sq 8 = x8 at *
    generalize sq 9 = x9 at *
    generalize sq 10 = x10 at *
    generalize sq 11 = x11 at *
    generalize sq 12 = x12 at *
    generalize sq 13 = x13 at *
    generalize sq 14 = x14 at *
    generalize sq 15 = x15 at *
    go_simp
    exact hK' _ _ (Below.refl _ _) hJ rfl
   ·cases (show some _ = some oq from hoq)
    have d13 := hd 13 (by kernel_rfl) (by decide)
    have hK' := hK
    simp only [updV, Nat.reduceEqDiff, ↓reduceIte] at hK'
    clear hK hd
    generalize sq 0 = x0 at *
    generalize sq 1 = x1 at *
    generalize sq 2 = x2 at *
    generalize sq 3 = x3 at *
    generalize sq 4 = x4 at *
    generalize sq 5 = x5 at *
    generalize sq 6 = x6 at *
    generalize sq 7 = x7 at *
    generalize sq 8 = x8 at *
    generalize sq 9 = x9 at *
    generalize sq 10 = x10 at *
    generalize sq 11 = x11 at *
    generalize sq 12 = x12 at *
    generalize sq 13 = x13 at *
    generalize sq 14 = x14 at *
    generalize sq 15 = x15 at *
    obtain rfl := d13
    go_simp
    exact hK' _ _ (Below.refl _ _) hJ rfl
  ·intro sq w' hJ hφ
   simp only [List.drop_succ_cons, List.drop_zero]
   have d14 := hφ 14 (by decide)
   have d15 := hφ 15 (by decide)
   clear hφ
   generalize sq 0 = x0 at *
   generalize sq 1 = x1 at *
   generalize sq 2 = x2 at *
   generalize sq 3 = x3 at *
   generalize sq 4 = x4 at *
   generalize sq 5 = x5 at *
   generalize sq 6 = x6 at *
   generalize sq 7 = x7 at *
   generalize sq 8 = x8 at *
   generalize sq 9 = x9 at *
   generalize sq 10 = x10 at *
   generalize sq 11 = x11 at *
   generalize sq 12 = x12 at *
   generalize sq 13 = x13 at *
   generalize sq 14 = x14 at *
   generalize sq 15 = x15 at *
   obtain rfl := d14
   obtain rfl := d15
   go_wp2_with fail
   refine bodyPost_ret (v := .tuple #[.int .i64 vd, .int .i64 (i : Int)]) (by simp [results, Tryz.results88, go_sem]) rfl ?_
   refine ⟨?_, below_next HB.out hJ⟩
   rw [HT.out, ← HXT.out, HZ.out, HVD.out]
end Go.Proofs.YtemnlheidghbmaaGreat
namespace Go.Proofs.YtemnlheidghbmaaGreat
open Go.RowKit Go.Sort
end Go.Proofs.YtemnlheidghbmaaGreat
namespace Go.Proofs.YtemnlheidghbmaaGreat
open Go.RowKit Go.Sort
end Go.Proofs.YtemnlheidghbmaaGreat
namespace Go.Proofs.YtemnlheidghbmaaGreat
open Go.RowKit Go.Sort
end Go.Proofs.YtemnlheidghbmaaGreat
namespace Go.Proofs.YtemnlheidghbmaaGreat
open Go.RowKit Go.Sort
theorem findE_neg (p : Int) : ∀ (es : List Ent) (j : Int), 0 ≤ j → findE p es j < 0 → ∀ e ∈ es, e.1 ≠ p
 | [], _, _, _, e, he => by cases he
 |x :: r, j, hj, h, e, he => by
  simp only [findE] at h
  split at h
  ·omega
  ·rename_i hne
   rcases List.mem_cons.1 he with rfl | h1
   ·exact hne
   ·exact findE_neg p r (j + 1) (by omega) h e h1
theorem validE_sorted_step {es : List Ent} (h : validE es = true) {k : Nat} {d e : Ent} (hd : es[k]? = some d) (he : es[k + 1]? = some e) : d.2 ≤ e.2 := by
 have h1 := validE_at h (List.getElem?_eq_some_iff.1 he).1
 simp [vriE, he, prevE, hd] at h1
 omega
theorem validE_sorted {es : List Ent} (h : validE es = true) : ∀ (n k : Nat) (d e : Ent), es[k]? = some d → es[k + n]? = some e → d.2 ≤ e.2
 |0, k, d, e, hd, he => by
  rw [Nat.add_zero, hd] at he
  injection he with he
  rw [he]; exact Int.le_refl _
 |n + 1, k, d, e, hd, he => by
  have hlt := (List.getElem?_eq_some_iff.1 he).1
  have hm : es[k + 1]? = some es[k + 1] := List.getElem?_eq_getElem (by omega)
  exact Int.le_trans (validE_sorted_step h hd hm) (validE_sorted h n (k + 1) _ e hm (by rw [show k + 1 + n = k + (n + 1) by omega]; exact he))
def Good (es : List Ent) : Prop := es.length ≤ 4 ∧ (∀ e ∈ es, okE e = true) ∧ es.Pairwise (fun a b => a.1 ≠ b.1) ∧ es.Pairwise (fun a b => a.2 ≤ b.2)
theorem Good.of {es : List Ent} (h : validE es = true) : Good es := by
 refine ⟨validE_len h, fun e he => ?_, ?_, ?_⟩
 ·obtain ⟨k, hk, rfl⟩ := List.getElem_of_mem he
  exact validE_ok h (List.getElem?_eq_getElem hk)
 ·rw [List.pairwise_iff_getElem]
  intro i j hi hj hij
  have h1 := validE_at h hj
  simp only [vriE, List.getElem?_eq_getElem hj, Bool.and_eq_true, Bool.not_eq_true', decide_eq_false_iff_not] at h1
  refine findE_neg _ (es.take j) 0 (Int.le_refl _) (by omega) _ ?_
  rw [List.mem_iff_getElem?]
  exact ⟨i, by rw [List.getElem?_take, if_pos hij]; exact List.getElem?_eq_getElem hi⟩
 ·rw [List.pairwise_iff_getElem]
  intro i j hi hj hij
  exact validE_sorted h (j - i) i _ _ (List.getElem?_eq_getElem hi) (by rw [show i + (j - i) = j by omega]; exact List.getElem?_eq_getElem hj)
end Go.Proofs.YtemnlheidghbmaaGreat
namespace Go.Proofs.YtemnlheidghbmaaGreat
open Go.RowKit Go.Sort
end Go.Proofs.YtemnlheidghbmaaGreat
namespace Go.Proofs.YtemnlheidghbmaaGreat
open Go.RowKit Go.Sort
def CntPost (B : Nat) (r : Svc × Int) (w : World) (e : Ending) (w' : World) : Prop :=
 ∃ t k g, e = .returned (.tuple #[svV t k g, .int .i64 r.2]) ∧ OwS B w'.heap.size w' t k g r.1 ∧ Below B w w'
theorem OwTs.newBoard {lo hi hi' n c g k : Nat} {w : World} {a b : List Row} {x : Row} {s : Sl} {es : List Ent} (h : OwTs lo hi w ⟨some ⟨g, 0, none⟩, n, c⟩ (a ++ x :: b)) (hk : a.length = k) (hb : OwEn hi hi' w s es) (hlh : lo ≤ hi) (hle : hi ≤ hi') (hs : s.n ≤ 1048576) :
  OwTs lo hi' (w.setCell ⟨g, k * 12 + 11, none⟩ (.slice s.a s.n s.c)) ⟨some ⟨g, 0, none⟩, n, c⟩ (a ++ (⟨x.1.w, x.1.g, s⟩, ⟨x.2.l, es⟩) :: b) := by
 obtain ⟨h1, h2, h3, h4, h5⟩ := h
 have hO : Ow lo w 44 12 (some ⟨g, 0, none⟩) n c (cellsT (a ++ x :: b)) := h1.ow
 have hlen : k * 12 + 11 < (cellsT (a ++ x :: b)).length := by rw [cellsT_len, List.length_append, List.length_cons, hk]; omega
 have hc : 0 < c := by
  have h6 := hO.len
  have h7 := hO.le
  rw [cellsT_len, List.length_append, List.length_cons] at h6
  omega
 have hG : w.grownBy (w.setCell ⟨g, k * 12 + 11, none⟩ (.slice s.a s.n s.c)) (ownB (some ⟨g, 0, none⟩) c) := by
  rw [ownB_some hc]
  exact Only.set_ (p := ⟨g, k * 12 + 11, none⟩) (Only.refl g w) (.inl rfl) _
 have hkeep : ∀ y, OwT lo hi w y → OwT lo hi' (w.setCell ⟨g, k * 12 + 11, none⟩ (.slice s.a s.n s.c)) y := fun y hy =>
  OwT.mono (⟨⟨hy.1.1.apart hO (by decide) hG, hy.1.2.1.apart hO (by decide) hG, hy.1.2.2⟩, hy.2.1.apart hO (by decide) hG, hy.2.2⟩) (Nat.le_refl _) hle
 refine ⟨?_, fun y hy => ?_, ?_, ?_, h5⟩
 ·have e := cellsX_set encT_len (a ++ x :: b) k x (⟨x.1.w, x.1.g, s⟩, ⟨x.2.l, es⟩) 11 (.slice s.a s.n s.c) (by rw [← hk]; simp) rfl (by decide)
  rw [← hk, List.set_append_right _ _ (Nat.le_refl _), Nat.sub_self, List.set_cons_zero, hk] at e
  refine ⟨?_, fun hc' g' hg' => Nat.lt_of_lt_of_le (h1.2 hc' g' hg') hle⟩
  show Ow lo _ _ 12 _ _ _ (cellsX encT (a ++ (⟨x.1.w, x.1.g, s⟩, ⟨x.2.l, es⟩) :: b))
  rw [e]
  exact hO.set_ hlen _
 ·rcases mid_mem hy with rfl | hy
  ·have hx := hkeep x (h2 x (by simp))
   refine ⟨hx.1, ?_, hs⟩
   exact (OwI.apart hb hO (by decide) hG).mono hlh (Nat.le_refl _)
  ·exact hkeep y (h2 y (by rcases hy with hy | hy <;> simp [hy]))
 ·rw [boxBlks_mid] at h3 ⊢; exact h3
 ·have hold : ∀ y, y ∈ a ∨ y ∈ b → ∀ c ∈ blkOf y.1.b, c < hi := fun y hy c hc => (OwI.mem (s := y.1.b) (h2 y (by rcases hy with hy | hy <;> simp [hy])).2.1 c hc).2
  have hnew : ∀ c ∈ blkOf s, hi ≤ c := fun c hc => (OwI.mem hb c hc).1
  rw [entBlks_mid, List.nodup_append] at h4 ⊢
  obtain ⟨n1, n2, n3⟩ := h4
  rw [List.nodup_append] at n2
  refine ⟨n1, ?_, ?_⟩
  ·rw [List.nodup_append]
   refine ⟨blkOf_nodup _, n2.2.1, fun u hu v hv e => ?_⟩
   obtain ⟨y, hy, hv⟩ := List.mem_flatMap.1 hv
   have := hold y (.inr hy) v hv
   have := hnew u hu
   omega
  ·intro u hu v hv e
   rcases List.mem_append.1 hv with hv | hv
   ·obtain ⟨y, hy, hu⟩ := List.mem_flatMap.1 hu
    have := hold y (.inl hy) u hu
    have := hnew v hv
    omega
   ·exact n3 u hu v (List.mem_append_right _ hv) e
end Go.Proofs.YtemnlheidghbmaaGreat

namespace Go.Proofs.YtemnlheidghbmaaGreat
open Go.RowKit Go.Sort
theorem addE_len8 (es : List Ent) (x : Ent) (h : es.length ≤ 8) : (addE es x).1.length ≤ 8 := by
 unfold addE
 split
 ·split
  ·exact h
  ·split
   ·exact h
   ·unfold outE; simp only [List.length_take]; omega
 ·exact Nat.zero_le _
end Go.Proofs.YtemnlheidghbmaaGreat

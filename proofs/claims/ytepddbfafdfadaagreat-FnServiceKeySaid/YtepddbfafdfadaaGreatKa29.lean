/-
  Lemmas and contracts: Ej Del Sc Rs Vp Ri. No condition.
-/
import Derived.Test.YtepddbfafdfadaaGreatKa4
import Derived.Test.YtepddbfafdfadaaGreatKa12
import Derived.Test.YtepddbfafdfadaaGreatKa15
import Derived.Test.YtepddbfafdfadaaGreatKa19
import Derived.Test.YtepddbfafdfadaaGreatKa23
import Derived.Test.YtepddbfafdfadaaGreatKa28
namespace Go.Proofs.YtepddbfafdfadaaGreat
open Go.RowKit Go.Sort
def hasZ (zs : List Int) (n : Int) : Bool := zs.any fun z => z == n
set_option maxRecDepth 100000 in
set_option maxHeartbeats 4000000 in
theorem l1Has_any (A : Option Addr) (n c : Nat) (zs : List Int) (x : Int) (w : World) (hr : RdI .i64 w A n zs) (hn : n ≤ 1048576) :
  Calls Tryz.prog 174 #[.slice A n c, .int .i64 x] w fun e w' => e = .returned (.bool (hasZ zs x)) ∧ Below w.heap.size w w' := by
 have HR := Lib.hid hr
 have HL := Lib.hid hr.len
 clear hr
 have HB0 := Lib.hid (Below.refl w.heap.size w)
 go_enter Tryz.func174, Tryz.ntmps174
 go_wp2
 go_loop [5] (fun i => ∃ p : Nat, p ≤ n ∧ i = .int .i64 p ∧ Hid (∀ j z, j < p → zs[j]? = some z → z ≠ x)) (fun i => n - (intOf i).toNat)
 case atStart => exact ⟨0, Nat.zero_le _, rfl, fun j x hj => absurd hj (Nat.not_lt_zero _)⟩
 case round =>
  obtain ⟨p, hp, rfl, HF⟩ := hrel
  by_cases hlt : p < n
  ·obtain ⟨b, off, z, hA, hb, hx, hc⟩ := HR.out.at_ (j := p) (by omega)
   subst hA
   have HX := Lib.hid hx
   clear hx
   by_cases hid : z = x
   ·have HI := Lib.hid hid
    have hie : (z == x) = true := by simpa using hid
    clear hid
    go_wp2
    go_ret
    refine ⟨ret_bool ?_, HB0.out⟩
    have : hasZ zs x = true := by
     unfold hasZ
     rw [List.any_eq_true]
     exact ⟨z, List.mem_of_getElem? HX.out, by simp [HI.out]⟩
    rw [this]
   ·have HI := Lib.hid hid
    have hie : (z == x) = false := by simpa using hid
    clear hid
    go_wp2
    go_round
    case rel => exact ⟨p + 1, by omega, by go_num, fun j y hj hy => by
     rcases Nat.lt_succ_iff_lt_or_eq.1 hj with hj | rfl
     ·exact HF.out j y hj hy
     ·rw [HX.out] at hy; injection hy with hy; subst hy; exact HI.out⟩
    case measure => simp [intOf]; omega
  ·go_wp2
   go_ret
   refine ⟨ret_bool ?_, HB0.out⟩
   have : hasZ zs x = false := by
    unfold hasZ
    rw [List.any_eq_false]
    intro z hz
    obtain ⟨j, hj, rfl⟩ := List.mem_iff_getElem.1 hz
    have := HF.out j _ (by have := HL.out; omega) (List.getElem?_eq_getElem hj)
    simpa using this
   rw [this]
noncomputable def verS (S : Svc) (r : Rep) : Int × Int :=
 match S.ts.findIdx? (hasId r.lv) with
 | none => (2, -1)
 |some i => match S.ts[i]? with
  | none => (2, -1)
  | some t => (verdW t.l (keyAt S r.pl) r, (i : Int))
theorem verS_no {S : Svc} {r : Rep} (h : S.ts.findIdx? (hasId r.lv) = none) : verS S r = (2, -1) := by simp [verS, h]
theorem verS_at {S : Svc} {r : Rep} {i : Nat} {t : Trk} (h : S.ts.findIdx? (hasId r.lv) = some i) (ht : S.ts[i]? = some t) : verS S r = (verdW t.l (keyAt S r.pl) r, (i : Int)) := by simp [verS, h, ht]
set_option maxRecDepth 100000 in
set_option maxHeartbeats 8000000 in
theorem l41Verdict_any (t k g : Sl) (S : Svc) (r : Rep) (si sh : Sl) (w : World) (hr : RdS w t k g S) (hq : RdR w r si sh) (hv : validS S = true) (ho : repOk r = true) :
  Calls Tryz.prog 150 #[svV t k g, repV r si sh] w fun e w' => e = .returned (.tuple #[.int .i64 (verS S r).1, .int .i64 (verS S r).2]) ∧ Below w.heap.size w w' := by
 have HRS := Lib.hid hr
 have HRR := Lib.hid hq
 have HV := Lib.hid hv
 have HO := Lib.hid (repOk_facts ho)
 obtain ⟨⟨xs, hxs, hr1⟩, hr2, hr3, ⟨_, hn1⟩, ⟨_, hn2⟩, _, hn3⟩ := hr
 obtain ⟨A, n, c⟩ := t
 obtain ⟨KA, kn, kc⟩ := k
 simp only at hr1 hn1 hr2 hn2
 have HR := Lib.hid hr1
 have HK2 := Lib.hid hr2
 have HXS := Lib.hid hxs
 have HL := Lib.hid hr1.1.len
 have hkl := hr2.len
 have hk10 := (validS_of hv).1
 obtain rfl : kn = 10 := by omega
 have HBA := Lib.hid (Below.refl w.heap.size w)
 clear hr1 hr2 hr3 hxs hq hv ho hkl hk10
 go_enter Tryz.func150, Tryz.ntmps150
 go_wp2_with fail
 have KS0 := Lib.hid ((Blk.new w 37 #[.slice A n c, .slice KA 10 kc, .slice g.a g.n g.c]).alloc (.cells (repC r si sh) 136))
 have KR0 := Lib.hid (Blk.newAt (w.alloc (.cells #[.slice A n c, .slice KA 10 kc, .slice g.a g.n g.c] 37)) 136 (repC r si sh) (w.heap.size + 1) (by simp))
 refine (l41Find_any _ _ _ S r.lv _ (HRS.out.below (ba (ba (Below.refl _ _))))).mono ?_
 rintro e w1 ⟨rfl, hb⟩
 have KL := Lib.hid (KS0.out.next hb)
 have KR := Lib.hid (KR0.out.next hb)
 have HB := Lib.hid (ba (ba hb))
 clear hb KS0 KR0
 cases hf : S.ts.findIdx? (hasId r.lv) with
 | none =>
  have HT := Lib.hid (verS_no hf)
  rw [findI_not hf]
  clear hf
  go_wp2_with fail
  refine bodyPost_ret (v := .tuple #[.int .i64 2, .int .i64 (-1)]) (by simp [results, Tryz.results150, go_sem]) rfl ?_
  exact ⟨by rw [HT.out], HB.out⟩
 | some i =>
  obtain ⟨tr, ht, _⟩ := findIdx_some hf
  obtain ⟨x, hx, hxt⟩ := row_of HXS.out ht
  have hin : i < n := by have := (List.getElem?_eq_some_iff.1 hx).1; have := HL.out; omega
  have HT := Lib.hid (verS_at hf ht)
  obtain ⟨b, off, y, hA, hb, hy, hry, e0, e1, e2, e3, e4, e5, e6, e7, e8, e9, e10, e11⟩ := RdTs.cells (HR.out.below HB.out) hin
  obtain rfl : y = x := by rw [hx] at hy; exact (Option.some.inj hy).symm
  have HXT := Lib.hid hxt
  have HRY := Lib.hid hry
  have HFI := Lib.hid (findI_at hf)
  subst hA
  rw [HFI.out]
  obtain ⟨p, hp⟩ : ∃ p : Nat, r.pl = p := ⟨r.pl.toNat, by have := HO.out.2.1.1; omega⟩
  have hp9 : p ≤ 9 := by have := HO.out.2.1.2; omega
  obtain ⟨bk, ok, z, hKA, hbk, hz, hck⟩ := (HK2.out.below HB.out).at_ (j := p) (by omega)
  subst hKA
  have HZ := Lib.hid (show keyAt S r.pl = z by simp [keyAt, hp, hz])
  have hineg : ¬ (i : Int) < 0 := by omega
  have hp10 : (p : Int) < 10 := by omega
  have hp0 : (0 : Int) ≤ p := by omega
  have hp10' : p < 10 := by omega
  obtain ⟨vd, hvd⟩ : ∃ v, verdW y.2.l z r = v := ⟨_, rfl⟩
  have HVD := Lib.hid hvd
  clear hf ht hx hy hry hxt hvd hz
  obtain ⟨lv, pl, sc, ins, hs, tag⟩ := r
  simp only at hp
  subst hp
  go_upto_region 4 with (fail)
  refine wp_region_grow 16 (by kernel_rfl) (by kernel_rfl) (by kernel_rfl) (fun a b => Below a.heap.size a b) (fun mq w' => Below w1.heap.size w1 w') (fun iq v w' => match iq with | 0 => (v = .pointer (some ⟨w.heap.size, 0, none⟩)) | 1 => (v = .slice (some ⟨b, off, none⟩) n c) | 2 => (v = .int .i64 (i : Int)) | 3 => (v = .pointer (some ⟨b, off + i * 12, none⟩)) | 4 => (v = .pointer (some ⟨b, off + i * 12, none⟩)) | 5 => (v = lvlV y.2.l y.1.w y.1.g) | 6 => (v = .pointer (some ⟨w.heap.size, 1, none⟩)) | 7 => (v = .slice (some ⟨bk, ok, none⟩) 10 kc) | 8 => (v = .pointer (some ⟨w.heap.size + 1, 1, none⟩)) | 9 => (v = .int .i64 (p : Int)) | 10 => (v = .pointer (some ⟨bk, ok + p, none⟩)) | 11 => (v = .int .i64 z) | 12 => (v = repV ⟨lv, (p : Int), sc, ins, hs, tag⟩ si sh) | 13 => (v = .int .i64 vd) | 14 => (v = .int .i64 (i : Int)) | 15 => (v = .int .i64 vd) | _ => True) (fun sq => { tmps := #[svV ⟨some (⟨b, off, none⟩ : Addr), n, c⟩ ⟨some (⟨bk, ok, none⟩ : Addr), 10, kc⟩ g, repV ⟨lv, (p : Int), sc, ins, hs, tag⟩ si sh, Value.pointer (some (⟨w.heap.size, 0, none⟩ : Addr)), Value.pointer (some (⟨w.heap.size + 1, 0, none⟩ : Addr)), sq 15, Value.int .i64 0, Value.int .i64 (i : Int), Value.agg #[Value.slice (some (⟨b, off, none⟩ : Addr)) n c, Value.slice (some (⟨bk, ok, none⟩ : Addr)) 10 kc, Value.slice g.a g.n g.c], Value.pointer (some (⟨w.heap.size + 1, 0, none⟩ : Addr)), Value.int .i64 lv, Value.int .i64 (i : Int), Value.int .i64 (i : Int), Value.bool (decide ((i : Int) < 0)), undef, sq 0, sq 1, sq 2, sq 3, sq 4, sq 5, sq 6, sq 7, sq 8, sq 9, sq 10, sq 11, sq 12, sq 13, sq 14], defers := [] }) (fun j => match j with | 0 => undef | 1 => undef | 2 => undef | 3 => undef | 4 => undef | 5 => undef | 6 => undef | 7 => undef | 8 => undef | 9 => undef | 10 => undef | 11 => undef | 12 => undef | 13 => undef | 14 => undef | 15 => (.int .i64 0) | _ => undef) ?_ ?_ ?_ ?_
  ·rintro iq v a b hg h
   match iq, h with
   | 0, h => exact h
   | 1, h => exact h
   | 2, h => exact h
   | 3, h => exact h
   | 4, h => exact h
   | 5, h => exact h
   | 6, h => exact h
   | 7, h => exact h
   | 8, h => exact h
   | 9, h => exact h
   | 10, h => exact h
   | 11, h => exact h
   | 12, h => exact h
   | 13, h => exact h
   | 14, h => exact h
   | 15, h => exact h
   | (kq + 16), _ => exact trivial
  ·exact ⟨rfl, rfl, rfl, Nat.le_refl _, fun _ _ => rfl⟩
  ·intro mq sq w' iq oq hmq hiq hoq hJ hd Kq hK
   have hiq' : iq = 0 ∨ iq = 1 ∨ iq = 2 ∨ iq = 3 ∨ iq = 4 ∨ iq = 5 ∨ iq = 6 ∨ iq = 7 ∨ iq = 8 ∨ iq = 9 ∨ iq = 10 ∨ iq = 11 ∨ iq = 12 ∨ iq = 13 ∨ iq = 14 ∨ iq = 15 := by omega
   rcases hiq' with rfl | rfl | rfl | rfl | rfl | rfl | rfl | rfl | rfl | rfl | rfl | rfl | rfl | rfl | rfl | rfl
   ·cases (show some _ = some oq from hoq)
    have hK' := hK
    simp only [updV, Nat.reduceEqDiff, ↓reduceIte] at hK'
    clear hK hd
    generalize sq 0 = x0 at *
    generalize sq 1 = x1 at *
    generalize sq 2 = x2 at *
    generalize sq 3 = x3 at *
    generalize sq 4 = x4 at *
    generalize sq 5 = x5 at *
    generalize sq 6 = x6 at *
    generalize sq 7 = x7 at *
    generalize sq 8 = x8 at *
    generalize sq 9 = x9 at *
    generalize sq 10 = x10 at *
    generalize sq 11 = x11 at *
    generalize sq 12 = x12 at *
    generalize sq 13 = x13 at *
    generalize sq 14 = x14 at *
    generalize sq 15 = x15 at *
    go_simp
    exact hK' _ _ (Below.refl _ _) hJ rfl
   ·cases (show some _ = some oq from hoq)
    have d0 := hd 0 (by kernel_rfl) (by decide)
    have hK' := hK
    simp only [updV, Nat.reduceEqDiff, ↓reduceIte] at hK'
    clear hK hd
    generalize sq 0 = x0 at *
    generalize sq 1 = x1 at *
    generalize sq 2 = x2 at *
    generalize sq 3 = x3 at *
    generalize sq 4 = x4 at *
    generalize sq 5 = x5 at *
    generalize sq 6 = x6 at *
    generalize sq 7 = x7 at *
    generalize sq 8 = x8 at *
    generalize sq 9 = x9 at *
    generalize sq 10 = x10 at *
    generalize sq 11 = x11 at *
    generalize sq 12 = x12 at *
    generalize sq 13 = x13 at *
    generalize sq 14 = x14 at *
    generalize sq 15 = x15 at *
    obtain rfl := d0
    have hcc := (KL.out.next hJ).cell 0
    go_simp
    exact hK' _ _ (Below.refl _ _) hJ rfl
   ·cases (show some _ = some oq from hoq)
    have hK' := hK
    simp only [updV, Nat.reduceEqDiff, ↓reduceIte] at hK'
    clear hK hd
    generalize sq 0 = x0 at *
    generalize sq 1 = x1 at *
    generalize sq 2 = x2 at *
    generalize sq 3 = x3 at *
    generalize sq 4 = x4 at *
    generalize sq 5 = x5 at *
    generalize sq 6 = x6 at *
    generalize sq 7 = x7 at *
    generalize sq 8 = x8 at *
    generalize sq 9 = x9 at *
    generalize sq 10 = x10 at *
    generalize sq 11 = x11 at *
    generalize sq 12 = x12 at *
    generalize sq 13 = x13 at *
    generalize sq 14 = x14 at *
    generalize sq 15 = x15 at *
    go_simp
    exact hK' _ _ (Below.refl _ _) hJ rfl
   ·cases (show some _ = some oq from hoq)
    have d1 := hd 1 (by kernel_rfl) (by decide)
    have d2 := hd 2 (by kernel_rfl) (by decide)
    have hK' := hK
    simp only [updV, Nat.reduceEqDiff, ↓reduceIte] at hK'
    clear hK hd
    generalize sq 0 = x0 at *
    generalize sq 1 = x1 at *
    generalize sq 2 = x2 at *
    generalize sq 3 = x3 at *
    generalize sq 4 = x4 at *
    generalize sq 5 = x5 at *
    generalize sq 6 = x6 at *
    generalize sq 7 = x7 at *
    generalize sq 8 = x8 at *
    generalize sq 9 = x9 at *
    generalize sq 10 = x10 at *
    generalize sq 11 = x11 at *
    generalize sq 12 = x12 at *
    generalize sq 13 = x13 at *
    generalize sq 14 = x14 at *
    generalize sq 15 = x15 at *
    obtain rfl := d1
    obtain rfl := d2
    go_simp
    exact hK' _ _ (Below.refl _ _) hJ rfl
   ·cases (show some _ = some oq from hoq)
    have d3 := hd 3 (by kernel_rfl) (by decide)
    have hK' := hK
    simp only [updV, Nat.reduceEqDiff, ↓reduceIte] at hK'
    clear hK hd
    generalize sq 0 = x0 at *
    generalize sq 1 = x1 at *
    generalize sq 2 = x2 at *
    generalize sq 3 = x3 at *
    generalize sq 4 = x4 at *
    generalize sq 5 = x5 at *
    generalize sq 6 = x6 at *
    generalize sq 7 = x7 at *
    generalize sq 8 = x8 at *
    generalize sq 9 = x9 at *
    generalize sq 10 = x10 at *
    generalize sq 11 = x11 at *
    generalize sq 12 = x12 at *
    generalize sq 13 = x13 at *
    generalize sq 14 = x14 at *
    generalize sq 15 = x15 at *
    obtain rfl := d3
    go_simp
    exact hK' _ _ (Below.refl _ _) hJ rfl
   ·cases (show some _ = some oq from hoq)
    have d4 := hd 4 (by kernel_rfl) (by decide)
    have hK' := hK
    simp only [updV, Nat.reduceEqDiff, ↓reduceIte] at hK'
    clear hK hd
    generalize sq 0 = x0 at *
    generalize sq 1 = x1 at *
    generalize sq 2 = x2 at *
    generalize sq 3 = x3 at *
    generalize sq 4 = x4 at *
    generalize sq 5 = x5 at *
    generalize sq 6 = x6 at *
    generalize sq 7 = x7 at *
    generalize sq 8 = x8 at *
    generalize sq 9 = x9 at *
    generalize sq 10 = x10 at *
    generalize sq 11 = x11 at *
    generalize sq 12 = x12 at *
    generalize sq 13 = x13 at *
    generalize sq 14 = x14 at *
    generalize sq 15 = x15 at *
    obtain rfl := d4
    have f0 := ((bcell hJ).1 b _ hb).trans e0
    have f1 := ((bcell hJ).1 b _ hb).trans e1
    have f2 := ((bcell hJ).1 b _ hb).trans e2
    have f3 := ((bcell hJ).1 b _ hb).trans e3
    have f4 := ((bcell hJ).1 b _ hb).trans e4
    have f5 := ((bcell hJ).1 b _ hb).trans e5
    have f6 := ((bcell hJ).1 b _ hb).trans e6
    have f7 := ((bcell hJ).1 b _ hb).trans e7
    have f8 := ((bcell hJ).1 b _ hb).trans e8
    have f9 := ((bcell hJ).1 b _ hb).trans e9
    have f10 := ((bcell hJ).1 b _ hb).trans e10
    go_simp
    exact hK' _ _ (Below.refl _ _) hJ rfl
   ·cases (show some _ = some oq from hoq)
    have hK' := hK
    simp only [updV, Nat.reduceEqDiff, ↓reduceIte] at hK'
    clear hK hd
    generalize sq 0 = x0 at *
    generalize sq 1 = x1 at *
    generalize sq 2 = x2 at *
    generalize sq 3 = x3 at *
    generalize sq 4 = x4 at *
    generalize sq 5 = x5 at *
    generalize sq 6 = x6 at *
    generalize sq 7 = x7 at *
    generalize sq 8 = x8 at *
    generalize sq 9 = x9 at *
    generalize sq 10 = x10 at *
    generalize sq 11 = x11 at *
    generalize sq 12 = x12 at *
    generalize sq 13 = x13 at *
    generalize sq 14 = x14 at *
    generalize sq 15 = x15 at *
    go_simp
    exact hK' _ _ (Below.refl _ _) hJ rfl
   ·cases (show some _ = some oq from hoq)
    have d6 := hd 6 (by kernel_rfl) (by decide)
    have hK' := hK
    simp only [updV, Nat.reduceEqDiff, ↓reduceIte] at hK'
    clear hK hd
    generalize sq 0 = x0 at *
    generalize sq 1 = x1 at *
    generalize sq 2 = x2 at *
    generalize sq 3 = x3 at *
    generalize sq 4 = x4 at *
    generalize sq 5 = x5 at *
    generalize sq 6 = x6 at *
    generalize sq 7 = x7 at *
    generalize sq 8 = x8 at *
    generalize sq 9 = x9 at *
    generalize sq 10 = x10 at *
    generalize sq 11 = x11 at *
    generalize sq 12 = x12 at *
    generalize sq 13 = x13 at *
    generalize sq 14 = x14 at *
    generalize sq 15 = x15 at *
    obtain rfl := d6
    have hcc := (KL.out.next hJ).cell 1
    go_simp
    exact hK' _ _ (Below.refl _ _) hJ rfl
   ·cases (show some _ = some oq from hoq)
    have hK' := hK
    simp only [updV, Nat.reduceEqDiff, ↓reduceIte] at hK'
    clear hK hd
    generalize sq 0 = x0 at *
    generalize sq 1 = x1 at *
    generalize sq 2 = x2 at *
    generalize sq 3 = x3 at *
    generalize sq 4 = x4 at *
    generalize sq 5 = x5 at *
    generalize sq 6 = x6 at *
    generalize sq 7 = x7 at *
    generalize sq 8 = x8 at *
    generalize sq 9 = x9 at *
    generalize sq 10 = x10 at *
    generalize sq 11 = x11 at *
    generalize sq 12 = x12 at *
    generalize sq 13 = x13 at *
    generalize sq 14 = x14 at *
    generalize sq 15 = x15 at *
    go_simp
    exact hK' _ _ (Below.refl _ _) hJ rfl
   ·cases (show some _ = some oq from hoq)
    have d8 := hd 8 (by kernel_rfl) (by decide)
    have hK' := hK
    simp only [updV, Nat.reduceEqDiff, ↓reduceIte] at hK'
    clear hK hd
    generalize sq 0 = x0 at *
    generalize sq 1 = x1 at *
    generalize sq 2 = x2 at *
    generalize sq 3 = x3 at *
    generalize sq 4 = x4 at *
    generalize sq 5 = x5 at *
    generalize sq 6 = x6 at *
    generalize sq 7 = x7 at *
    generalize sq 8 = x8 at *
    generalize sq 9 = x9 at *
    generalize sq 10 = x10 at *
    generalize sq 11 = x11 at *
    generalize sq 12 = x12 at *
    generalize sq 13 = x13 at *
    generalize sq 14 = x14 at *
    generalize sq 15 = x15 at *
    obtain rfl := d8
    have hcc := (KR.out.next hJ).cell 1
    go_simp
    exact hK' _ _ (Below.refl _ _) hJ rfl
   ·cases (show some _ = some oq from hoq)
    have d7 := hd 7 (by kernel_rfl) (by decide)
    have d9 := hd 9 (by kernel_rfl) (by decide)
    have hK' := hK
    simp only [updV, Nat.reduceEqDiff, ↓reduceIte] at hK'
    clear hK hd
    generalize sq 0 = x0 at *
    generalize sq 1 = x1 at *
    generalize sq 2 = x2 at *
    generalize sq 3 = x3 at *
    generalize sq 4 = x4 at *
    generalize sq 5 = x5 at *
    generalize sq 6 = x6 at *
    generalize sq 7 = x7 at *
    generalize sq 8 = x8 at *
    generalize sq 9 = x9 at *
    generalize sq 10 = x10 at *
    generalize sq 11 = x11 at *
    generalize sq 12 = x12 at *
    generalize sq 13 = x13 at *
    generalize sq 14 = x14 at *
    generalize sq 15 = x15 at *
    obtain rfl := d7
    obtain rfl := d9
    go_simp
    exact hK' _ _ (Below.refl _ _) hJ rfl
   ·cases (show some _ = some oq from hoq)
    have d10 := hd 10 (by kernel_rfl) (by decide)
    have hK' := hK
    simp only [updV, Nat.reduceEqDiff, ↓reduceIte] at hK'
    clear hK hd
    generalize sq 0 = x0 at *
    generalize sq 1 = x1 at *
    generalize sq 2 = x2 at *
    generalize sq 3 = x3 at *
    generalize sq 4 = x4 at *
    generalize sq 5 = x5 at *
    generalize sq 6 = x6 at *
    generalize sq 7 = x7 at *
    generalize sq 8 = x8 at *
    generalize sq 9 = x9 at *
    generalize sq 10 = x10 at *
    generalize sq 11 = x11 at *
    generalize sq 12 = x12 at *
    generalize sq 13 = x13 at *
    generalize sq 14 = x14 at *
    generalize sq 15 = x15 at *
    obtain rfl := d10
    have hcc := ((bcell hJ).1 bk _ hbk).trans hck
    go_simp
    exact hK' _ _ (Below.refl _ _) hJ rfl
   ·cases (show some _ = some oq from hoq)
    have hK' := hK
    simp only [updV, Nat.reduceEqDiff, ↓reduceIte] at hK'
    clear hK hd
    generalize sq 0 = x0 at *
    generalize sq 1 = x1 at *
    generalize sq 2 = x2 at *
    generalize sq 3 = x3 at *
    generalize sq 4 = x4 at *
    generalize sq 5 = x5 at *
    generalize sq 6 = x6 at *
    generalize sq 7 = x7 at *
    generalize sq 8 = x8 at *
    generalize sq 9 = x9 at *
    generalize sq 10 = x10 at *
    generalize sq 11 = x11 at *
    generalize sq 12 = x12 at *
    generalize sq 13 = x13 at *
    generalize sq 14 = x14 at *
    generalize sq 15 = x15 at *
    have hcc := fun q => (KR.out.next hJ).cell q
    go_simp
    exact hK' _ _ (Below.refl _ _) hJ rfl
   ·cases (show some _ = some oq from hoq)
    have d5 := hd 5 (by kernel_rfl) (by decide)
    have d11 := hd 11 (by kernel_rfl) (by decide)
    have d12 := hd 12 (by kernel_rfl) (by decide)
    have hK' := hK
    simp only [updV, Nat.reduceEqDiff, ↓reduceIte] at hK'
    clear hK hd
    generalize sq 0 = x0 at *
    generalize sq 1 = x1 at *
    generalize sq 2 = x2 at *
    generalize sq 3 = x3 at *
    generalize sq 4 = x4 at *
    generalize sq 5 = x5 at *
    generalize sq 6 = x6 at *
    generalize sq 7 = x7 at *
    generalize sq 8 = x8 at *
    generalize sq 9 = x9 at *
    generalize sq 10 = x10 at *
    generalize sq 11 = x11 at *
    generalize sq 12 = x12 at *
    generalize sq 13 = x13 at *
    generalize sq 14 = x14 at *
    generalize sq 15 = x15 at *
    obtain rfl := d5
    obtain rfl := d11
    obtain rfl := d12
    go_simp
    refine (specVerifyReplay_any y.2.l y.1.w y.1.g z ⟨lv, (p : Int), sc, ins, hs, tag⟩ si sh _ (HRY.out.below hJ).1 ((HRR.out.below HB.out).below hJ)).mono ?_
    rintro e w2 ⟨rfl, hb⟩
    rw [HVD.out]
    exact hK' _ _ hb (below_next hJ hb) rfl
   ·cases (show some _ = some oq from hoq)
    have hK' := hK
    simp only [updV, Nat.reduceEqDiff, ↓reduceIte] at hK'
    clear hK hd
    generalize sq 0 = x0 at *
    generalize sq 1 = x1 at *
    generalize sq 2 = x2 at *
    generalize sq 3 = x3 at *
    generalize sq 4 = x4 at *
    generalize sq 5 = x5 at *
    generalize sq 6 = x6 at *
    generalize sq 7 = x7 at *
    generalize sq 8 = x8 at *
    generalize sq 9 = x9 at *
    generalize sq 10 = x10 at *
    generalize sq 11 = x11 at *
    generalize sq 12 = x12 at *
    generalize sq 13 = x13 at *
    generalize sq 14 = x14 at *
    generalize sq 15 = x15 at *
    go_simp
    exact hK' _ _ (Below.refl _ _) hJ rfl
   ·cases (show some _ = some oq from hoq)
    have d13 := hd 13 (by kernel_rfl) (by decide)
    have hK' := hK
    simp only [updV, Nat.reduceEqDiff, ↓reduceIte] at hK'
    clear hK hd
    generalize sq 0 = x0 at *
    generalize sq 1 = x1 at *
    generalize sq 2 = x2 at *
    generalize sq 3 = x3 at *
    generalize sq 4 = x4 at *
    generalize sq 5 = x5 at *
    generalize sq 6 = x6 at *
    generalize sq 7 = x7 at *
    generalize sq 8 = x8 at *
    generalize sq 9 = x9 at *
    generalize sq 10 = x10 at *
    generalize sq 11 = x11 at *
    generalize sq 12 = x12 at *
    generalize sq 13 = x13 at *
    generalize sq 14 = x14 at *
    generalize sq 15 = x15 at *
    obtain rfl := d13
    go_simp
    exact hK' _ _ (Below.refl _ _) hJ rfl
  ·intro sq w' hJ hφ
   simp only [List.drop_succ_cons, List.drop_zero]
   have d14 := hφ 14 (by decide)
   have d15 := hφ 15 (by decide)
   clear hφ
   generalize sq 0 = x0 at *
   generalize sq 1 = x1 at *
   generalize sq 2 = x2 at *
   generalize sq 3 = x3 at *
   generalize sq 4 = x4 at *
   generalize sq 5 = x5 at *
   generalize sq 6 = x6 at *
   generalize sq 7 = x7 at *
   generalize sq 8 = x8 at *
   generalize sq 9 = x9 at *
   generalize sq 10 = x10 at *
   generalize sq 11 = x11 at *
   generalize sq 12 = x12 at *
   generalize sq 13 = x13 at *
   generalize sq 14 = x14 at *
   generalize sq 15 = x15 at *
   obtain rfl := d14
   obtain rfl := d15
   go_wp2_with fail
   refine bodyPost_ret (v := .tuple #[.int .i64 vd, .int .i64 (i : Int)]) (by simp [results, Tryz.results150, go_sem]) rfl ?_
   refine ⟨?_, below_next HB.out hJ⟩
   rw [HT.out, ← HXT.out, HZ.out, HVD.out]
end Go.Proofs.YtepddbfafdfadaaGreat
namespace Go.Proofs.YtepddbfafdfadaaGreat
open Go.RowKit Go.Sort
theorem ret_slice {A : Option Addr} {a b c : Nat} (h : a = b) : Ending.returned (.slice A a c) = .returned (.slice A b c) := by rw [h]
theorem src_dropE {w : World} {g : Nat} {n : Nat} {es : List Ent} (h : RdE w (some ⟨g, 0, none⟩) n es) (k m : Nat) (hm : m = n - k) (D : Option Addr) (hD : k < n → D = some ⟨g, k * 2, none⟩) : Src w 2 D m (cellsE (es.drop k)) := by
 subst hm
 refine ⟨by rw [cellsE_length, List.length_drop, h.1], fun hm => ?_⟩
 refine ⟨_, hD (by omega), fun j u hu => ?_⟩
 rw [← cellsE_drop, List.getElem?_drop] at hu
 obtain ⟨ad, had, hcell⟩ := (Src.ents h).2 (by omega)
 injection had with had
 subst had
 have := hcell _ u hu
 rw [Addr.add_lit] at this ⊢
 simpa using this
set_option maxRecDepth 100000 in
set_option maxHeartbeats 2000000 in
theorem delete_any (B : Nat) (A : Option Addr) (n c k K : Nat) (es : List Ent) (w : World) (h : OwE B w A n c es) (hk : k < n) (hK : K = k + 1) (hn : n ≤ 1099511627776) (hB : B ≤ w.heap.size) :
  Calls Tryz.prog 124 #[.slice A n c, .int .i64 k, .int .i64 K] w fun e w' => e = .returned (.slice A (n - 1) c) ∧ OwE B w' A (n - 1) c (es.take k ++ es.drop (k + 1)) ∧ Below B w w' := by
 obtain ⟨i0, hi0, hz0, hz1, hz2⟩ := info_parts infoE
 have HI := Lib.hid hi0
 have HZ := Lib.hid hz0
 have HS := Lib.hid hz1
 have HBY := Lib.hid hz2
 clear hi0 hz0 hz1 hz2
 have hle := h.le
 obtain ⟨g, cur, rfl, hBg, hb, _, hcm, hsz, htk⟩ := h.blk (by omega)
 have HO := Lib.hid h
 have q0 : (k : Int) ≤ K := by omega
 have q1 : (K : Int) ≤ n := by omega
 have q2 : (n : Int) ≤ c := by omega
 have q3 : ¬ (k : Int) = K := by omega
 have q4 : k ≤ c := by omega
 have q5 : (k : Int) ≤ n := by omega
 have q6 : ((k : Int) == K) = false := by simp; omega
 obtain ⟨D, hD⟩ : ∃ D, (if c = K then some (⟨g, 0, none⟩ : Addr) else some ⟨g, K * 2, none⟩) = D := ⟨_, rfl⟩
 obtain ⟨m, hm⟩ : ∃ m, m = n - 1 := ⟨_, rfl⟩
 have hkm : k + (n - K) = m := by omega
 have r0 : (m : Int) ≤ n := by omega
 have r1 : ¬ c = m := by omega
 have r2 : n - m = 1 := by omega
 have r3 : m ≤ c := by omega
 have r4 : m * 2 + 1 < c * 2 := by omega
 have r5 : m < n := by omega
 have HM := Lib.hid hm
 clear hm
 have hrow : Ow B w 67 2 (some ⟨g, 0, none⟩) k c (cellsE (es.take k)) := by
  refine Ow.mk_ (by rw [cellsE_length, List.length_take, h.rdE.len]; omega) hBg hb (by omega) hcm hsz ?_
  rw [← cellsE_take, ← htk, List.take_take, Nat.min_eq_left (by omega)]
 have HRow := Lib.hid hrow
 have HSrc := Lib.hid (src_dropE h.rdE K (n - K) rfl D (fun hh => by rw [← hD, if_neg (by omega)]))
 have hmm : k + (n - K) ≤ c := by omega
 have hm8 : n - K ≤ n := by omega
 have HK := Lib.hid hK
 clear hK h hrow
 go_enter Tryz.func124, Tryz.ntmps124
 go_wp2_with fail
 go_cut [0] (fun s0 wx => s0 = .slice (some ⟨g, 0, none⟩) m c ∧ Hid (OwE B wx (some ⟨g, 0, none⟩) m c (es.take k ++ es.drop K)) ∧ Hid (w.grownBy wx (some g)))
 case first =>
  go_still_tail 6, (by kernel_rfl)
  refine wpList_append_in _ rfl (.tmp 22) (.tmp 25) _ rfl B 67 i0 _ 2 16 Tryz.underlying56 HI.out HZ.out HS.out HBY.out rfl (by omega) _ k c _ rfl (Ow.drew HRow.out) D (n - K) _ _ rfl HSrc.out.drew (cellsE_one _) (by unfold maxLen; omega) (by omega) hB hmm ?_
  intro w5 hO5 hg5
  all_goals
   rw [hkm] at hO5
   have h1 : ownB (some (⟨g, 0, none⟩ : Addr)) c = some g := by unfold ownB; rw [if_neg (by omega)]; rfl
   rw [h1] at hg5
   have HO5 := Lib.hid hO5
   have HG5 := Lib.hid hg5
   clear h1 hO5 hg5
   go_wp2_with fail
   go_meet
   exact ⟨rfl, by have := HO5.out; rw [← cellsE_append] at this; exact this, ⟨HG5.out.os, HG5.out.tape, HG5.out.output, HG5.out.size, HG5.out.block⟩⟩
 case rest =>
  obtain ⟨rfl, HO5, HG5⟩ := hcut
  obtain ⟨g', cur', hgg, _, hb', _, _, hsz', htk'⟩ := HO5.out.blk (by omega)
  injection hgg with hgg
  injection hgg with hgg
  subst hgg
  have HB' := Lib.hid hb'
  have HTK := Lib.hid htk'
  have HCL := Lib.hid (clear_one g (m * 2) (c - m) 0 wc (cur'[m * 2]'(by omega)) (cur'[m * 2 + 1]'(by omega)) ((hb'.cell _).trans (Array.getElem?_eq_getElem _)) ((hb'.cell _).trans (Array.getElem?_eq_getElem _)) (hb'.frozen _) (hb'.frozen _))
  have hcl := HCL.out
  clear hkm hb' htk' HCL
  go_wp2_with fail
  go_ret
  have hW : Below B wc ((wc.setCell ⟨g, m * 2, none⟩ (.int .i64 0)).setCell ⟨g, m * 2 + 1, none⟩ (.int .i64 0)) := ((Below.refl _ _).setCell hBg _).setCell hBg _
  refine ⟨ret_slice HM.out, ?_, ?_⟩
  ·rw [← HM.out, ← HK.out]
   refine Ow.mk_ ?_ hBg ((HB'.out.set_ _ _).set_ _ _) r3 hcm (by simpa using hsz') ?_
   ·exact HO5.out.len
   ·rw [← HTK.out]
    apply List.ext_getElem?
    intro j
    rw [List.getElem?_take, List.getElem?_take]
    split
    ·simp only [Array.getElem?_toList, Array.getElem?_setIfInBounds]
     rw [if_neg (by omega), if_neg (by omega)]
    ·rfl
  ·have h0 : Below B w wc := ⟨HG5.out.os, HG5.out.tape, HG5.out.output, HG5.out.size, fun i hi => HG5.out.block i (by omega) (by intro e; injection e with e; omega)⟩
   exact (h0.setCell hBg _).setCell hBg _
end Go.Proofs.YtepddbfafdfadaaGreat
namespace Go.Proofs.YtepddbfafdfadaaGreat
open Go.RowKit Go.Sort
def scoreE (p : Int) : List Ent → Int
 | [] => -1
 | e :: r => if e.1 = p then e.2 else scoreE p r
theorem scoreE_step (p : Int) (es : List Ent) (k : Nat) (e : Ent) (he : es[k]? = some e) : scoreE p (es.drop k) = if e.1 = p then e.2 else scoreE p (es.drop (k + 1)) := by
 have hk : k < es.length := (List.getElem?_eq_some_iff.1 he).1
 rw [List.drop_eq_getElem_cons hk, scoreE]
 have : es[k] = e := (List.getElem?_eq_some_iff.1 he).2
 rw [this]
set_option maxHeartbeats 1000000 in
theorem scoreOf_any (A : Option Addr) (n c : Nat) (es : List Ent) (p : Int) (w : World) (hr : RdE w A n es) (hn : n ≤ 1099511627776) :
  Calls Tryz.prog 39 #[.slice A n c, .int .i64 p] w fun e w' => e = .returned (.int .i64 (scoreE p es)) ∧ w' = w := by
 have HR := Lib.hid hr; clear hr
 go_enter Tryz.func39, Tryz.ntmps39
 go_wp2
 go_loopw [5] (fun i wr => wr = w ∧ ∃ k : Nat, k ≤ n ∧ i = .int .i64 k ∧ Hid (scoreE p es = scoreE p (es.drop k))) (fun i _ => n - (intOf i).toNat)
 case atStart => exact ⟨rfl, 0, Nat.zero_le _, rfl, rfl⟩
 case round =>
  obtain ⟨rfl, k, hk, rfl, HS⟩ := hrel
  by_cases hlt : k < n
  ·obtain ⟨b, off, e, rfl, hb, he, h0, h1⟩ := HR.out.at_ hlt
   have HST := Lib.hid (scoreE_step p es k e he)
   clear he
   by_cases hp : e.1 = p
   ·have hq : (e.1 == p) = true := by simpa using hp
    have HE : Hid (scoreE p es = e.2) := by
     show _ = _
     rw [HS.out, HST.out, if_pos hp]
    clear hp
    go_wp2
    go_ret
    exact ⟨ret_int HE.out.symm, rfl⟩
   ·have hq : (e.1 == p) = false := by simpa using hp
    have HE : Hid (scoreE p es = scoreE p (es.drop (k + 1))) := by
     show _ = _
     rw [HS.out, HST.out, if_neg hp]
    clear hp
    go_wp2
    exact ⟨⟨trivial, k + 1, by omega, by go_num, HE⟩, by simp [intOf]; omega⟩
  ·go_wp2
   go_ret
   refine ⟨ret_int ?_, rfl⟩
   rw [HS.out, List.drop_eq_nil_of_le (by rw [HR.out.len]; omega)]
   rfl
theorem findE_bd (p : Int) : ∀ (es : List Ent) (j : Int), findE p es j = -1 ∨ (j ≤ findE p es j ∧ findE p es j < j + es.length)
 | [], j => .inl rfl
 |x :: r, j => by
  have := findE_bd p r (j + 1)
  simp only [findE, List.length_cons]
  split
  ·exact .inr (by omega)
  ·rcases this with h | h
   ·exact .inl h
   ·exact .inr (by omega)
theorem findE_none (p : Int) : ∀ (es : List Ent) (j : Int), 0 ≤ j → findE p es j = -1 → scoreE p es = -1
 | [], j, _, _ => rfl
 |x :: r, j, hj, h => by
  simp only [findE] at h
  simp only [scoreE]
  split at h
  ·omega
  ·rename_i hne
   rw [if_neg hne]
   exact findE_none p r (j + 1) (by omega) h
theorem findE_get (p : Int) : ∀ (es : List Ent) (j : Int) (k : Nat), 0 ≤ j → findE p es j = j + k → ∃ e, es[k]? = some e ∧ e.1 = p
 | [], j, k, hj, h => by simp [findE] at h; omega
 |x :: r, j, k, hj, h => by
  simp only [findE] at h
  split at h
  ·rename_i he
   obtain rfl : k = 0 := by omega
   exact ⟨x, rfl, he⟩
  ·have hb := findE_bd p r (j + 1)
   cases k with
   | zero => omega
   | succ k =>
    obtain ⟨e, h1, h2⟩ := findE_get p r (j + 1) k (by omega) (by rw [h]; push_cast; omega)
    exact ⟨e, by simpa using h1, h2⟩
end Go.Proofs.YtepddbfafdfadaaGreat
namespace Go.Proofs.YtepddbfafdfadaaGreat
open Go.RowKit Go.Sort
def removeE (es : List Ent) (p : Int) : List Ent × Bool := if validE es then (withoutE p es, decide (0 ≤ findE p es 0)) else ([], false)
end Go.Proofs.YtepddbfafdfadaaGreat
namespace Go.Proofs.YtepddbfafdfadaaGreat
open Go.RowKit Go.Sort
theorem findE_neg (p : Int) : ∀ (es : List Ent) (j : Int), 0 ≤ j → findE p es j < 0 → ∀ e ∈ es, e.1 ≠ p
 | [], _, _, _, e, he => by cases he
 |x :: r, j, hj, h, e, he => by
  simp only [findE] at h
  split at h
  ·omega
  ·rename_i hne
   rcases List.mem_cons.1 he with rfl | h1
   ·exact hne
   ·exact findE_neg p r (j + 1) (by omega) h e h1
theorem findE_no (p : Int) : ∀ (es : List Ent) (j : Int), (∀ e ∈ es, e.1 ≠ p) → findE p es j = -1
 | [], _, _ => rfl
 |x :: r, j, h => by
  simp only [findE]
  rw [if_neg (h x (List.mem_cons_self ..))]
  exact findE_no p r (j + 1) fun e he => h e (List.mem_cons_of_mem _ he)
theorem validE_sorted_step {es : List Ent} (h : validE es = true) {k : Nat} {d e : Ent} (hd : es[k]? = some d) (he : es[k + 1]? = some e) : d.2 ≤ e.2 := by
 have h1 := validE_at h (List.getElem?_eq_some_iff.1 he).1
 simp [vriE, he, prevE, hd] at h1
 omega
theorem validE_sorted {es : List Ent} (h : validE es = true) : ∀ (n k : Nat) (d e : Ent), es[k]? = some d → es[k + n]? = some e → d.2 ≤ e.2
 |0, k, d, e, hd, he => by
  rw [Nat.add_zero, hd] at he
  injection he with he
  rw [he]; exact Int.le_refl _
 |n + 1, k, d, e, hd, he => by
  have hlt := (List.getElem?_eq_some_iff.1 he).1
  have hm : es[k + 1]? = some es[k + 1] := List.getElem?_eq_getElem (by omega)
  exact Int.le_trans (validE_sorted_step h hd hm) (validE_sorted h n (k + 1) _ e hm (by rw [show k + 1 + n = k + (n + 1) by omega]; exact he))
def Good (es : List Ent) : Prop := es.length ≤ 4 ∧ (∀ e ∈ es, okE e = true) ∧ es.Pairwise (fun a b => a.1 ≠ b.1) ∧ es.Pairwise (fun a b => a.2 ≤ b.2)
theorem Good.of {es : List Ent} (h : validE es = true) : Good es := by
 refine ⟨validE_len h, fun e he => ?_, ?_, ?_⟩
 ·obtain ⟨k, hk, rfl⟩ := List.getElem_of_mem he
  exact validE_ok h (List.getElem?_eq_getElem hk)
 ·rw [List.pairwise_iff_getElem]
  intro i j hi hj hij
  have h1 := validE_at h hj
  simp only [vriE, List.getElem?_eq_getElem hj, Bool.and_eq_true, Bool.not_eq_true', decide_eq_false_iff_not] at h1
  refine findE_neg _ (es.take j) 0 (Int.le_refl _) (by omega) _ ?_
  rw [List.mem_iff_getElem?]
  exact ⟨i, by rw [List.getElem?_take, if_pos hij]; exact List.getElem?_eq_getElem hi⟩
 ·rw [List.pairwise_iff_getElem]
  intro i j hi hj hij
  exact validE_sorted h (j - i) i _ _ (List.getElem?_eq_getElem hi) (by rw [show i + (j - i) = j by omega]; exact List.getElem?_eq_getElem hj)
theorem Good.valid {es : List Ent} (h : Good es) : validE es = true := by
 obtain ⟨h1, h2, h3, h4⟩ := h
 rw [List.pairwise_iff_getElem] at h3 h4
 have hv : valliE es = true := valliE_true fun j hj => by
  have hn : findE (es[j]).1 (es.take j) 0 = -1 := findE_no _ _ 0 fun e he => by
   obtain ⟨i, hi⟩ := List.mem_iff_getElem?.1 he
   rw [List.getElem?_take] at hi
   split at hi
   ·rename_i hij
    obtain ⟨hil, rfl⟩ := List.getElem?_eq_some_iff.1 hi
    exact h3 i j hil hj hij
   ·cases hi
  simp only [vriE, List.getElem?_eq_getElem hj, h2 _ (List.getElem_mem hj), hn, Bool.true_and]
  rcases Nat.eq_zero_or_pos j with h0 | h0
  ·simp [h0]
  ·have hp : prevE es j = (es[j - 1]).2 := by simp [prevE, List.getElem?_eq_getElem (show j - 1 < es.length by omega)]
   have := h4 (j - 1) j (by omega) hj (by omega)
   rw [hp]
   simp
   omega
 simp [validE, hv]
 omega
end Go.Proofs.YtepddbfafdfadaaGreat
namespace Go.Proofs.YtepddbfafdfadaaGreat
open Go.RowKit Go.Sort
theorem without_none {p : Int} {es : List Ent} (h : findE p es 0 < 0) : withoutE p es = es := by
 unfold withoutE
 rw [List.filter_eq_self]
 intro e he
 have := findE_neg p es 0 (Int.le_refl _) h e he
 simpa using this
theorem without_at {p : Int} {es : List Ent} (hv : validE es = true) {k : Nat} {e : Ent} (he : es[k]? = some e) (hp : e.1 = p) : withoutE p es = es.take k ++ es.drop (k + 1) := by
 have h3 := (Good.of hv).2.2.1
 have hk := (List.getElem?_eq_some_iff.1 he).1
 have hek := (List.getElem?_eq_some_iff.1 he).2
 have hs : es = es.take k ++ e :: es.drop (k + 1) := by rw [← hek, ← List.drop_eq_getElem_cons hk, List.take_append_drop]
 rw [hs, List.pairwise_append, List.pairwise_cons] at h3
 obtain ⟨_, ⟨h5, _⟩, h6⟩ := h3
 conv => lhs; rw [hs]
 unfold withoutE
 rw [List.filter_append, List.filter_cons, if_neg (by simp [hp])]
 congr 1
 ·rw [List.filter_eq_self]
  intro a ha
  have := h6 a ha e (List.mem_cons_self ..)
  rw [hp] at this
  simpa using this
 ·rw [List.filter_eq_self]
  intro a ha
  have := h5 a ha
  rw [hp] at this
  simpa using fun h => this h.symm
def RemovePost (B : Nat) (es : List Ent) (p : Int) (w : World) (e : Ending) (w' : World) : Prop :=
 ∃ A' c', e = .returned (.tuple #[.slice A' (removeE es p).1.length c', .bool (removeE es p).2]) ∧ OwE B w' A' (removeE es p).1.length c' (removeE es p).1 ∧ Below B w w'
set_option maxHeartbeats 1000000 in
theorem implBoardRemove_any (A : Option Addr) (n c : Nat) (es : List Ent) (p : Int) (w : World) (hr : RdE w A n es) (hn : n ≤ 1099511627776) (hc : n ≤ c) :
  Calls Tryz.prog 88 #[.slice A n c, .int .i64 p] w (RemovePost w.heap.size es p w) := by
 have HR := Lib.hid hr
 clear hr
 go_enter Tryz.func88, Tryz.ntmps88
 go_wp2_with fail
 refine (implBoardValid_v _ _ _ _ _ HR.out hn hc).mono ?_
 rintro e w1 ⟨rfl, hB1⟩
 have HB1 := Lib.hid hB1
 clear hB1
 cases hv : validE es with
 | false =>
  have hfin : removeE es p = ([], false) := by simp [removeE, hv]
  have HF := Lib.hid hfin
  clear hfin
  go_wp2
  go_ret2
  unfold RemovePost
  rw [HF.out]
  exact ⟨_, 0, rfl, Ow.bare _ _ _ _ _, HB1.out⟩
 | true =>
  have HV := Lib.hid hv
  clear hv
  go_wp2_with fail
  refine (placeOf_any _ _ _ _ _ _ (HR.out.below HB1.out) hn).mono ?_
  rintro e w2 ⟨rfl, hB2⟩
  have HB2 := Lib.hid (below_next HB1.out hB2)
  have HR2 := Lib.hid (HR.out.below HB2.out)
  clear hB2
  by_cases hf : findE p es 0 < 0
  ·have hfin : removeE es p = (es, false) := by simp [removeE, HV.out, without_none hf]; omega
   have HF := Lib.hid hfin
   clear hfin
   go_wp2_with fail
   refine (clone_any _ _ _ _ _ HR2.out hn).mono ?_
   rintro e w3 ⟨A3, c3, rfl, hO3, hB3⟩
   have HO3 := Lib.hid (hO3.mono HB2.out.size)
   have HB3 := Lib.hid (below_next HB2.out hB3)
   clear hO3 hB3
   go_wp2
   go_ret2
   unfold RemovePost
   rw [HF.out]
   exact ⟨A3, c3, by rw [HR.out.len]; rfl, by rw [HR.out.len]; exact HO3.out, HB3.out⟩
  ·obtain ⟨k, e, hk, he, hp⟩ := findE_ok (Int.not_lt.1 hf)
   have hkn : k < n := by have := (List.getElem?_eq_some_iff.1 he).1; rw [HR.out.len] at this; exact this
   have hwi := without_at HV.out he hp
   have hfin : removeE es p = (es.take k ++ es.drop (k + 1), true) := by simp [removeE, HV.out, hwi]; omega
   have hlen : (es.take k ++ es.drop (k + 1)).length = n - 1 := by
    rw [List.length_append, List.length_take, List.length_drop, HR.out.len]; omega
   obtain ⟨K, hK⟩ : ∃ K, K = k + 1 := ⟨_, rfl⟩
   have q1 : IntKind.i64.wrap ((k : Int) + 1) = (K : Int) := by rw [IntWalk.i64_in _ (by omega), hK]; push_cast; rfl
   have q2 : ¬ (k : Int) < 0 := by omega
   have HF := Lib.hid hfin
   have HL := Lib.hid hlen
   have HK := Lib.hid hK
   clear he hp hwi hfin hlen hK hf
   rw [hk]
   clear hk
   go_wp2_with fail
   refine (clone_any _ _ _ _ _ HR2.out hn).mono ?_
   rintro e w3 ⟨A3, c3, rfl, hO3, hB3⟩
   have HO3 := Lib.hid hO3
   have HB3 := Lib.hid hB3
   have hs3 := hB3.size
   clear hO3 hB3
   go_wp2_with fail
   refine (delete_any w2.heap.size A3 n c3 k K es w3 HO3.out hkn HK.out hn hs3).mono ?_
   rintro e w4 ⟨rfl, hO4, hB4⟩
   have HO4 := Lib.hid (hO4.mono HB2.out.size)
   have HB4 := Lib.hid (HB2.out.trans ((HB3.out.trans hB4).mono HB2.out.size))
   clear hO4 hB4
   go_wp2
   go_ret2
   unfold RemovePost
   rw [HF.out]
   exact ⟨A3, c3, by rw [HL.out]; rfl, by rw [HL.out]; exact HO4.out, HB4.out⟩
end Go.Proofs.YtepddbfafdfadaaGreat

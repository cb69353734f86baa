/-
  Lemmas and contracts: Ey. No condition.
-/
import Derived.Test.YtemnlheidghbmaaGreatKc37
import Derived.Test.YtemnlheidghbmaaGreatKc39
namespace Go.Proofs.YtemnlheidghbmaaGreat
open Go.RowKit Go.Sort
def SvOutT (w : World) (e : Ending) (w' : World) : Prop := ∃ (t k g : Sl) (S : Svc) (p : Int), e = .returned (.tuple #[svV t k g, .int .i64 p]) ∧ RdS w' t k g S ∧ -1 ≤ p ∧ p ≤ 99 ∧ Below w.heap.size w w'
def TJ (g R Sb : Nat) (W : World) (t k gg : Sl) (S : Svc) (l2 l9 l14 : Bool) (w' : World) : Prop :=
 ((l9 = true → l2 = true) ∧ (l9 = false → ∃ q, (l2 = false → q ≤ 900000) ∧ q ≤ 1000000 ∧ Rdr w' g q)) ∧ Below W.heap.size W w' ∧ Blk w' Sb 26 (svC t k gg) ∧ DS g R w' t k gg S ∧
  (∃ t0 k0 g0, Blk w' R 26 (svC t0 k0 g0)) ∧ (l14 = true → ∃ t2 k2 g2 S2, Blk w' R 26 (svC t2 k2 g2) ∧ DS g R w' t2 k2 g2 S2)
set_option maxRecDepth 100000 in
set_option maxHeartbeats 4000000 in
theorem drawServiceTop_any (A : Option Addr) (n c : Nat) (zs : List Int) (w : World) (h : Bys w A n c zs) : Calls Tryz.prog 13 #[.slice A n c] w (SvOutT w) := by
 obtain ⟨hr, hz, hn, hc⟩ := h
 have HR := Lib.hid hr
 have HZS := Lib.hid hz
 clear hr hz
 go_enter Tryz.func13, Tryz.ntmps13
 go_wp2_with fail
 refine (l6Open_any _ _ _ zs _ (HR.out.below (ba (Below.refl _ _))) HZS.out hn hc).mono ?_
 rintro e w1 ⟨g, rfl, hg, hR1, hb1⟩
 simp only [World.size_alloc] at hg
 have hgl := hR1.lt
 have n0 : w.heap.size ≠ g := by omega
 have KR := Lib.hid ((Blk.new w 26 (svC sl0 sl0 sl0)).next hb1)
 have HB := Lib.hid (show Below w.heap.size w w1 from ba hb1)
 have HR1 := Lib.hid hR1
 clear hb1 hR1
 go_wp2_with fail
 refine (l92Service_any g 0 _ HR1.out (by omega)).mono ?_
 rintro e w2 ⟨t, k, gg, S, sx, q, rfl, ho, hid, _, hq, hD⟩
 have hz2 := hD.2.size
 replace HB := Lib.hid (HB.out.trans (hD.2.below (by omega) (by omega)))
 replace KR := Lib.hid (KR.out.only hD.2 n0)
 have HRD := Lib.hid hD.1
 have HO := Lib.hid ho
 have HID := Lib.hid hid
 clear hD ho hid
 go_upto_region 3 with (fail)
 refine into_world (fun Y => Rdr Y g q ∧ Below w.heap.size w Y ∧ Blk Y w.heap.size 26 (svC sl0 sl0 sl0) ∧ Blk Y w2.heap.size 26 (svC t k gg) ∧ OwS (g + 1) w2.heap.size Y t k gg S) ⟨HRD.out.next (ba (Below.refl _ _)), HB.out.alloc HB.out.size _, KR.out.alloc _, Blk.new _ _ _, HO.out.next (ba (Below.refl _ _))⟩ ?_
 rintro Y ⟨hR, hB, hKR, hKS, ho⟩
 replace HRD := Lib.hid hR
 replace HB := Lib.hid hB
 replace KR := Lib.hid hKR
 have KS := Lib.hid hKS
 replace HO := Lib.hid ho
 clear hR hB hKR hKS ho
 have HDS := Lib.hid (DS.of (q := g) (r := w.heap.size) HO.out (by omega) (by omega))
 have hgY := HRD.out.lt
 have hsY := KS.out.lt
 have n1 : w2.heap.size ≠ g := by omega
 obtain ⟨ta, tn, tc⟩ := t
 rcases Nat.eq_zero_or_pos tn with rfl | htn
 ·have cs := fun o => KS.out.cell o
  have fs := fun o => KS.out.frozen o
  have zs := KS.out.lt
  go_upto_region 5 with (fail)
  clear cs fs zs
  have cs := fun o => KS.out.cell o
  have fs := fun o => KS.out.frozen o
  have zs := KS.out.lt
  go_wp2_with fail
  refine (l92Ruined_any g _ w.heap.size _ k gg S _ HRD.out (by omega) HDS.out (by omega) HID.out).mono ?_
  rintro e w3 ⟨t2, k2, g2, S2, q2, rfl, hds, hq2, hD⟩
  have hz3 := hD.2.size
  replace HB := Lib.hid (HB.out.trans (hD.2.below (by omega) (by omega)))
  replace KR := Lib.hid (KR.out.only hD.2 n0)
  replace HRD := Lib.hid hD.1
  replace HDS := Lib.hid hds
  clear hds hD cs fs zs
  go_wp2_with fail
  refine (pick_any g 10 _ _ HRD.out (by omega)).mono ?_
  rintro e w4 ⟨v4, rfl, a4, b4, hR, hO⟩
  have c4 := b4 (by omega)
  replace HB := Lib.hid (HB.out.trans (hO.below (by omega) (by omega)))
  replace KR := Lib.hid (KR.out.only hO n0)
  replace HDS := Lib.hid (HDS.out.only hO)
  clear b4 hR hO
  have cr := fun o => KR.out.cell o
  have fr := fun o => KR.out.frozen o
  have zr := KR.out.lt
  go_wp2_with fail
  refine bodyPost_ret (v := .tuple #[svV t2 k2 g2, .int .i64 (v4 - 1)]) (by simp [results, Tryz.results13, go_sem, cr]) rfl ?_
  exact ⟨t2, k2, g2, S2, _, rfl, (HDS.out.step (Kp.of_only2 (only_set3 _ _ _ _ _) g)).rd, by omega, by omega, below_set3 HB.out (Nat.le_refl _)⟩
 have htn' : (0 : Int) < tn := by omega
 have cs := fun o => KS.out.cell o
 have fs := fun o => KS.out.frozen o
 have zs := KS.out.lt
 go_wp2_with fail
 refine (pick_any g 4 _ _ HRD.out (by omega)).mono ?_
 rintro e w9 ⟨v9, rfl, a9, b9, hR, hO⟩
 have c9 := b9 (by omega)
 have hz9 := hO.size
 replace HB := Lib.hid (HB.out.trans (hO.below (by omega) (by omega)))
 replace KR := Lib.hid (KR.out.only hO n0)
 replace KS := Lib.hid (KS.out.only hO n1)
 replace HO := Lib.hid (HO.out.only hO (Nat.lt_succ_self g))
 replace HRD := Lib.hid hR
 replace HDS := Lib.hid (HDS.out.only hO)
 clear b9 hR hO cs fs zs
 by_cases h0 : 0 < v9
 rotate_left
 ·have h0' : decide (0 < v9) = false := by simpa using h0
  go_upto_region 5 with (fail)
  have cs := fun o => KS.out.cell o
  have fs := fun o => KS.out.frozen o
  have zs := KS.out.lt
  go_wp2_with fail
  refine (l92Ruined_any g _ w.heap.size _ k gg S _ HRD.out (by omega) HDS.out (by omega) HID.out).mono ?_
  rintro e w3 ⟨t2, k2, g2, S2, q2, rfl, hds, hq2, hD⟩
  have hz3 := hD.2.size
  replace HB := Lib.hid (HB.out.trans (hD.2.below (by omega) (by omega)))
  replace KR := Lib.hid (KR.out.only hD.2 n0)
  replace HRD := Lib.hid hD.1
  replace HDS := Lib.hid hds
  clear hds hD cs fs zs
  go_wp2_with fail
  refine (pick_any g 10 _ _ HRD.out (by omega)).mono ?_
  rintro e w4 ⟨v4, rfl, a4, b4, hR, hO⟩
  have c4 := b4 (by omega)
  replace HB := Lib.hid (HB.out.trans (hO.below (by omega) (by omega)))
  replace KR := Lib.hid (KR.out.only hO n0)
  replace HDS := Lib.hid (HDS.out.only hO)
  clear b4 hR hO
  have cr := fun o => KR.out.cell o
  have fr := fun o => KR.out.frozen o
  have zr := KR.out.lt
  go_wp2_with fail
  refine bodyPost_ret (v := .tuple #[svV t2 k2 g2, .int .i64 (v4 - 1)]) (by simp [results, Tryz.results13, go_sem, cr]) rfl ?_
  exact ⟨t2, k2, g2, S2, _, rfl, (HDS.out.step (Kp.of_only2 (only_set3 _ _ _ _ _) g)).rd, by omega, by omega, below_set3 HB.out (Nat.le_refl _)⟩
 have h0' : decide (0 < v9) = true := by simpa using h0
 obtain ⟨b, off, rfl⟩ : ∃ b off, ta = some ⟨b, off, none⟩ := by
  obtain ⟨⟨xs, _, hts⟩, _⟩ := HDS.out.rd
  obtain ⟨b, off, _, h, _⟩ := RdTs.cells hts htn
  exact ⟨b, off, h⟩
 go_upto_region 4 with (fail)
 have HID2 := Lib.hid HID.out.2.2
 have hJ0 := Lib.hid (show TJ g w.heap.size w2.heap.size w ⟨some ⟨b, off, none⟩, tn, tc⟩ k gg S false false false w9 from ⟨⟨fun h => (by cases h), fun _ => ⟨_, fun _ => (by omega), (by omega), HRD.out⟩⟩, HB.out, KS.out, HDS.out, ⟨_, _, _, KR.out⟩, fun h => (by cases h)⟩)
 refine wp_region_growl 15 (by kernel_rfl) (by kernel_rfl) (by kernel_rfl) (fun a b => Kp g w.heap.size a b) (fun lq w' => TJ g w.heap.size w2.heap.size w ⟨some ⟨b, off, none⟩, tn, tc⟩ k gg S (lq 2) (lq 9) (lq 14) w') (fun iq v w' => match iq with | 0 => (v = .pointer (some ⟨g, 0, none⟩)) | 1 => (v = svV ⟨some ⟨b, off, none⟩, tn, tc⟩ k gg) | 2 => (∃ (t2 k2 g2 : Sl) (S2 : Svc), v = svV t2 k2 g2 ∧ DS g w.heap.size w' t2 k2 g2 S2) | 3 => (v = .pointer (some ⟨w2.heap.size, 0, none⟩)) | 4 => (v = .slice (some ⟨b, off, none⟩) tn tc) | 5 => (v = .pointer (some ⟨g, 0, none⟩)) | 6 => (v = .pointer (some ⟨w2.heap.size, 0, none⟩)) | 7 => (v = .slice (some ⟨b, off, none⟩) tn tc) | 8 => (v = .int .i64 tn) | 9 => (∃ m : Nat, m < tn ∧ v = .int .i64 m) | 10 => (∃ m : Nat, m < tn ∧ v = .pointer (some ⟨b, off + m * 12, none⟩)) | 11 => (∃ m : Nat, m < tn ∧ v = .pointer (some ⟨b, off + m * 12, none⟩)) | 12 => (∃ m : Nat, m < tn ∧ v = .pointer (some ⟨b, off + m * 12, none⟩)) | 13 => (∃ z : Int, v = .int .i64 z ∧ -1 ≤ z ∧ z ≤ 99) | 14 => (True) | _ => True) (fun sq => { tmps := #[Value.slice A n c, undef, Value.pointer (some (⟨w.heap.size, 0, none⟩ : Addr)), Value.int .i64 0, Value.pointer (some (⟨g, 0, none⟩ : Addr)), Value.pointer (some (⟨w2.heap.size, 0, none⟩ : Addr)), Value.string sx, Value.slice A n c, Value.pointer (some (⟨g, 0, none⟩ : Addr)), Value.tuple #[svV ⟨some ⟨b, off, none⟩, tn, tc⟩ k gg, Value.string sx], Value.pointer (some (⟨g, 0, none⟩ : Addr)), Value.tuple #[svV ⟨some ⟨b, off, none⟩, tn, tc⟩ k gg, Value.string sx], svV ⟨some ⟨b, off, none⟩, tn, tc⟩ k gg, Value.string sx, Value.pointer (some (⟨w2.heap.size, 0, none⟩ : Addr)), Value.slice (some ⟨b, off, none⟩) tn tc, Value.int .i64 (tn : Int), Value.bool true, Value.bool true, Value.pointer (some (⟨g, 0, none⟩ : Addr)), Value.int .i64 v9, Value.bool true, Value.bool true, sq 0, sq 1, sq 2, sq 3, sq 4, sq 5, sq 6, sq 7, sq 8, sq 9, sq 10, sq 11, sq 12, sq 13, undef, undef, undef, undef, undef, undef], defers := [] }) (fun _ => undef) ?_ ?_ ?_ ?_
 ·rintro iq v a b hg h
  match iq, h with
  | 0, h => exact h
  | 1, h => exact h
  | 2, h => exact (by obtain ⟨t2, k2, g2, S2, rfl, hds⟩ := h; exact ⟨t2, k2, g2, S2, rfl, hds.step hg⟩)
  | 3, h => exact h
  | 4, h => exact h
  | 5, h => exact h
  | 6, h => exact h
  | 7, h => exact h
  | 8, h => exact h
  | 9, h => exact h
  | 10, h => exact h
  | 11, h => exact h
  | 12, h => exact h
  | 13, h => exact h
  | 14, h => exact h
  | (kq + 15), _ => exact trivial
 ·exact (by obtain ⟨h1, h2, h3, h4, h5, h6⟩ := hJ0.out; have hd : Below w9.heap.size w9 w9.drew := ⟨rfl, rfl, rfl, Nat.le_refl _, fun _ _ => rfl⟩; exact ⟨⟨fun h => (by cases h), fun h => (h1.2 h).imp fun q h => ⟨h.1, h.2.1, h.2.2.next hd⟩⟩, below_next h2 hd, h3.next hd, h4.next hd, ⟨_, _, _, KR.out.next hd⟩, fun h => (by cases h)⟩)
 ·intro lq sq w' iq oq hmq hiq hoq hJ hd Kq hK
  have hiq' : iq = 0 ∨ iq = 1 ∨ iq = 2 ∨ iq = 3 ∨ iq = 4 ∨ iq = 5 ∨ iq = 6 ∨ iq = 7 ∨ iq = 8 ∨ iq = 9 ∨ iq = 10 ∨ iq = 11 ∨ iq = 12 ∨ iq = 13 ∨ iq = 14 := by omega
  rcases hiq' with rfl | rfl | rfl | rfl | rfl | rfl | rfl | rfl | rfl | rfl | rfl | rfl | rfl | rfl | rfl
  ·cases (show some _ = some oq from hoq)
   have hK' := hK
   simp only [updV, updB, Nat.reduceEqDiff, ↓reduceIte] at hK'
   clear hK hd
   generalize sq 0 = x0 at *
   generalize sq 1 = x1 at *
   generalize sq 2 = x2 at *
   generalize sq 3 = x3 at *
   generalize sq 4 = x4 at *
   generalize sq 5 = x5 at *
   generalize sq 6 = x6 at *
   generalize sq 7 = x7 at *
   generalize sq 8 = x8 at *
   generalize sq 9 = x9 at *
   generalize sq 10 = x10 at *
   generalize sq 11 = x11 at *
   generalize sq 12 = x12 at *
   generalize sq 13 = x13 at *
   generalize sq 14 = x14 at *
   go_simp
   exact hK' _ _ (Kp.refl _ _ _) hJ rfl
  ·cases (show some _ = some oq from hoq)
   have hK' := hK
   simp only [updV, updB, Nat.reduceEqDiff, ↓reduceIte] at hK'
   clear hK hd
   generalize sq 0 = x0 at *
   generalize sq 1 = x1 at *
   generalize sq 2 = x2 at *
   generalize sq 3 = x3 at *
   generalize sq 4 = x4 at *
   generalize sq 5 = x5 at *
   generalize sq 6 = x6 at *
   generalize sq 7 = x7 at *
   generalize sq 8 = x8 at *
   generalize sq 9 = x9 at *
   generalize sq 10 = x10 at *
   generalize sq 11 = x11 at *
   generalize sq 12 = x12 at *
   generalize sq 13 = x13 at *
   generalize sq 14 = x14 at *
   have hcc := fun o => hJ.2.2.1.cell o
   go_simp
   exact hK' _ _ (Kp.refl _ _ _) hJ rfl
  ·cases (show some _ = some oq from hoq)
   obtain ⟨e0, d0⟩ := hd 0 (by kernel_rfl) (by decide)
   obtain ⟨e1, d1⟩ := hd 1 (by kernel_rfl) (by decide)
   have hK' := hK
   simp only [updV, updB, Nat.reduceEqDiff, ↓reduceIte] at hK'
   clear hK hd
   generalize sq 0 = x0 at *
   generalize sq 1 = x1 at *
   generalize sq 2 = x2 at *
   generalize sq 3 = x3 at *
   generalize sq 4 = x4 at *
   generalize sq 5 = x5 at *
   generalize sq 6 = x6 at *
   generalize sq 7 = x7 at *
   generalize sq 8 = x8 at *
   generalize sq 9 = x9 at *
   generalize sq 10 = x10 at *
   generalize sq 11 = x11 at *
   generalize sq 12 = x12 at *
   generalize sq 13 = x13 at *
   generalize sq 14 = x14 at *
   obtain rfl := d0
   obtain rfl := d1
   obtain ⟨h1, h2, h3, h4, h5, h6⟩ := hJ
   have hzz := h2.size
   have hl9 : lq 9 = false := (by cases hq9 : lq 9; rfl; rw [h1.1 hq9] at hmq; cases hmq)
   obtain ⟨q', hq1, hq2, hR⟩ := h1.2 hl9
   go_simp
   refine (l92Ruined_any g q' w.heap.size _ k gg S _ hR (hq1 hmq) h4 (by obtain ⟨_, _, _, h5⟩ := h5; exact h5.lt) HID.out).mono ?_
   rintro e w3 ⟨t2, k2, g2, S2, q2, rfl, hds, hq2', hD⟩
   exact hK' _ _ (Kp.of_only hD.2 _) ⟨⟨fun _ => rfl, fun _ => ⟨q2, fun h => (by cases h), (by have := hq1 hmq; omega), hD.1⟩⟩, h2.trans (hD.2.below (by omega) (by omega)), h3.only hD.2 (by omega), h4.only hD.2, (by obtain ⟨a, b, c, h5⟩ := h5; exact ⟨a, b, c, h5.only hD.2 n0⟩), fun h => (by obtain ⟨a, b, c, d, h7, h8⟩ := h6 h; exact ⟨a, b, c, d, h7.only hD.2 n0, h8.only hD.2⟩)⟩ ⟨t2, k2, g2, S2, rfl, hds⟩
  ·cases (show some _ = some oq from hoq)
   have hK' := hK
   simp only [updV, updB, Nat.reduceEqDiff, ↓reduceIte] at hK'
   clear hK hd
   generalize sq 0 = x0 at *
   generalize sq 1 = x1 at *
   generalize sq 2 = x2 at *
   generalize sq 3 = x3 at *
   generalize sq 4 = x4 at *
   generalize sq 5 = x5 at *
   generalize sq 6 = x6 at *
   generalize sq 7 = x7 at *
   generalize sq 8 = x8 at *
   generalize sq 9 = x9 at *
   generalize sq 10 = x10 at *
   generalize sq 11 = x11 at *
   generalize sq 12 = x12 at *
   generalize sq 13 = x13 at *
   generalize sq 14 = x14 at *
   go_simp
   exact hK' _ _ (Kp.refl _ _ _) hJ rfl
  ·cases (show some _ = some oq from hoq)
   obtain ⟨e3, d3⟩ := hd 3 (by kernel_rfl) (by decide)
   have hK' := hK
   simp only [updV, updB, Nat.reduceEqDiff, ↓reduceIte] at hK'
   clear hK hd
   generalize sq 0 = x0 at *
   generalize sq 1 = x1 at *
   generalize sq 2 = x2 at *
   generalize sq 3 = x3 at *
   generalize sq 4 = x4 at *
   generalize sq 5 = x5 at *
   generalize sq 6 = x6 at *
   generalize sq 7 = x7 at *
   generalize sq 8 = x8 at *
   generalize sq 9 = x9 at *
   generalize sq 10 = x10 at *
   generalize sq 11 = x11 at *
   generalize sq 12 = x12 at *
   generalize sq 13 = x13 at *
   generalize sq 14 = x14 at *
   obtain rfl := d3
   have hcc := hJ.2.2.1.cell 0
   go_simp
   exact hK' _ _ (Kp.refl _ _ _) hJ rfl
  ·cases (show some _ = some oq from hoq)
   have hK' := hK
   simp only [updV, updB, Nat.reduceEqDiff, ↓reduceIte] at hK'
   clear hK hd
   generalize sq 0 = x0 at *
   generalize sq 1 = x1 at *
   generalize sq 2 = x2 at *
   generalize sq 3 = x3 at *
   generalize sq 4 = x4 at *
   generalize sq 5 = x5 at *
   generalize sq 6 = x6 at *
   generalize sq 7 = x7 at *
   generalize sq 8 = x8 at *
   generalize sq 9 = x9 at *
   generalize sq 10 = x10 at *
   generalize sq 11 = x11 at *
   generalize sq 12 = x12 at *
   generalize sq 13 = x13 at *
   generalize sq 14 = x14 at *
   go_simp
   exact hK' _ _ (Kp.refl _ _ _) hJ rfl
  ·cases (show some _ = some oq from hoq)
   have hK' := hK
   simp only [updV, updB, Nat.reduceEqDiff, ↓reduceIte] at hK'
   clear hK hd
   generalize sq 0 = x0 at *
   generalize sq 1 = x1 at *
   generalize sq 2 = x2 at *
   generalize sq 3 = x3 at *
   generalize sq 4 = x4 at *
   generalize sq 5 = x5 at *
   generalize sq 6 = x6 at *
   generalize sq 7 = x7 at *
   generalize sq 8 = x8 at *
   generalize sq 9 = x9 at *
   generalize sq 10 = x10 at *
   generalize sq 11 = x11 at *
   generalize sq 12 = x12 at *
   generalize sq 13 = x13 at *
   generalize sq 14 = x14 at *
   go_simp
   exact hK' _ _ (Kp.refl _ _ _) hJ rfl
  ·cases (show some _ = some oq from hoq)
   obtain ⟨e6, d6⟩ := hd 6 (by kernel_rfl) (by decide)
   have hK' := hK
   simp only [updV, updB, Nat.reduceEqDiff, ↓reduceIte] at hK'
   clear hK hd
   generalize sq 0 = x0 at *
   generalize sq 1 = x1 at *
   generalize sq 2 = x2 at *
   generalize sq 3 = x3 at *
   generalize sq 4 = x4 at *
   generalize sq 5 = x5 at *
   generalize sq 6 = x6 at *
   generalize sq 7 = x7 at *
   generalize sq 8 = x8 at *
   generalize sq 9 = x9 at *
   generalize sq 10 = x10 at *
   generalize sq 11 = x11 at *
   generalize sq 12 = x12 at *
   generalize sq 13 = x13 at *
   generalize sq 14 = x14 at *
   obtain rfl := d6
   have hcc := hJ.2.2.1.cell 0
   go_simp
   exact hK' _ _ (Kp.refl _ _ _) hJ rfl
  ·cases (show some _ = some oq from hoq)
   obtain ⟨e7, d7⟩ := hd 7 (by kernel_rfl) (by decide)
   have hK' := hK
   simp only [updV, updB, Nat.reduceEqDiff, ↓reduceIte] at hK'
   clear hK hd
   generalize sq 0 = x0 at *
   generalize sq 1 = x1 at *
   generalize sq 2 = x2 at *
   generalize sq 3 = x3 at *
   generalize sq 4 = x4 at *
   generalize sq 5 = x5 at *
   generalize sq 6 = x6 at *
   generalize sq 7 = x7 at *
   generalize sq 8 = x8 at *
   generalize sq 9 = x9 at *
   generalize sq 10 = x10 at *
   generalize sq 11 = x11 at *
   generalize sq 12 = x12 at *
   generalize sq 13 = x13 at *
   generalize sq 14 = x14 at *
   obtain rfl := d7
   go_simp
   exact hK' _ _ (Kp.refl _ _ _) hJ rfl
  ·cases (show some _ = some oq from hoq)
   obtain ⟨e5, d5⟩ := hd 5 (by kernel_rfl) (by decide)
   obtain ⟨e8, d8⟩ := hd 8 (by kernel_rfl) (by decide)
   obtain ⟨e2, d2⟩ := hd 2 (by kernel_rfl) (by decide)
   have hK' := hK
   simp only [updV, updB, Nat.reduceEqDiff, ↓reduceIte] at hK'
   clear hK hd
   generalize sq 0 = x0 at *
   generalize sq 1 = x1 at *
   generalize sq 2 = x2 at *
   generalize sq 3 = x3 at *
   generalize sq 4 = x4 at *
   generalize sq 5 = x5 at *
   generalize sq 6 = x6 at *
   generalize sq 7 = x7 at *
   generalize sq 8 = x8 at *
   generalize sq 9 = x9 at *
   generalize sq 10 = x10 at *
   generalize sq 11 = x11 at *
   generalize sq 12 = x12 at *
   generalize sq 13 = x13 at *
   generalize sq 14 = x14 at *
   obtain rfl := d5
   obtain rfl := d8
   skip
   obtain ⟨h1, h2, h3, h4, h5, h6⟩ := hJ
   have hzz := h2.size
   obtain ⟨q', hq1, hq2, hR⟩ := h1.2 hmq
   go_simp
   refine (pick_any g tn q' _ hR (by omega)).mono ?_
   rintro e w3 ⟨u, rfl, a9, b9, hR3, hO3⟩
   have c9 := b9 (by omega)
   obtain ⟨m, rfl⟩ := Int.eq_ofNat_of_zero_le a9
   exact hK' _ _ (Kp.of_only hO3 _) ⟨⟨fun _ => e2, fun h => (by cases h)⟩, h2.trans (hO3.below (by omega) (by omega)), h3.only hO3 (by omega), h4.only hO3, (by obtain ⟨a, b, c, h5⟩ := h5; exact ⟨a, b, c, h5.only hO3 n0⟩), fun h => (by obtain ⟨a, b, c, d, h7, h8⟩ := h6 h; exact ⟨a, b, c, d, h7.only hO3 n0, h8.only hO3⟩)⟩ ⟨m, by omega, rfl⟩
  ·cases (show some _ = some oq from hoq)
   obtain ⟨e4, d4⟩ := hd 4 (by kernel_rfl) (by decide)
   obtain ⟨e9, d9⟩ := hd 9 (by kernel_rfl) (by decide)
   have hK' := hK
   simp only [updV, updB, Nat.reduceEqDiff, ↓reduceIte] at hK'
   clear hK hd
   generalize sq 0 = x0 at *
   generalize sq 1 = x1 at *
   generalize sq 2 = x2 at *
   generalize sq 3 = x3 at *
   generalize sq 4 = x4 at *
   generalize sq 5 = x5 at *
   generalize sq 6 = x6 at *
   generalize sq 7 = x7 at *
   generalize sq 8 = x8 at *
   generalize sq 9 = x9 at *
   generalize sq 10 = x10 at *
   generalize sq 11 = x11 at *
   generalize sq 12 = x12 at *
   generalize sq 13 = x13 at *
   generalize sq 14 = x14 at *
   obtain rfl := d4
   obtain ⟨m, hm, rfl⟩ := d9
   have hm' : (m : Int) < tn := by omega
   go_simp
   exact hK' _ _ (Kp.refl _ _ _) hJ ⟨m, hm, rfl⟩
  ·cases (show some _ = some oq from hoq)
   obtain ⟨e10, d10⟩ := hd 10 (by kernel_rfl) (by decide)
   have hK' := hK
   simp only [updV, updB, Nat.reduceEqDiff, ↓reduceIte] at hK'
   clear hK hd
   generalize sq 0 = x0 at *
   generalize sq 1 = x1 at *
   generalize sq 2 = x2 at *
   generalize sq 3 = x3 at *
   generalize sq 4 = x4 at *
   generalize sq 5 = x5 at *
   generalize sq 6 = x6 at *
   generalize sq 7 = x7 at *
   generalize sq 8 = x8 at *
   generalize sq 9 = x9 at *
   generalize sq 10 = x10 at *
   generalize sq 11 = x11 at *
   generalize sq 12 = x12 at *
   generalize sq 13 = x13 at *
   generalize sq 14 = x14 at *
   obtain ⟨m, hm, rfl⟩ := d10
   go_simp
   exact hK' _ _ (Kp.refl _ _ _) hJ ⟨m, hm, rfl⟩
  ·cases (show some _ = some oq from hoq)
   obtain ⟨e11, d11⟩ := hd 11 (by kernel_rfl) (by decide)
   have hK' := hK
   simp only [updV, updB, Nat.reduceEqDiff, ↓reduceIte] at hK'
   clear hK hd
   generalize sq 0 = x0 at *
   generalize sq 1 = x1 at *
   generalize sq 2 = x2 at *
   generalize sq 3 = x3 at *
   generalize sq 4 = x4 at *
   generalize sq 5 = x5 at *
   generalize sq 6 = x6 at *
   generalize sq 7 = x7 at *
   generalize sq 8 = x8 at *
   generalize sq 9 = x9 at *
   generalize sq 10 = x10 at *
   generalize sq 11 = x11 at *
   generalize sq 12 = x12 at *
   generalize sq 13 = x13 at *
   generalize sq 14 = x14 at *
   obtain ⟨m, hm, rfl⟩ := d11
   go_simp
   exact hK' _ _ (Kp.refl _ _ _) hJ ⟨m, hm, rfl⟩
  ·cases (show some _ = some oq from hoq)
   obtain ⟨e12, d12⟩ := hd 12 (by kernel_rfl) (by decide)
   have hK' := hK
   simp only [updV, updB, Nat.reduceEqDiff, ↓reduceIte] at hK'
   clear hK hd
   generalize sq 0 = x0 at *
   generalize sq 1 = x1 at *
   generalize sq 2 = x2 at *
   generalize sq 3 = x3 at *
   generalize sq 4 = x4 at *
   generalize sq 5 = x5 at *
   generalize sq 6 = x6 at *
   generalize sq 7 = x7 at *
   generalize sq 8 = x8 at *
   generalize sq 9 = x9 at *
   generalize sq 10 = x10 at *
   generalize sq 11 = x11 at *
   generalize sq 12 = x12 at *
   generalize sq 13 = x13 at *
   generalize sq 14 = x14 at *
   obtain ⟨m, hm, rfl⟩ := d12
   obtain ⟨⟨xs, hxs, hts⟩, _⟩ := hJ.2.2.2.1.rd
   obtain ⟨b', off', x, hA, _, hx, _, e0, _⟩ := RdTs.cells hts hm
   injection hA with hA
   injection hA with hA1 hA2
   subst hA1 hA2
   have hid := HID2.out x.2 (by rw [← hxs]; exact List.mem_map_of_mem (List.mem_of_getElem? hx))
   clear hxs hts hx
   go_simp
   exact hK' _ _ (Kp.refl _ _ _) hJ ⟨_, rfl, by omega, hid.2⟩
  ·cases (show some _ = some oq from hoq)
   obtain ⟨e2, d2⟩ := hd 2 (by kernel_rfl) (by decide)
   obtain ⟨e9, d9⟩ := hd 9 (by kernel_rfl) (by decide)
   have hK' := hK
   simp only [updV, updB, Nat.reduceEqDiff, ↓reduceIte] at hK'
   clear hK hd
   generalize sq 0 = x0 at *
   generalize sq 1 = x1 at *
   generalize sq 2 = x2 at *
   generalize sq 3 = x3 at *
   generalize sq 4 = x4 at *
   generalize sq 5 = x5 at *
   generalize sq 6 = x6 at *
   generalize sq 7 = x7 at *
   generalize sq 8 = x8 at *
   generalize sq 9 = x9 at *
   generalize sq 10 = x10 at *
   generalize sq 11 = x11 at *
   generalize sq 12 = x12 at *
   generalize sq 13 = x13 at *
   generalize sq 14 = x14 at *
   obtain ⟨t2, k2, g2, S2, rfl, hds⟩ := d2
   skip
   obtain ⟨h1, h2, h3, h4, ⟨t0, k0, g0, h5⟩, h6⟩ := hJ
   have cx := fun o => h5.cell o
   have fx := fun o => h5.frozen o
   have zx := h5.lt
   go_simp
   have ho3 := only_set3 w.heap.size w' (.slice t2.a t2.n t2.c) (.slice k2.a k2.n k2.c) (.slice g2.a g2.n g2.c)
   have hkp := Kp.of_only2 ho3 g
   have hb3 : Blk _ w.heap.size 26 (svC t2 k2 g2) := ((h5.set_ 0 (.slice t2.a t2.n t2.c)).set_ 1 (.slice k2.a k2.n k2.c)).set_ 2 (.slice g2.a g2.n g2.c)
   exact hK' undef _ hkp ⟨⟨h1.1, fun h => (by rw [e9] at h; cases h)⟩, below_set3 h2 (Nat.le_refl _), h3.only ho3 (by omega), h4.step hkp, ⟨_, _, _, hb3⟩, fun _ => ⟨_, _, _, _, hb3, hds.step hkp⟩⟩ trivial
 ·intro sq w' hJ hφ
  simp only [List.drop_succ_cons, List.drop_zero]
  have d13 := hφ 13 (by decide)
  clear hφ
  generalize sq 0 = x0 at *
  generalize sq 1 = x1 at *
  generalize sq 2 = x2 at *
  generalize sq 3 = x3 at *
  generalize sq 4 = x4 at *
  generalize sq 5 = x5 at *
  generalize sq 6 = x6 at *
  generalize sq 7 = x7 at *
  generalize sq 8 = x8 at *
  generalize sq 9 = x9 at *
  generalize sq 10 = x10 at *
  generalize sq 11 = x11 at *
  generalize sq 12 = x12 at *
  generalize sq 13 = x13 at *
  generalize sq 14 = x14 at *
  obtain ⟨z13, rfl, hz0, hz1⟩ := d13
  obtain ⟨lq, hlq, h1, h2, h3, h4, h5, h6⟩ := hJ
  obtain ⟨t2, k2, g2, S2, h7, h8⟩ := h6 (hlq 14 (by decide))
  have HB7 := Lib.hid h2
  have HD8 := Lib.hid h8
  have cr := fun o => h7.cell o
  have fr := fun o => h7.frozen o
  have zr := h7.lt
  clear h1 h2 h3 h4 h5 h6 h7 h8 hlq
  go_wp2_with fail
  refine bodyPost_ret (v := .tuple #[svV t2 k2 g2, .int .i64 z13]) (by simp [results, Tryz.results13, go_sem, cr]) rfl ?_
  exact ⟨t2, k2, g2, S2, _, rfl, HD8.out.rd, by omega, by omega, HB7.out⟩
end Go.Proofs.YtemnlheidghbmaaGreat

/-
  Lemmas and contracts: Ky. No condition.
-/
import Derived.Test.YtepddbfafdfadaaGreatKa14
import Derived.Test.YtepddbfafdfadaaGreatKa23
import Derived.Test.YtepddbfafdfadaaGreatKa27
namespace Go.Proofs.YtepddbfafdfadaaGreat
open Go.RowKit Go.Sort
def keyAt (S : Svc) (p : Int) : Int := (S.keys[p.toNat]?).getD 0
def keyS (S : Svc) (p key : Int) : Svc × Bool :=
 if validS S && (inR p 0 9 && inR key 1 9999) then (if keyAt S p = 0 then (⟨S.ts, S.keys.set p.toNat key, S.tags⟩, true) else (S, false)) else (⟨[], [], []⟩, false)
theorem keyS_bad {S : Svc} {p key : Int} (h : (validS S && (inR p 0 9 && inR key 1 9999)) = false) : keyS S p key = (⟨[], [], []⟩, false) := by simp [keyS, h]
theorem keyS_full {S : Svc} {p key : Int} (h1 : validS S = true) (h2 : inR p 0 9 = true) (h3 : inR key 1 9999 = true) (h : keyAt S p ≠ 0) : keyS S p key = (S, false) := by simp [keyS, h1, h2, h3, h]
theorem keyS_done {S : Svc} {p key : Int} (h1 : validS S = true) (h2 : inR p 0 9 = true) (h3 : inR key 1 9999 = true) (h : keyAt S p = 0) : keyS S p key = (⟨S.ts, S.keys.set p.toNat key, S.tags⟩, true) := by simp [keyS, h1, h2, h3, h]
theorem OwS.setKey {lo hi : Nat} {w : World} {t k g : Sl} {S : Svc} (h : OwS lo hi w t k g S) {p : Nat} {b : Nat} (hk : k.a = some ⟨b, 0, none⟩) (hp : p < k.n) (v : Int) : OwS lo hi (w.setCell ⟨b, p, none⟩ (.int .i64 v)) t k g ⟨S.ts, S.keys.set p v, S.tags⟩ := by
 obtain ⟨⟨xs, h1, h2⟩, h3, h4, h5, h6, h7⟩ := h
 obtain ⟨ka, kn, kc⟩ := k
 simp only at hk hp h3
 subst hk
 have hle := h3.ow.le
 simp only at hle
 have hg : w.grownBy (w.setCell ⟨b, p, none⟩ (.int .i64 v)) (ownB (some ⟨b, 0, none⟩) kc) := by
  rw [ownB_some (by omega)]
  exact Only.set_ (p := ⟨b, p, none⟩) (Only.refl b w) (.inl rfl) _
 have hlen : p < (cellsI S.keys).length := by
  have := h3.ow.len
  simp only at this
  rw [this]; omega
 refine ⟨⟨xs, h1, h2.apartI h3.ow hg⟩, ⟨?_, h3.2⟩, h4.apartB (fun x hx hx' => (List.nodup_append.1 h5).2.2 x hx' x hx rfl) hg, h5, h6, h7⟩
 have := h3.ow.set_ hlen (.int .i64 v)
 show Ow _ _ _ 1 _ _ _ ((S.keys.set p v).map (Value.int .i64))
 rw [List.map_set]
 exact this
theorem mem_inR {p : Int} (h : inR p 0 9 = true) : ∃ q : Nat, p = q ∧ q ≤ 9 := by
 unfold inR at h
 simp only [Bool.and_eq_true, decide_eq_true_eq] at h
 exact ⟨p.toNat, by omega, by omega⟩
theorem OwS.res {w X : World} {B : Nat} {t k g : Sl} {S : Svc} {b : Nat} (h : OwS B w.heap.size w t k g S) (hX : Frm b (b + 1) w X) (hb : b < B) : OwS B X.heap.size X t k g S := (h.frm hX (.inr hb)).mono (Nat.le_refl _) hX.size
set_option maxRecDepth 100000 in
set_option maxHeartbeats 8000000 in
theorem specServiceKey_any (t k g : Sl) (S : Svc) (p key : Int) (w : World) (hr : RdS w t k g S) :
  Calls Tryz.prog 34 #[svV t k g, .int .i64 p, .int .i64 key] w (SvcPost w.heap.size (keyS S p key) w) := by
 have HRS := Lib.hid hr
 obtain ⟨ka, kn, kc⟩ := k
 clear hr
 go_enter Tryz.func34, Tryz.ntmps34
 go_upto_region 1 with (fail)
 refine into_world (fun W => Below w.heap.size w W ∧ W.heap.size = w.heap.size + 2 ∧ Blk W w.heap.size 37 #[.slice t.a t.n t.c, .slice ka kn kc, .slice g.a g.n g.c] ∧ Blk W (w.heap.size + 1) 37 #[.slice none 0 0, .slice none 0 0, .slice none 0 0]) ⟨by go_grown, by simp, (Blk.new _ _ _).alloc _, Blk.newAt _ _ _ _ (by simp)⟩ ?_
 rintro W ⟨hbw, hwz, hka, hkr⟩
 have HBW := Lib.hid hbw
 have HKA := Lib.hid hka
 have HKR := Lib.hid hkr
 have ca := fun o => hka.cell o
 have za := hka.lt
 clear hbw hka hkr
 go_wp2_with fail
 refine (specServiceValid_any _ _ _ S _ (HRS.out.below HBW.out)).mono ?_
 rintro e w1 ⟨rfl, hb1⟩
 have HB1 := Lib.hid (below_next HBW.out hb1)
 have HA1 := Lib.hid (HKA.out.next hb1)
 have HR1 := Lib.hid (HKR.out.next hb1)
 have hs1 := hb1.size
 clear hb1 ca za
 have ca := fun o => HA1.out.cell o
 have za := HA1.out.lt
 have cr := fun o => HR1.out.cell o
 have fr := fun o => HR1.out.frozen o
 have zr := HR1.out.lt
 cases hv : validS S
 ·have HBAD := Lib.hid (keyS_bad (S := S) (p := p) (key := key) (by rw [hv]; rfl))
  clear hv
  go_wp2_with fail
  refine bodyPost_ret (v := .tuple #[svV ⟨none, 0, 0⟩ ⟨none, 0, 0⟩ ⟨none, 0, 0⟩, .bool false]) (by simp [results, Tryz.results34, go_sem, cr]) rfl ?_
  rw [HBAD.out]
  refine ⟨⟨none, 0, 0⟩, ⟨none, 0, 0⟩, ⟨none, 0, 0⟩, rfl, OwS.bare _ _ _ _ _ _, ?_⟩
  iterate 3 (refine Below.setCell ?_ (by simp) _)
  exact HB1.out
 ·have HV := Lib.hid hv
  clear hv
  go_wp2_with fail
  refine (l6In_any p 0 9 _).mono ?_
  rintro e _ ⟨rfl, rfl⟩
  cases h2 : inR p 0 9
  ·have HBAD := Lib.hid (keyS_bad (S := S) (p := p) (key := key) (by rw [h2]; simp))
   clear h2
   go_wp2_with fail
   refine bodyPost_ret (v := .tuple #[svV ⟨none, 0, 0⟩ ⟨none, 0, 0⟩ ⟨none, 0, 0⟩, .bool false]) (by simp [results, Tryz.results34, go_sem, cr]) rfl ?_
   rw [HBAD.out]
   refine ⟨⟨none, 0, 0⟩, ⟨none, 0, 0⟩, ⟨none, 0, 0⟩, rfl, OwS.bare _ _ _ _ _ _, ?_⟩
   iterate 3 (refine Below.setCell ?_ (by simp) _)
   exact HB1.out
  ·have H2 := Lib.hid h2
   clear h2
   go_wp2_with fail
   refine (l6In_any key 1 9999 _).mono ?_
   rintro e _ ⟨rfl, rfl⟩
   cases h3 : inR key 1 9999
   ·have HBAD := Lib.hid (keyS_bad (S := S) (p := p) (key := key) (by rw [h3]; simp))
    clear h3
    go_wp2_with fail
    refine bodyPost_ret (v := .tuple #[svV ⟨none, 0, 0⟩ ⟨none, 0, 0⟩ ⟨none, 0, 0⟩, .bool false]) (by simp [results, Tryz.results34, go_sem, cr]) rfl ?_
    rw [HBAD.out]
    refine ⟨⟨none, 0, 0⟩, ⟨none, 0, 0⟩, ⟨none, 0, 0⟩, rfl, OwS.bare _ _ _ _ _ _, ?_⟩
    iterate 3 (refine Below.setCell ?_ (by simp) _)
    exact HB1.out
   ·have H3 := Lib.hid h3
    clear h3
    obtain ⟨q, rfl, hq⟩ := mem_inR H2.out
    have hlen := (validS_of HV.out).1
    have hkn : kn = 10 := by
     have := HRS.out.2.1.len
     simp only at this
     omega
    subst hkn
    go_wp2_with fail
    refine (l41Copy_any _ _ _ S _ (HRS.out.below HB1.out)).mono ?_
    rintro e w2 ⟨t2, k2, g2, rfl, ho2, hb2⟩
    have hrw2 := (HRS.out.below HB1.out).below hb2
    obtain ⟨b, off, z, hA, hb, hz, hc⟩ := hrw2.2.1.at_ (show q < 10 by omega)
    simp only at hA
    subst hA
    obtain ⟨k2a, k2n, k2c⟩ := k2
    have hk2n : k2n = 10 := by
     have h := ho2.2.1.ow.len
     simp only [List.length_map, Nat.mul_one] at h
     omega
    subst hk2n
    obtain ⟨gk, cur, hga, hgB, hblk, _⟩ := ho2.2.1.ow.blk (Nat.lt_of_lt_of_le (show 0 < 10 by decide) ho2.2.1.ow.le)
    simp only at hga
    subst hga
    obtain ⟨b2, off2, z2, hA2, hb2', hz2, hc2⟩ := ho2.rd.2.1.at_ (show q < 10 by omega)
    simp only at hA2
    injection hA2 with hA2
    injection hA2 with hA2 hA3
    subst hA2 hA3
    obtain rfl : z = z2 := by rw [hz] at hz2; exact Option.some.inj hz2
    have hkz : keyAt S q = z := by unfold keyAt; rw [Int.toNat_natCast, hz]; rfl
    have HKZ := Lib.hid hkz
    have HO2 := Lib.hid ho2
    have HB2 := Lib.hid (below_next HB1.out hb2)
    have HA2 := Lib.hid (HA1.out.next hb2)
    have HR2 := Lib.hid (HR1.out.next hb2)
    have hs2 := hb2.size
    have hfk := fun o => hblk.frozen o
    have zk := hblk.lt
    rw [Nat.zero_add] at hc2
    clear ca cr fr zr za hrw2 hz hz2 ho2 hb2 hkz hblk
    have za := HA2.out.lt
    have ca := fun o => HA2.out.cell o
    have cr := fun o => HR2.out.cell o
    have fr := fun o => HR2.out.frozen o
    have zr := HR2.out.lt
    have hal : Below w2.heap.size w2 (w2.alloc (.cells #[.slice t2.a t2.n t2.c, .slice (some ⟨gk, 0, none⟩) 10 k2c, .slice g2.a g2.n g2.c] 37)) := ba (Below.refl _ _)
    by_cases hz0 : z = 0
    ·subst hz0
     have HDONE := Lib.hid (keyS_done (key := key) HV.out H2.out H3.out HKZ.out)
     have HC2 := Lib.hid hc2
     have HFK := Lib.hid hfk
     have HZK := Lib.hid zk
     go_upto_region 6 with (fail)
     refine into_world (fun X => Below w2.heap.size w2 X ∧ Blk X w2.heap.size 37 #[.slice t2.a t2.n t2.c, .slice (some ⟨gk, 0, none⟩) 10 k2c, .slice g2.a g2.n g2.c]) ⟨hal, Blk.new _ _ _⟩ ?_
     rintro X ⟨hX, hloc⟩
     have HX := Lib.hid hX
     have hsx := hX.size
     have HRX := Lib.hid (HR2.out.next hX)
     have HOX := Lib.hid (HO2.out.next hX)
     have HBX := Lib.hid (below_next HB2.out hX)
     have HLX := Lib.hid hloc
     clear ca cr fr zr za hc hc2 hfk zk hX hloc hal
     have cr := fun o => HRX.out.cell o
     have fr := fun o => HRX.out.frozen o
     have zr := HRX.out.lt
     have cl := fun o => HLX.out.cell o
     have zl := HLX.out.lt
     have hgc := ((bcell HX.out).1 gk q HZK.out).trans HC2.out
     have hfk : X.frozen? ⟨gk, q, none⟩ = false := ((bcell HX.out).2 gk q HZK.out).trans (HFK.out q)
     have zk : gk < X.heap.size := Nat.lt_of_lt_of_le HZK.out hsx
     go_upto_region 7 with (fail)
     refine into_world (fun Y => Below w.heap.size w Y ∧ Blk Y (w.heap.size + 1) 37 #[.slice none 0 0, .slice none 0 0, .slice none 0 0] ∧ Blk Y w2.heap.size 37 #[.slice t2.a t2.n t2.c, .slice (some ⟨gk, 0, none⟩) 10 k2c, .slice g2.a g2.n g2.c] ∧ OwS w1.heap.size Y.heap.size Y t2 ⟨some ⟨gk, 0, none⟩, 10, k2c⟩ g2 ⟨S.ts, S.keys.set q key, S.tags⟩) ⟨HBX.out.setCell (by simp; omega) _, HRX.out.far (by simp; omega) _, HLX.out.far (by simp; have := HZK.out; omega) _, ?_⟩ ?_
     ·have h := HOX.out.setKey rfl (show q < 10 by omega) key
      exact h.mono (Nat.le_refl _) (by simpa [World.setCell] using hsx)
     rintro Y ⟨hbY, hrY, hlY, hoY⟩
     clear hgc hfk zk cr fr zr cl zl
     have HBY := Lib.hid hbY
     have HRY := Lib.hid hrY
     have HLY := Lib.hid hlY
     have HOY := Lib.hid hoY
     clear hbY hrY hlY hoY
     have cr := fun o => HRY.out.cell o
     have fr := fun o => HRY.out.frozen o
     have zr := HRY.out.lt
     have cl := fun o => HLY.out.cell o
     have zl := HLY.out.lt
     go_wp2_with fail
     refine bodyPost_ret (v := .tuple #[svV t2 ⟨some ⟨gk, 0, none⟩, 10, k2c⟩ g2, .bool true]) (by simp [results, Tryz.results34, go_sem, cr]) rfl ?_
     rw [HDONE.out]
     have hend : ∀ Z : World, Frm (w.heap.size + 1) (w.heap.size + 2) Y Z → SvcPost w.heap.size (⟨S.ts, S.keys.set q key, S.tags⟩, true) w (.returned (.tuple #[svV t2 ⟨some ⟨gk, 0, none⟩, 10, k2c⟩ g2, .bool true])) Z := fun Z hZ =>
      ⟨t2, ⟨some ⟨gk, 0, none⟩, 10, k2c⟩, g2, rfl, (HOY.out.frm hZ (.inr (by omega))).mono (by omega) hZ.size, HBY.out.trans (hZ.below (by omega) HBY.out.size)⟩
     refine hend _ ?_
     iterate 3 (refine Frm.set_ ?_ (by simp) (by simp) _)
     exact Frm.refl _ _ _
    ·have HFULL := Lib.hid (keyS_full (key := key) HV.out H2.out H3.out (by rw [HKZ.out]; exact hz0))
     go_upto_region 5 with (fail)
     refine into_world (fun X => Below w2.heap.size w2 X ∧ Blk X w2.heap.size 37 #[.slice t2.a t2.n t2.c, .slice (some ⟨gk, 0, none⟩) 10 k2c, .slice g2.a g2.n g2.c]) ⟨hal, Blk.new _ _ _⟩ ?_
     rintro X ⟨hX, hloc⟩
     have HX := Lib.hid hX
     have hsx := hX.size
     have HRX := Lib.hid (HR2.out.next hX)
     have HOX := Lib.hid (HO2.out.next hX)
     have HBX := Lib.hid (below_next HB2.out hX)
     have HLX := Lib.hid hloc
     clear ca cr fr zr za hc hc2 hfk zk hX hloc hal
     have cr := fun o => HRX.out.cell o
     have fr := fun o => HRX.out.frozen o
     have zr := HRX.out.lt
     have cl := fun o => HLX.out.cell o
     have zl := HLX.out.lt
     go_wp2_with fail
     refine bodyPost_ret (v := .tuple #[svV t2 ⟨some ⟨gk, 0, none⟩, 10, k2c⟩ g2, .bool false]) (by simp [results, Tryz.results34, go_sem, cr]) rfl ?_
     rw [HFULL.out]
     have hend : ∀ Z : World, Frm (w.heap.size + 1) (w.heap.size + 2) X Z → SvcPost w.heap.size (S, false) w (.returned (.tuple #[svV t2 ⟨some ⟨gk, 0, none⟩, 10, k2c⟩ g2, .bool false])) Z := fun Z hZ =>
      ⟨t2, ⟨some ⟨gk, 0, none⟩, 10, k2c⟩, g2, rfl, (HOX.out.frm hZ (.inr (by omega))).mono (by omega) (Nat.le_trans hsx hZ.size), HBX.out.trans (hZ.below (by omega) HBX.out.size)⟩
     refine hend _ ?_
     iterate 3 (refine Frm.set_ ?_ (by simp) (by simp) _)
     exact Frm.refl _ _ _
set_option maxRecDepth 100000 in
set_option maxHeartbeats 8000000 in
theorem implServiceKey_any (t k g : Sl) (S : Svc) (p key : Int) (w : World) (hr : RdS w t k g S) :
  Calls Tryz.prog 33 #[svV t k g, .int .i64 p, .int .i64 key] w (SvcPost w.heap.size (keyS S p key) w) := by
 have HRS := Lib.hid hr
 obtain ⟨ka, kn, kc⟩ := k
 clear hr
 go_enter Tryz.func33, Tryz.ntmps33
 go_upto_region 1 with (fail)
 refine into_world (fun W => Below w.heap.size w W ∧ W.heap.size = w.heap.size + 2 ∧ Blk W w.heap.size 37 #[.slice t.a t.n t.c, .slice ka kn kc, .slice g.a g.n g.c] ∧ Blk W (w.heap.size + 1) 37 #[.slice none 0 0, .slice none 0 0, .slice none 0 0]) ⟨by go_grown, by simp, (Blk.new _ _ _).alloc _, Blk.newAt _ _ _ _ (by simp)⟩ ?_
 rintro W ⟨hbw, hwz, hka, hkr⟩
 have HBW := Lib.hid hbw
 have HKA := Lib.hid hka
 have HKR := Lib.hid hkr
 have ca := fun o => hka.cell o
 have za := hka.lt
 clear hbw hka hkr
 go_wp2_with fail
 refine (implServiceValid_any _ _ _ S _ (HRS.out.below HBW.out)).mono ?_
 rintro e w1 ⟨rfl, hb1⟩
 have HB1 := Lib.hid (below_next HBW.out hb1)
 have HA1 := Lib.hid (HKA.out.next hb1)
 have HR1 := Lib.hid (HKR.out.next hb1)
 have hs1 := hb1.size
 clear hb1 ca za
 have ca := fun o => HA1.out.cell o
 have za := HA1.out.lt
 have cr := fun o => HR1.out.cell o
 have fr := fun o => HR1.out.frozen o
 have zr := HR1.out.lt
 cases hv : validS S
 ·have HBAD := Lib.hid (keyS_bad (S := S) (p := p) (key := key) (by rw [hv]; rfl))
  clear hv
  go_wp2_with fail
  refine bodyPost_ret (v := .tuple #[svV ⟨none, 0, 0⟩ ⟨none, 0, 0⟩ ⟨none, 0, 0⟩, .bool false]) (by simp [results, Tryz.results33, go_sem, cr]) rfl ?_
  rw [HBAD.out]
  refine ⟨⟨none, 0, 0⟩, ⟨none, 0, 0⟩, ⟨none, 0, 0⟩, rfl, OwS.bare _ _ _ _ _ _, ?_⟩
  iterate 3 (refine Below.setCell ?_ (by simp) _)
  exact HB1.out
 ·have HV := Lib.hid hv
  clear hv
  go_wp2_with fail
  refine (inRange_any p 0 9 _).mono ?_
  rintro e _ ⟨rfl, rfl⟩
  cases h2 : inR p 0 9
  ·have HBAD := Lib.hid (keyS_bad (S := S) (p := p) (key := key) (by rw [h2]; simp))
   clear h2
   go_wp2_with fail
   refine bodyPost_ret (v := .tuple #[svV ⟨none, 0, 0⟩ ⟨none, 0, 0⟩ ⟨none, 0, 0⟩, .bool false]) (by simp [results, Tryz.results33, go_sem, cr]) rfl ?_
   rw [HBAD.out]
   refine ⟨⟨none, 0, 0⟩, ⟨none, 0, 0⟩, ⟨none, 0, 0⟩, rfl, OwS.bare _ _ _ _ _ _, ?_⟩
   iterate 3 (refine Below.setCell ?_ (by simp) _)
   exact HB1.out
  ·have H2 := Lib.hid h2
   clear h2
   go_wp2_with fail
   refine (inRange_any key 1 9999 _).mono ?_
   rintro e _ ⟨rfl, rfl⟩
   cases h3 : inR key 1 9999
   ·have HBAD := Lib.hid (keyS_bad (S := S) (p := p) (key := key) (by rw [h3]; simp))
    clear h3
    go_wp2_with fail
    refine bodyPost_ret (v := .tuple #[svV ⟨none, 0, 0⟩ ⟨none, 0, 0⟩ ⟨none, 0, 0⟩, .bool false]) (by simp [results, Tryz.results33, go_sem, cr]) rfl ?_
    rw [HBAD.out]
    refine ⟨⟨none, 0, 0⟩, ⟨none, 0, 0⟩, ⟨none, 0, 0⟩, rfl, OwS.bare _ _ _ _ _ _, ?_⟩
    iterate 3 (refine Below.setCell ?_ (by simp) _)
    exact HB1.out
   ·have H3 := Lib.hid h3
    clear h3
    obtain ⟨q, rfl, hq⟩ := mem_inR H2.out
    have hlen := (validS_of HV.out).1
    have hkn : kn = 10 := by
     have := HRS.out.2.1.len
     simp only at this
     omega
    subst hkn
    go_wp2_with fail
    refine (copyService_any _ _ _ S _ (HRS.out.below HB1.out)).mono ?_
    rintro e w2 ⟨t2, k2, g2, rfl, ho2, hb2⟩
    have hrw2 := (HRS.out.below HB1.out).below hb2
    obtain ⟨b, off, z, hA, hb, hz, hc⟩ := hrw2.2.1.at_ (show q < 10 by omega)
    simp only at hA
    subst hA
    obtain ⟨k2a, k2n, k2c⟩ := k2
    have hk2n : k2n = 10 := by
     have h := ho2.2.1.ow.len
     simp only [List.length_map, Nat.mul_one] at h
     omega
    subst hk2n
    obtain ⟨gk, cur, hga, hgB, hblk, _⟩ := ho2.2.1.ow.blk (Nat.lt_of_lt_of_le (show 0 < 10 by decide) ho2.2.1.ow.le)
    simp only at hga
    subst hga
    obtain ⟨b2, off2, z2, hA2, hb2', hz2, hc2⟩ := ho2.rd.2.1.at_ (show q < 10 by omega)
    simp only at hA2
    injection hA2 with hA2
    injection hA2 with hA2 hA3
    subst hA2 hA3
    obtain rfl : z = z2 := by rw [hz] at hz2; exact Option.some.inj hz2
    have hkz : keyAt S q = z := by unfold keyAt; rw [Int.toNat_natCast, hz]; rfl
    have HKZ := Lib.hid hkz
    have HO2 := Lib.hid ho2
    have HB2 := Lib.hid (below_next HB1.out hb2)
    have HA2 := Lib.hid (HA1.out.next hb2)
    have HR2 := Lib.hid (HR1.out.next hb2)
    have hs2 := hb2.size
    have hfk := fun o => hblk.frozen o
    have zk := hblk.lt
    rw [Nat.zero_add] at hc2
    clear ca cr fr zr za hrw2 hz hz2 ho2 hb2 hkz hblk
    have za := HA2.out.lt
    have ca := fun o => HA2.out.cell o
    have cr := fun o => HR2.out.cell o
    have fr := fun o => HR2.out.frozen o
    have zr := HR2.out.lt
    have hal : Below w2.heap.size w2 (w2.alloc (.cells #[.slice t2.a t2.n t2.c, .slice (some ⟨gk, 0, none⟩) 10 k2c, .slice g2.a g2.n g2.c] 37)) := ba (Below.refl _ _)
    by_cases hz0 : z = 0
    ·subst hz0
     have HDONE := Lib.hid (keyS_done (key := key) HV.out H2.out H3.out HKZ.out)
     have HC2 := Lib.hid hc2
     have HFK := Lib.hid hfk
     have HZK := Lib.hid zk
     go_upto_region 6 with (fail)
     refine into_world (fun X => Below w2.heap.size w2 X ∧ Blk X w2.heap.size 37 #[.slice t2.a t2.n t2.c, .slice (some ⟨gk, 0, none⟩) 10 k2c, .slice g2.a g2.n g2.c]) ⟨hal, Blk.new _ _ _⟩ ?_
     rintro X ⟨hX, hloc⟩
     have HX := Lib.hid hX
     have hsx := hX.size
     have HRX := Lib.hid (HR2.out.next hX)
     have HOX := Lib.hid (HO2.out.next hX)
     have HBX := Lib.hid (below_next HB2.out hX)
     have HLX := Lib.hid hloc
     clear ca cr fr zr za hc hc2 hfk zk hX hloc hal
     have cr := fun o => HRX.out.cell o
     have fr := fun o => HRX.out.frozen o
     have zr := HRX.out.lt
     have cl := fun o => HLX.out.cell o
     have zl := HLX.out.lt
     have hgc := ((bcell HX.out).1 gk q HZK.out).trans HC2.out
     have hfk : X.frozen? ⟨gk, q, none⟩ = false := ((bcell HX.out).2 gk q HZK.out).trans (HFK.out q)
     have zk : gk < X.heap.size := Nat.lt_of_lt_of_le HZK.out hsx
     go_upto_region 7 with (fail)
     refine into_world (fun Y => Below w.heap.size w Y ∧ Blk Y (w.heap.size + 1) 37 #[.slice none 0 0, .slice none 0 0, .slice none 0 0] ∧ Blk Y w2.heap.size 37 #[.slice t2.a t2.n t2.c, .slice (some ⟨gk, 0, none⟩) 10 k2c, .slice g2.a g2.n g2.c] ∧ OwS w1.heap.size Y.heap.size Y t2 ⟨some ⟨gk, 0, none⟩, 10, k2c⟩ g2 ⟨S.ts, S.keys.set q key, S.tags⟩) ⟨HBX.out.setCell (by simp; omega) _, HRX.out.far (by simp; omega) _, HLX.out.far (by simp; have := HZK.out; omega) _, ?_⟩ ?_
     ·have h := HOX.out.setKey rfl (show q < 10 by omega) key
      exact h.mono (Nat.le_refl _) (by simpa [World.setCell] using hsx)
     rintro Y ⟨hbY, hrY, hlY, hoY⟩
     clear hgc hfk zk cr fr zr cl zl
     have HBY := Lib.hid hbY
     have HRY := Lib.hid hrY
     have HLY := Lib.hid hlY
     have HOY := Lib.hid hoY
     clear hbY hrY hlY hoY
     have cr := fun o => HRY.out.cell o
     have fr := fun o => HRY.out.frozen o
     have zr := HRY.out.lt
     have cl := fun o => HLY.out.cell o
     have zl := HLY.out.lt
     go_wp2_with fail
     refine bodyPost_ret (v := .tuple #[svV t2 ⟨some ⟨gk, 0, none⟩, 10, k2c⟩ g2, .bool true]) (by simp [results, Tryz.results33, go_sem, cr]) rfl ?_
     rw [HDONE.out]
     have hend : ∀ Z : World, Frm (w.heap.size + 1) (w.heap.size + 2) Y Z → SvcPost w.heap.size (⟨S.ts, S.keys.set q key, S.tags⟩, true) w (.returned (.tuple #[svV t2 ⟨some ⟨gk, 0, none⟩, 10, k2c⟩ g2, .bool true])) Z := fun Z hZ =>
      ⟨t2, ⟨some ⟨gk, 0, none⟩, 10, k2c⟩, g2, rfl, (HOY.out.frm hZ (.inr (by omega))).mono (by omega) hZ.size, HBY.out.trans (hZ.below (by omega) HBY.out.size)⟩
     refine hend _ ?_
     iterate 3 (refine Frm.set_ ?_ (by simp) (by simp) _)
     exact Frm.refl _ _ _
    ·have HFULL := Lib.hid (keyS_full (key := key) HV.out H2.out H3.out (by rw [HKZ.out]; exact hz0))
     go_upto_region 5 with (fail)
     refine into_world (fun X => Below w2.heap.size w2 X ∧ Blk X w2.heap.size 37 #[.slice t2.a t2.n t2.c, .slice (some ⟨gk, 0, none⟩) 10 k2c, .slice g2.a g2.n g2.c]) ⟨hal, Blk.new _ _ _⟩ ?_
     rintro X ⟨hX, hloc⟩
     have HX := Lib.hid hX
     have hsx := hX.size
     have HRX := Lib.hid (HR2.out.next hX)
     have HOX := Lib.hid (HO2.out.next hX)
     have HBX := Lib.hid (below_next HB2.out hX)
     have HLX := Lib.hid hloc
     clear ca cr fr zr za hc hc2 hfk zk hX hloc hal
     have cr := fun o => HRX.out.cell o
     have fr := fun o => HRX.out.frozen o
     have zr := HRX.out.lt
     have cl := fun o => HLX.out.cell o
     have zl := HLX.out.lt
     go_wp2_with fail
     refine bodyPost_ret (v := .tuple #[svV t2 ⟨some ⟨gk, 0, none⟩, 10, k2c⟩ g2, .bool false]) (by simp [results, Tryz.results33, go_sem, cr]) rfl ?_
     rw [HFULL.out]
     have hend : ∀ Z : World, Frm (w.heap.size + 1) (w.heap.size + 2) X Z → SvcPost w.heap.size (S, false) w (.returned (.tuple #[svV t2 ⟨some ⟨gk, 0, none⟩, 10, k2c⟩ g2, .bool false])) Z := fun Z hZ =>
      ⟨t2, ⟨some ⟨gk, 0, none⟩, 10, k2c⟩, g2, rfl, (HOX.out.frm hZ (.inr (by omega))).mono (by omega) (Nat.le_trans hsx hZ.size), HBX.out.trans (hZ.below (by omega) HBX.out.size)⟩
     refine hend _ ?_
     iterate 3 (refine Frm.set_ ?_ (by simp) (by simp) _)
     exact Frm.refl _ _ _
end Go.Proofs.YtepddbfafdfadaaGreat

/-
  laws.heldTrackS, markService, heldService, markLevel, heldLevel.
-/
import Derived.Test.YtepddbfafdfadaaGreatMt
namespace Go.Proofs.YtepddbfafdfadaaGreat
open Go.RowKit Go.Sort

set_option maxRecDepth 100000 in
set_option maxHeartbeats 8000000 in
theorem heldT_any (A : Option Addr) (n c : Nat) (ys : List Row) (k0 k' : Int) (w : World) (h : RdTs w A n ys) (hm : MkTs k0 (ys.map (·.2)) k') (hk0 : 0 ≤ k0) (hk1 : k' ≤ 1125899906842624) (hn : n ≤ 1048576) :
    Calls Tryz.prog 67 #[.slice A n c, .int .i64 k0] w fun e w' => e = .returned (.int .i64 k') ∧ w = w' := by
  have hle0 := hm.le
  have HR := Lib.hid h
  have HM := Lib.hid hm
  clear h hm
  go_enter Tryz.func67, Tryz.ntmps67
  go_wp2
  go_loop [1, 5] (fun kk i => ∃ (k : Nat) (K : Int), k ≤ n ∧ i = .int .i64 k ∧ kk = .int .i64 K ∧ 0 ≤ K ∧ K ≤ k' ∧ Hid (MkTs K ((ys.drop k).map (·.2)) k')) (fun _ i => n - (intOf i).toNat)
  case atStart => exact ⟨0, k0, Nat.zero_le _, rfl, rfl, hk0, hle0, by show MkTs k0 ((ys.drop 0).map _) k'; simpa using HM.out⟩
  case round =>
    obtain ⟨k, K, hk, rfl, rfl, hK0, hK1, HD⟩ := hrel
    by_cases hlt : k < n
    · obtain ⟨b, off, x, rfl, hb, hx, hrx, e0, e1, e2, e3, e4, e5, e6, e7, e8, e9, e10, e11⟩ := RdTs.cells HR.out hlt
      have hdr : ys.drop k = x :: ys.drop (k + 1) := by
        obtain ⟨hk', he⟩ := List.getElem?_eq_some_iff.1 hx
        rw [List.drop_eq_getElem_cons hk', he]
      have hd := HD.out
      rw [hdr, List.map_cons] at hd
      obtain ⟨k1, hmk, hrest⟩ := hd
      have hle1 := hrest.le
      have HREST := Lib.hid hrest
      obtain ⟨p, q, hp, hq, m0, m1, m2, m3, mw, mg, mf, mb, me, hk1'⟩ := hmk
      have hw := hrx.1.1
      have hg := hrx.1.2.1
      have he := hrx.2.1
      have hnw := hrx.1.2.2.1.2
      have hng := hrx.1.2.2.2.2
      have hnb := hrx.2.2.2
      have lw := hw.len
      have lg := hg.len
      have le := he.len
      rw [mw, lw] at hw
      rw [mg, lg] at hg
      rw [me, le] at he
      rw [lw] at hp
      rw [lg] at hq
      rw [le] at hk1'
      rw [m0] at e0
      rw [m1] at e1
      rw [m2] at e2
      rw [m3] at e3
      rw [mf] at e6 e7 e8 e9
      rw [mb] at e10
      simp only at e6 e7 e8 e9
      obtain ⟨K4, hK4⟩ : ∃ z, z = K + 1 + 1 + 1 + 1 := ⟨_, rfl⟩
      obtain ⟨q5, hq5⟩ : ∃ z, z = q + 1 + 1 + 1 + 1 + 1 := ⟨_, rfl⟩
      rw [← hK4] at hw hp
      rw [← hq5] at he hk1'
      have b1 : 0 ≤ K4 := by omega
      have b2 : 0 ≤ p := by omega
      have b3 : 0 ≤ q := by omega
      have b4 : 0 ≤ q5 := by omega
      have b5 : K4 ≤ k' := by omega
      have b6 : p ≤ k' := by omega
      have b7 : q ≤ k' := by omega
      have b8 : q5 ≤ k' := by omega
      have b9 : 0 ≤ k1 := by omega
      have b10 : ¬ p < 0 := by omega
      have b11 : ¬ q < 0 := by omega
      have b12 : ¬ k1 < 0 := by omega
      have b13 : q + 5 ≤ k' := by omega
      have HW := Lib.hid hw
      have HG := Lib.hid hg
      have HE := Lib.hid he
      have HP := Lib.hid hp
      have HQ := Lib.hid hq
      have HQ5 := Lib.hid hq5
      have HK4 := Lib.hid hK4
      have HK1 := Lib.hid hk1'
      clear lw lg le hx hrx hdr hrest m0 m1 m2 m3 mw mg mf mb me hw hg he hp hq hq5 hK4 hk1'
      clear HD
      go_wp2_with fail
      rw [← HK4.out]
      refine (heldB_any _ _ _ K4 _ HW.out b1 (by omega) hnw).mono ?_
      rintro e _ ⟨rfl, rfl⟩
      rw [← HP.out]
      go_wp2_with fail
      refine (heldB_any _ _ _ p _ HG.out b2 (by omega) hng).mono ?_
      rintro e _ ⟨rfl, rfl⟩
      rw [← HQ.out]
      go_wp2_with fail
      rw [← HQ5.out]
      refine (heldE_any _ _ _ q5 _ HE.out b4 (by omega) (Nat.le_trans hnb (by decide))).mono ?_
      rintro e _ ⟨rfl, rfl⟩
      rw [← HK1.out]
      go_wp2_with fail
      go_round
      case rel => exact ⟨k + 1, k1, by omega, by go_num, rfl, b9, hle1, HREST.out⟩
      case measure => simp [intOf]; omega
    · have hd := HD.out
      rw [List.drop_of_length_le (by rw [HR.out.1.len]; omega)] at hd
      have hkk : k' = K := hd
      have HKK := Lib.hid hkk
      clear hd hkk HD
      go_wp2
      go_ret
      exact ⟨ret_int HKK.out.symm, rfl⟩

theorem OwTs.apartI {lo hi B n c : Nat} {A : Option Addr} {w w' : World} {t : Sl} {xs : List Row} {vs : List Value} (h : OwTs lo hi w t xs) (k : Ow B w 3 1 A n c vs) (hg : w.grownBy w' (ownB A c)) : OwTs lo hi w' t xs :=
  ⟨h.1.apart k (by decide) hg, fun x hx => by
    obtain ⟨⟨h1, h2, h3⟩, h4, h5⟩ := h.2.1 x hx
    exact ⟨⟨h1.apart k (by decide) hg, h2.apart k (by decide) hg, h3⟩, h4.apart k (by decide) hg, h5⟩, h.2.2⟩
theorem keepZ {lo hi : Nat} {w w' : World} {s : Sl} {zs : List Int} (h : OwZ lo hi w s zs) (hk : KeepI w w') : OwZ lo hi w' s zs :=
  OwI.keep h fun g hg hc => by
    obtain ⟨g', cur, hA, _, hb, _⟩ := h.ow.blk hc
    rw [hA] at hg
    injection hg with hg
    simp only at hg
    subst hg
    exact hk _ _ hb

/-- a service of the numbers from k on -/
def MkS (k : Int) (S : Svc) (k' : Int) : Prop :=
  ∃ p : Int, MkTs k S.ts p ∧ S.keys = markZ p S.keys.length ∧ S.tags = markZ (p + (S.keys.length : Int)) S.tags.length ∧ k' = p + (S.keys.length : Int) + (S.tags.length : Int)

set_option maxRecDepth 100000 in
set_option maxHeartbeats 4000000 in
theorem markS_any (lo hi : Nat) (t k g : Sl) (S : Svc) (k0 : Int) (w : World) (h : OwS lo hi w t k g S) (hhi : hi ≤ w.heap.size) (hk0 : 0 ≤ k0) (hk1 : k0 ≤ 562949953421312) :
    Calls Tryz.prog 20 #[svV t k g, .int .i64 k0] w fun e w' => ∃ (S' : Svc) (k' : Int), e = .returned (.int .i64 k') ∧ OwS lo hi w' t k g S' ∧ MkS k0 S' k' ∧ Frm lo hi w w' ∧ k0 ≤ k' ∧ k' ≤ k0 + 10995160481792 := by
  obtain ⟨⟨xs, hxs, hts⟩, hkk, hgg, hnd, hn2, hn3⟩ := h
  have hn1 := hts.2.2.2.2
  have HTS := Lib.hid hts
  have HKK := Lib.hid hkk
  have HGG := Lib.hid hgg
  have HND := Lib.hid hnd
  clear hts hkk hgg hnd hxs
  have HB0 := Lib.hid ((Below.refl w.heap.size w).alloc (Nat.le_refl _) (.cells #[.slice t.a t.n t.c, .slice k.a k.n k.c, .slice g.a g.n g.c] 37))
  go_enter Tryz.func20, Tryz.ntmps20
  go_wp2_with fail
  refine (markT_any lo hi t xs k0 _ (HTS.out.next HB0.out) hk0 hk1).mono ?_
  rintro e w1 ⟨ys, p, rfl, ho1, hm1, hf1, hi1, hp0, hp1⟩
  have hpb : p ≤ k0 + 10995126599680 := by omega
  have kA1 : Blk w1 w.heap.size 37 #[.slice t.a t.n t.c, .slice k.a k.n k.c, .slice g.a g.n g.c] := (Blk.new w 37 _).frm hf1 (.inr hhi)
  have HO1 := Lib.hid ho1
  have HM1 := Lib.hid hm1
  have HF1 := Lib.hid ((Frm.of_below HB0.out lo hi).trans hf1)
  have HK1 := Lib.hid (keepZ (HKK.out.next HB0.out) hi1)
  have HG1 := Lib.hid (keepZ (HGG.out.next HB0.out) hi1)
  have cA1 := fun o => kA1.cell o
  have p0 : 0 ≤ p := by omega
  have HKA1 := Lib.hid kA1
  clear ho1 hm1 hf1 hi1 kA1
  go_wp2_with fail
  refine (markZ_any lo _ _ _ S.keys p _ HK1.out.ow p0 (by omega) hn2).mono ?_
  rintro e w2 ⟨rfl, ho2, hg2⟩
  have hf2 := Frm.of_own HK1.out hg2
  have kA2 := HKA1.out.frm hf2 (.inr hhi)
  have HO2 := Lib.hid (HO1.out.apartI HK1.out.ow hg2)
  have HK2 := Lib.hid (show OwZ lo hi w2 k (markZ p k.n) from ⟨ho2, HK1.out.2⟩)
  have HG2 := Lib.hid (HG1.out.apartB (fun b hb hb' => by
    have := (List.nodup_append.1 HND.out).2.2 b hb' b hb
    exact this rfl) hg2)
  have HF2 := Lib.hid (HF1.out.trans hf2)
  have cA2 := fun o => kA2.cell o
  clear ho2 hg2 hf2 kA2 cA1
  obtain ⟨q, hq⟩ : ∃ z, z = p + (k.n : Int) := ⟨_, rfl⟩
  rw [← hq]
  have q0 : 0 ≤ q := by omega
  have q1 : q ≤ k0 + 10995126599680 + 1048576 := by omega
  have HQ := Lib.hid hq
  clear hq
  go_wp2_with fail
  refine (markZ_any lo _ _ _ S.tags q _ HG2.out.ow q0 (by omega) hn3).mono ?_
  rintro e w3 ⟨rfl, ho3, hg3⟩
  have hf3 := Frm.of_own HG2.out hg3
  have HO3 := Lib.hid (HO2.out.apartI HG2.out.ow hg3)
  have HG3 := Lib.hid (show OwZ lo hi w3 g (markZ q g.n) from ⟨ho3, HG2.out.2⟩)
  have HK3 := Lib.hid (HK2.out.apartB (fun b hb hb' => by
    have := (List.nodup_append.1 HND.out).2.2 b hb b hb'
    exact this rfl) hg3)
  have HF3 := Lib.hid (HF2.out.trans hf3)
  clear ho3 hg3 hf3 cA2
  go_wp2_with fail
  go_ret
  have hq := HQ.out
  refine ⟨⟨ys.map (·.2), markZ p k.n, markZ q g.n⟩, _, rfl, ⟨⟨ys, rfl, HO3.out⟩, HK3.out, HG3.out, HND.out, hn2, hn3⟩, ⟨p, HM1.out, ?_, ?_, ?_⟩, HF3.out, by omega, by omega⟩
  · simp only [markZ_length]
  · simp only [markZ_length, ← hq]
  · simp only [markZ_length]; omega

set_option maxRecDepth 100000 in
set_option maxHeartbeats 4000000 in
theorem heldS_any (t k g : Sl) (S : Svc) (k0 k' : Int) (w : World) (h : RdS w t k g S) (hm : MkS k0 S k') (hk0 : 0 ≤ k0) (hk1 : k' ≤ 1125899906842624) :
    Calls Tryz.prog 22 #[svV t k g, .int .i64 k0] w fun e w' => e = .returned (.int .i64 k') ∧ Below w.heap.size w w' := by
  obtain ⟨⟨xs, hxs, hts⟩, hkk, hgg, ⟨_, hn1⟩, ⟨_, hn2⟩, _, hn3⟩ := h
  obtain ⟨p, h1, h2, h3, h4⟩ := hm
  rw [hkk.len] at h2 h3 h4
  rw [hgg.len] at h3 h4
  rw [h2] at hkk
  rw [h3] at hgg
  rw [← hxs] at h1
  have hp0 := h1.le
  obtain ⟨q, hq⟩ : ∃ z, z = p + (k.n : Int) := ⟨_, rfl⟩
  rw [← hq] at hgg h4
  have q0 : 0 ≤ q := by omega
  have q1 : q ≤ k' := by omega
  have p0 : 0 ≤ p := by omega
  have p1 : p ≤ k' := by omega
  have p2 : ¬ p < 0 := by omega
  have q2 : ¬ q < 0 := by omega
  have k2 : ¬ k' < 0 := by omega
  have HTS := Lib.hid hts
  have HKK := Lib.hid hkk
  have HGG := Lib.hid hgg
  have HM := Lib.hid h1
  have HQ := Lib.hid hq
  have H4 := Lib.hid h4
  clear hts hkk hgg hxs h1 h2 h3 h4 hq
  have HB0 := Lib.hid ((Below.refl w.heap.size w).alloc (Nat.le_refl _) (.cells #[.slice t.a t.n t.c, .slice k.a k.n k.c, .slice g.a g.n g.c] 37))
  go_enter Tryz.func22, Tryz.ntmps22
  go_wp2_with fail
  refine (heldT_any _ _ _ xs k0 p _ (HTS.out.below HB0.out) HM.out hk0 (by omega) hn1).mono ?_
  rintro e _ ⟨rfl, rfl⟩
  go_wp2_with fail
  refine (heldZ_any _ _ _ p _ (HKK.out.below HB0.out) p0 (by omega) hn2).mono ?_
  rintro e _ ⟨rfl, rfl⟩
  rw [← HQ.out]
  go_wp2_with fail
  refine (heldZ_any _ _ _ q _ (HGG.out.below HB0.out) q0 (by omega) hn3).mono ?_
  rintro e _ ⟨rfl, rfl⟩
  rw [← H4.out]
  go_wp2_with fail
  go_ret
  exact ⟨rfl, HB0.out⟩
end Go.Proofs.YtepddbfafdfadaaGreat

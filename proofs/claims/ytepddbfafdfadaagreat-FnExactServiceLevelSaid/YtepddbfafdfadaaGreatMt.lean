/-
  laws.markTrackS, heldTrackS, markService, heldService: a service of the call's own is turned into one of numbers, and these are found again.
-/
import Derived.Test.YtepddbfafdfadaaGreatMd
namespace Go.Proofs.YtepddbfafdfadaaGreat
open Go.RowKit Go.Sort

/-- the rows of integers are as before -/
def KeepI (w w' : World) : Prop := ∀ x cs, Blk w x 3 cs → w'.heap[x]? = w.heap[x]?
theorem KeepI.refl (w : World) : KeepI w w := fun _ _ _ => rfl
theorem KeepI.trans {a b c : World} (h : KeepI a b) (k : KeepI b c) : KeepI a c := fun x cs hx => (k x cs ((h x cs hx).trans hx)).trans (h x cs hx)
theorem KeepI.only {g T : Nat} {a b : World} {cur : Array Value} (h : Blk a g T cur) (hne : 3 ≠ T) (ho : Only g a b) : KeepI a b := fun x cs hx => ho.block x hx.lt (by
  intro e
  injection e with e
  exact Blk.ne_ hx h hne e)
theorem KeepI.own {lo hi T sz n c : Nat} {A : Option Addr} {a b : World} {vs : List Value} (h : OwI lo hi a T sz A n c vs) (hne : 3 ≠ T) (hg : a.grownBy b (ownB A c)) : KeepI a b := fun x cs hx => hg.block x hx.lt (by
  intro e
  rcases Nat.eq_zero_or_pos c with h0 | h0
  · rw [h0] at e; simp [ownB] at e
  · obtain ⟨g2, _, e2, _, hb2, _⟩ := h.ow.blk h0
    unfold ownB at e
    rw [if_neg (by omega), e2] at e
    injection e with e
    simp only at e
    exact Blk.ne_ hx hb2 hne e)
theorem OwTs.mid {lo hi : Nat} {t : Sl} {w : World} {a b : List Row} {x : Row} (h : OwTs lo hi w t (a ++ x :: b)) : OwT lo hi w x := h.2.1 x (by simp)
theorem OwTs.at12 {lo hi n c g k : Nat} {w : World} {a b : List Row} {x : Row} (h : OwTs lo hi w ⟨some ⟨g, 0, none⟩, n, c⟩ (a ++ x :: b)) (hk : a.length = k) (p : TP) (hp : x.1 = p) :
    ∃ cur z0 z1 z2 z3 z6 z7 z8 z9 z10, Blk w g 62 cur ∧ w.cell? ⟨g, k * 12, none⟩ = some (z0) ∧ w.cell? ⟨g, k * 12 + 1, none⟩ = some (z1) ∧ w.cell? ⟨g, k * 12 + 2, none⟩ = some (z2) ∧ w.cell? ⟨g, k * 12 + 3, none⟩ = some (z3) ∧ w.cell? ⟨g, k * 12 + 4, none⟩ = some (.slice p.w.a p.w.n p.w.c) ∧ w.cell? ⟨g, k * 12 + 5, none⟩ = some (.slice p.g.a p.g.n p.g.c) ∧ w.cell? ⟨g, k * 12 + 6, none⟩ = some (z6) ∧ w.cell? ⟨g, k * 12 + 7, none⟩ = some (z7) ∧ w.cell? ⟨g, k * 12 + 8, none⟩ = some (z8) ∧ w.cell? ⟨g, k * 12 + 9, none⟩ = some (z9) ∧ w.cell? ⟨g, k * 12 + 10, none⟩ = some (z10) ∧ w.cell? ⟨g, k * 12 + 11, none⟩ = some (.slice p.b.a p.b.n p.b.c) := by
  subst hp
  obtain ⟨h1, _, _, _, _⟩ := h
  have hO : Ow lo w 62 12 (some ⟨g, 0, none⟩) n c (cellsT (a ++ x :: b)) := h1.ow
  have hlen := hO.len
  rw [cellsT_len, List.length_append, List.length_cons] at hlen
  have hle := hO.le
  obtain ⟨g', cur, hg, hB, hb, hnc, hcm, hcs, htk⟩ := hO.blk (by omega)
  injection hg with hg
  injection hg with hg
  subst hg
  have hc : ∀ j v, (encT x)[j]? = some v → w.cell? ⟨g, k * 12 + j, none⟩ = some v := by
    intro j v hv
    have hj : j < 12 := (List.getElem?_eq_some_iff.1 hv).1
    have h2 : (cellsT (a ++ x :: b))[k * 12 + j]? = some v := cellsX_get encT_len (a ++ x :: b) k x (by rw [← hk]; simp) j v hv
    rw [hb.cell, ← Array.getElem?_toList]
    rw [← htk, List.getElem?_take] at h2
    split at h2
    · exact h2
    · cases h2
  exact ⟨cur, _, _, _, _, _, _, _, _, _, hb, hc 0 _ rfl, hc 1 _ rfl, hc 2 _ rfl, hc 3 _ rfl, hc 4 _ rfl, hc 5 _ rfl, hc 6 _ rfl, hc 7 _ rfl, hc 8 _ rfl, hc 9 _ rfl, hc 10 _ rfl, hc 11 _ rfl⟩

/-- a track of the numbers from k on -/
def MkT (k : Int) (x : Trk) (k' : Int) : Prop :=
  ∃ p q : Int, p = k + 1 + 1 + 1 + 1 + 4 * (x.l.walls.length : Int) ∧ q = p + 4 * (x.l.gates.length : Int) ∧ x.l.id = k ∧ x.l.ticks = k + 1 ∧ x.l.sx = k + 1 + 1 ∧ x.l.sy = k + 1 + 1 + 1 ∧
    x.l.walls = markB (k + 1 + 1 + 1 + 1) x.l.walls.length ∧ x.l.gates = markB p x.l.gates.length ∧ x.l.f = (q, q + 1, q + 1 + 1, q + 1 + 1 + 1) ∧ x.l.bans = q + 1 + 1 + 1 + 1 ∧
    x.b = markL (q + 1 + 1 + 1 + 1 + 1) x.b.length ∧ k' = q + 1 + 1 + 1 + 1 + 1 + 2 * (x.b.length : Int)
def MkTs : Int → List Trk → Int → Prop
  | k, [], k' => k' = k
  | k, x :: r, k' => ∃ k1, MkT k x k1 ∧ MkTs k1 r k'
theorem MkT.le {k k' : Int} {x : Trk} (h : MkT k x k') : k ≤ k' := by
  obtain ⟨p, q, h1, h2, _, _, _, _, _, _, _, _, _, h3⟩ := h
  omega
theorem MkTs.le : ∀ {xs : List Trk} {k k' : Int}, MkTs k xs k' → k ≤ k'
  | [], _, _, h => by rw [show _ = _ from h]; exact Int.le_refl _
  | _ :: _, _, _, ⟨_, h1, h2⟩ => Int.le_trans h1.le h2.le
theorem MkTs.app : ∀ {xs : List Trk} {k K K' : Int} {x : Trk}, MkTs k xs K → MkT K x K' → MkTs k (xs ++ [x]) K'
  | [], _, _, _, _, h, h' => by
    have : _ = _ := h
    subst this
    exact ⟨_, h', rfl⟩
  | _ :: _, _, _, _, _, ⟨_, h1, h2⟩, h' => ⟨_, h1, h2.app h'⟩

set_option maxRecDepth 100000 in
set_option maxHeartbeats 8000000 in
theorem markT_any (lo hi : Nat) (t : Sl) (xs : List Row) (k0 : Int) (w : World) (h : OwTs lo hi w t xs) (hk0 : 0 ≤ k0) (hk1 : k0 ≤ 562949953421312) :
    Calls Tryz.prog 64 #[.slice t.a t.n t.c, .int .i64 k0] w fun e w' => ∃ (ys : List Row) (k' : Int), e = .returned (.int .i64 k') ∧ OwTs lo hi w' t ys ∧ MkTs k0 (ys.map (·.2)) k' ∧ Frm lo hi w w' ∧ KeepI w w' ∧ k0 ≤ k' ∧ k' ≤ k0 + t.n * 10485769 := by
  obtain ⟨A, n, c⟩ := t
  have hn := h.2.2.2.2
  have hlen0 := h.1.ow.len
  have hle := h.1.ow.le
  simp only at hn hlen0 hle ⊢
  rw [cellsT_len] at hlen0
  have hxl : xs.length = n := by omega
  rcases Nat.eq_zero_or_pos n with hn0 | hn0
  · subst hn0
    obtain rfl : xs = [] := List.eq_nil_of_length_eq_zero hxl
    have H := Lib.hid h
    clear h hlen0 hxl
    go_enter Tryz.func64, Tryz.ntmps64
    go_wp2
    go_loop [1, 5] (fun k i => k = .int .i64 k0 ∧ i = .int .i64 0) (fun _ _ => 0)
    case atStart => exact ⟨rfl, rfl⟩
    case round =>
      obtain ⟨rfl, rfl⟩ := hrel
      go_wp2
      go_ret
      exact ⟨[], k0, rfl, H.out, rfl, Frm.refl _ _ _, KeepI.refl _, Int.le_refl _, by omega⟩
  · obtain ⟨g, _, hA, _⟩ := h.1.ow.blk (by simp only; omega)
    simp only at hA
    subst hA
    have H := Lib.hid h
    have HXL := Lib.hid hxl
    clear h hlen0 hxl
    go_enter Tryz.func64, Tryz.ntmps64
    go_wp2
    go_loopw [1, 5] (fun kk i wr => ∃ (k : Nat) (K : Int), k ≤ n ∧ i = .int .i64 k ∧ kk = .int .i64 K ∧ k0 ≤ K ∧ K ≤ k0 + k * 10485769 ∧ Hid ((Frm lo hi w wr ∧ KeepI w wr) ∧ ∃ ys zs : List Row, ys.length = k ∧ OwTs lo hi wr ⟨some ⟨g, 0, none⟩, n, c⟩ (ys ++ zs) ∧ MkTs k0 (ys.map (·.2)) K)) (fun _ i _ => n - (intOf i).toNat)
    case atStart => exact ⟨0, k0, Nat.zero_le _, rfl, rfl, Int.le_refl _, by omega, ⟨Frm.refl _ _ _, KeepI.refl _⟩, [], xs, rfl, H.out, rfl⟩
    case round =>
      obtain ⟨k, K, hk, rfl, rfl, hK0, hK1, HR⟩ := hrel
      by_cases hlt : k < n
      · obtain ⟨hfr, ys, zs, hyl, hos, hmk⟩ := HR.out
        have hzl : ys.length + zs.length = n := by
          have := hos.1.ow.len
          simp only [cellsT_len, List.length_append] at this
          omega
        obtain ⟨x, zs', rfl⟩ : ∃ x zs', zs = x :: zs' := by
          cases zs with
          | nil => simp at hzl; omega
          | cons x r => exact ⟨x, r, rfl⟩
        have HF := Lib.hid hfr
        have HOS := Lib.hid hos
        have HMK := Lib.hid hmk
        have HYL := Lib.hid hyl
        have hx0 := hos.2.1 x (by simp)
        have hnw := hx0.1.2.2.1
        have hng := hx0.1.2.2.2
        have hnb := hx0.2.2
        clear hfr hos hmk hyl hzl hx0 HR
        obtain ⟨cur0, z0, z1, z2, z3, z6, z7, z8, z9, z10, hbk0, c0, c1, c2, c3, c4, c5, c6, c7, c8, c9, c10, c11⟩ := HOS.out.at12 HYL.out x.1 rfl
        have hf := fun o => hbk0.frozen o
        have hgl := hbk0.lt
        have HBK0 := Lib.hid hbk0
        clear hbk0
        go_wp2_with fail
        obtain ⟨K4, hK4⟩ : ∃ z, z = K + 1 + 1 + 1 + 1 := ⟨_, rfl⟩
        have H1 := Lib.hid ((((HOS.out.store 0 (x.1, (⟨⟨K, x.2.l.ticks, x.2.l.sx, x.2.l.sy, x.2.l.walls, x.2.l.gates, x.2.l.f, x.2.l.bans⟩, x.2.b⟩ : Trk)) HYL.out rfl rfl rfl rfl rfl (by omega)).store 1 (x.1, (⟨⟨K, K + 1, x.2.l.sx, x.2.l.sy, x.2.l.walls, x.2.l.gates, x.2.l.f, x.2.l.bans⟩, x.2.b⟩ : Trk)) HYL.out rfl rfl rfl rfl rfl (by omega)).store 2 (x.1, (⟨⟨K, K + 1, K + 1 + 1, x.2.l.sy, x.2.l.walls, x.2.l.gates, x.2.l.f, x.2.l.bans⟩, x.2.b⟩ : Trk)) HYL.out rfl rfl rfl rfl rfl (by omega)).store 3 (x.1, (⟨⟨K, K + 1, K + 1 + 1, K + 1 + 1 + 1, x.2.l.walls, x.2.l.gates, x.2.l.f, x.2.l.bans⟩, x.2.b⟩ : Trk)) HYL.out rfl rfl rfl rfl rfl (by omega))
        rw [← hK4]
        have b0 : 0 ≤ K4 := by omega
        have b1 : K4 ≤ k0 + k * 10485769 + 4 := by omega
        have b2 : K + 4 = K4 := by omega
        have HK4 := Lib.hid hK4
        have HB2 := Lib.hid b2
        clear hK4 b2
        refine (markB_any lo _ _ _ x.2.l.walls K4 _ H1.out.mid.1.1.ow (by omega) (by omega) hnw).mono ?_
        rintro e w1 ⟨rfl, hO1, hg1⟩
        have HF1 := Lib.hid (Frm.of_own H1.out.mid.1.1 hg1)
        have HV1 := Lib.hid (KeepI.own H1.out.mid.1.1 (by decide) hg1)
        have H2 := Lib.hid (H1.out.walls hg1 hO1)
        clear hO1 hg1 c0 c1 c2 c3 c4 c5 c6 c7 c8 c9 c10 c11 hf hgl
        obtain ⟨cur1, z0, z1, z2, z3, z6, z7, z8, z9, z10, hbk1, c0, c1, c2, c3, c4, c5, c6, c7, c8, c9, c10, c11⟩ := H2.out.at12 HYL.out x.1 rfl
        have hf := fun o => hbk1.frozen o
        have hgl := hbk1.lt
        have HBK1 := Lib.hid hbk1
        clear hbk1
        obtain ⟨p, hp⟩ : ∃ p, p = K4 + 4 * (x.1.w.n : Int) := ⟨_, rfl⟩
        rw [← hp]
        have b3 : 0 ≤ p := by omega
        have b4 : p ≤ k0 + k * 10485769 + 4 + 4 * 1048576 := by omega
        have HP := Lib.hid hp
        clear hp
        go_wp2_with fail
        refine (markB_any lo _ _ _ x.2.l.gates p _ H2.out.mid.1.2.1.ow (by omega) (by omega) hng).mono ?_
        rintro e w2 ⟨rfl, hO2, hg2⟩
        have HF2 := Lib.hid (Frm.of_own H2.out.mid.1.2.1 hg2)
        have HV2 := Lib.hid (KeepI.own H2.out.mid.1.2.1 (by decide) hg2)
        have H3 := Lib.hid (H2.out.gates hg2 hO2)
        clear hO2 hg2 c0 c1 c2 c3 c4 c5 c6 c7 c8 c9 c10 c11 hf hgl
        obtain ⟨cur2, z0, z1, z2, z3, z6, z7, z8, z9, z10, hbk2, c0, c1, c2, c3, c4, c5, c6, c7, c8, c9, c10, c11⟩ := H3.out.at12 HYL.out x.1 rfl
        have hf := fun o => hbk2.frozen o
        have hgl := hbk2.lt
        have HBK2 := Lib.hid hbk2
        clear hbk2
        obtain ⟨q, hq⟩ : ∃ q, q = p + 4 * (x.1.g.n : Int) := ⟨_, rfl⟩
        rw [← hq]
        have b5 : 0 ≤ q := by omega
        have b6 : q ≤ k0 + k * 10485769 + 4 + 8 * 1048576 := by omega
        have HQ := Lib.hid hq
        clear hq
        go_wp2_with fail
        have H4 := Lib.hid (((((H3.out.store 6 (x.1, (⟨⟨K, K + 1, K + 1 + 1, K + 1 + 1 + 1, markB K4 x.1.w.n, markB p x.1.g.n, (q, x.2.l.f.2.1, x.2.l.f.2.2.1, x.2.l.f.2.2.2), x.2.l.bans⟩, x.2.b⟩ : Trk)) HYL.out rfl rfl rfl rfl rfl (by omega)).store 7 (x.1, (⟨⟨K, K + 1, K + 1 + 1, K + 1 + 1 + 1, markB K4 x.1.w.n, markB p x.1.g.n, (q, q + 1, x.2.l.f.2.2.1, x.2.l.f.2.2.2), x.2.l.bans⟩, x.2.b⟩ : Trk)) HYL.out rfl rfl rfl rfl rfl (by omega)).store 8 (x.1, (⟨⟨K, K + 1, K + 1 + 1, K + 1 + 1 + 1, markB K4 x.1.w.n, markB p x.1.g.n, (q, q + 1, q + 1 + 1, x.2.l.f.2.2.2), x.2.l.bans⟩, x.2.b⟩ : Trk)) HYL.out rfl rfl rfl rfl rfl (by omega)).store 9 (x.1, (⟨⟨K, K + 1, K + 1 + 1, K + 1 + 1 + 1, markB K4 x.1.w.n, markB p x.1.g.n, (q, q + 1, q + 1 + 1, q + 1 + 1 + 1), x.2.l.bans⟩, x.2.b⟩ : Trk)) HYL.out rfl rfl rfl rfl rfl (by omega)).store 10 (x.1, (⟨⟨K, K + 1, K + 1 + 1, K + 1 + 1 + 1, markB K4 x.1.w.n, markB p x.1.g.n, (q, q + 1, q + 1 + 1, q + 1 + 1 + 1), q + 1 + 1 + 1 + 1⟩, x.2.b⟩ : Trk)) HYL.out rfl rfl rfl rfl rfl (by omega))
        obtain ⟨q5, hq5⟩ : ∃ z, z = q + 1 + 1 + 1 + 1 + 1 := ⟨_, rfl⟩
        rw [← hq5]
        have b7 : 0 ≤ q5 := by omega
        have b8 : q5 ≤ k0 + k * 10485769 + 9 + 8 * 1048576 := by omega
        have HQ5 := Lib.hid hq5
        clear hq5
        refine (markE_any lo _ _ _ x.2.b q5 _ H4.out.mid.2.1.ow (by omega) (by omega) (Nat.le_trans hnb (by decide))).mono ?_
        rintro e w3 ⟨rfl, hO3, hg3⟩
        have HF3 := Lib.hid (Frm.of_own H4.out.mid.2.1 hg3)
        have HV3 := Lib.hid (KeepI.own H4.out.mid.2.1 (by decide) hg3)
        have H5 := Lib.hid (H4.out.board hg3 hO3)
        clear hO3 hg3 c0 c1 c2 c3 c4 c5 c6 c7 c8 c9 c10 c11 hf hgl
        go_wp2_with fail
        have hK4 := HK4.out
        have hp := HP.out
        have hq := HQ.out
        have hq5 := HQ5.out
        refine ⟨⟨k + 1, q5 + 2 * (x.1.b.n : Int), by omega, by go_num, rfl, by omega, by push_cast; omega, ⟨?_, ?_⟩, ys ++ [(x.1, (⟨⟨K, K + 1, K + 1 + 1, K + 1 + 1 + 1, markB K4 x.1.w.n, markB p x.1.g.n, (q, q + 1, q + 1 + 1, q + 1 + 1 + 1), q + 1 + 1 + 1 + 1⟩, markL q5 x.1.b.n⟩ : Trk))], zs', by simp [HYL.out], ?_, ?_⟩, by simp [intOf]; omega⟩
        · have hin : lo ≤ g ∧ g < hi := ⟨(HOS.out.1.lt rfl (show 0 < c by omega)).1, (HOS.out.1.lt rfl (show 0 < c by omega)).2.1⟩
          refine ((HF.out.1.trans (Frm.trans ?_ HF1.out)).trans HF2.out).trans (Frm.trans ?_ HF3.out)
          · iterate 4 (refine Frm.set_ ?_ hin.1 hin.2 _)
            exact Frm.refl _ _ _
          · iterate 5 (refine Frm.set_ ?_ hin.1 hin.2 _)
            exact Frm.refl _ _ _
        · refine ((HF.out.2.trans (KeepI.trans (KeepI.only HBK0.out (by decide) (g := g) ?_) HV1.out)).trans HV2.out).trans (KeepI.trans (KeepI.only HBK2.out (by decide) (g := g) ?_) HV3.out)
          · iterate 4 (refine Only.set_ ?_ (.inl rfl) _)
            exact Only.refl _ _
          · iterate 5 (refine Only.set_ ?_ (.inl rfl) _)
            exact Only.refl _ _
        · rw [List.append_assoc]
          exact H5.out
        · rw [List.map_append]
          refine HMK.out.app ⟨p, q, ?_, ?_, rfl, rfl, rfl, rfl, ?_, ?_, rfl, rfl, ?_, ?_⟩
          · simp only [markB_length]; omega
          · simp only [markB_length]; omega
          · simp only [markB_length, hK4]
          · simp only [markB_length]
          · simp only [markL_length, hq5]
          · simp only [markL_length]; omega
      · obtain ⟨hfr, ys, zs, hyl, hos, hmk⟩ := HR.out
        have hzl : ys.length + zs.length = n := by
          have := hos.1.ow.len
          simp only [cellsT_len, List.length_append] at this
          omega
        obtain rfl : zs = [] := List.eq_nil_of_length_eq_zero (by omega)
        rw [List.append_nil] at hos
        have HF := Lib.hid hfr
        have HOS := Lib.hid hos
        have HMK := Lib.hid hmk
        clear hfr hos hmk hyl hzl HR
        go_wp2
        go_ret
        exact ⟨ys, K, rfl, HOS.out, HMK.out, HF.out.1, HF.out.2, hK0, (by obtain rfl : k = n := (by omega); exact hK1)⟩

end Go.Proofs.YtepddbfafdfadaaGreat
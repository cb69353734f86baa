/-
  Lemmas and contracts: Rv Pb. No condition.
-/
import Derived.Test.YtepddbfafdfadaaGreatKa15
import Derived.Test.YtepddbfafdfadaaGreatKa28
import Derived.Test.YtepddbfafdfadaaGreatKa29
namespace Go.Proofs.YtepddbfafdfadaaGreat
open Go.RowKit Go.Sort
def revT (p : Int) (t : Trk) : Trk := ⟨t.l, withoutE p t.b⟩
def revN (p : Int) : List Trk → Int
 | [] => 0
 | t :: r => (t.b.length : Int) - (withoutE p t.b).length + revN p r
def revS (S : Svc) (p : Int) : Svc × Int :=
 if validS S && inR p 0 9 then (⟨S.ts.map (revT p), S.keys.set p.toNat 0, S.tags⟩, revN p S.ts) else (⟨[], [], []⟩, -1)
theorem revS_bad {S : Svc} {p : Int} (h : (validS S && inR p 0 9) = false) : revS S p = (⟨[], [], []⟩, -1) := by simp [revS, h]
theorem revS_done {S : Svc} {p : Int} (h1 : validS S = true) (h2 : inR p 0 9 = true) : revS S p = (⟨S.ts.map (revT p), S.keys.set p.toNat 0, S.tags⟩, revN p S.ts) := by simp [revS, h1, h2]
theorem revN_app (p : Int) (a : List Trk) (t : Trk) : revN p (a ++ [t]) = revN p a + ((t.b.length : Int) - (withoutE p t.b).length) := by
 induction a with
 | nil => simp [revN]
 | cons x r ih => simp only [List.cons_append, revN, ih]; omega
theorem without_le (p : Int) (es : List Ent) : (withoutE p es).length ≤ es.length := by
 have := withoutE_len p es es.length
 rwa [List.take_length] at this
theorem remove_valid {es : List Ent} (h : validE es = true) (p : Int) : (removeE es p).1 = withoutE p es ∧ (es.length : Int) - (withoutE p es).length = if (removeE es p).2 = true then 1 else 0 := by
 unfold removeE
 rw [if_pos h]
 refine ⟨rfl, ?_⟩
 by_cases hf : findE p es 0 < 0
 ·rw [without_none hf]
  have : ¬ (0 : Int) ≤ findE p es 0 := by omega
  simp [this]
 ·obtain ⟨k, e, _, he, hp⟩ := findE_ok (Int.not_lt.1 hf)
  rw [without_at h he hp]
  have hk := (List.getElem?_eq_some_iff.1 he).1
  have : (0 : Int) ≤ findE p es 0 := by omega
  simp [this]
  omega
def CntPost (B : Nat) (r : Svc × Int) (w : World) (e : Ending) (w' : World) : Prop :=
 ∃ t k g, e = .returned (.tuple #[svV t k g, .int .i64 r.2]) ∧ OwS B w'.heap.size w' t k g r.1 ∧ Below B w w'
theorem OwTs.newBoard {lo hi hi' n c g k : Nat} {w : World} {a b : List Row} {x : Row} {s : Sl} {es : List Ent} (h : OwTs lo hi w ⟨some ⟨g, 0, none⟩, n, c⟩ (a ++ x :: b)) (hk : a.length = k) (hb : OwEn hi hi' w s es) (hlh : lo ≤ hi) (hle : hi ≤ hi') (hs : s.n ≤ 1048576) :
  OwTs lo hi' (w.setCell ⟨g, k * 12 + 11, none⟩ (.slice s.a s.n s.c)) ⟨some ⟨g, 0, none⟩, n, c⟩ (a ++ (⟨x.1.w, x.1.g, s⟩, ⟨x.2.l, es⟩) :: b) := by
 obtain ⟨h1, h2, h3, h4, h5⟩ := h
 have hO : Ow lo w 62 12 (some ⟨g, 0, none⟩) n c (cellsT (a ++ x :: b)) := h1.ow
 have hlen : k * 12 + 11 < (cellsT (a ++ x :: b)).length := by rw [cellsT_len, List.length_append, List.length_cons, hk]; omega
 have hc : 0 < c := by
  have h6 := hO.len
  have h7 := hO.le
  rw [cellsT_len, List.length_append, List.length_cons] at h6
  omega
 have hG : w.grownBy (w.setCell ⟨g, k * 12 + 11, none⟩ (.slice s.a s.n s.c)) (ownB (some ⟨g, 0, none⟩) c) := by
  rw [ownB_some hc]
  exact Only.set_ (p := ⟨g, k * 12 + 11, none⟩) (Only.refl g w) (.inl rfl) _
 have hkeep : ∀ y, OwT lo hi w y → OwT lo hi' (w.setCell ⟨g, k * 12 + 11, none⟩ (.slice s.a s.n s.c)) y := fun y hy =>
  OwT.mono (⟨⟨hy.1.1.apart hO (by decide) hG, hy.1.2.1.apart hO (by decide) hG, hy.1.2.2⟩, hy.2.1.apart hO (by decide) hG, hy.2.2⟩) (Nat.le_refl _) hle
 refine ⟨?_, fun y hy => ?_, ?_, ?_, h5⟩
 ·have e := cellsX_set encT_len (a ++ x :: b) k x (⟨x.1.w, x.1.g, s⟩, ⟨x.2.l, es⟩) 11 (.slice s.a s.n s.c) (by rw [← hk]; simp) rfl (by decide)
  rw [← hk, List.set_append_right _ _ (Nat.le_refl _), Nat.sub_self, List.set_cons_zero, hk] at e
  refine ⟨?_, fun hc' g' hg' => Nat.lt_of_lt_of_le (h1.2 hc' g' hg') hle⟩
  show Ow lo _ _ 12 _ _ _ (cellsX encT (a ++ (⟨x.1.w, x.1.g, s⟩, ⟨x.2.l, es⟩) :: b))
  rw [e]
  exact hO.set_ hlen _
 ·rcases mid_mem hy with rfl | hy
  ·have hx := hkeep x (h2 x (by simp))
   refine ⟨hx.1, ?_, hs⟩
   exact (OwI.apart hb hO (by decide) hG).mono hlh (Nat.le_refl _)
  ·exact hkeep y (h2 y (by rcases hy with hy | hy <;> simp [hy]))
 ·rw [boxBlks_mid] at h3 ⊢; exact h3
 ·have hold : ∀ y, y ∈ a ∨ y ∈ b → ∀ c ∈ blkOf y.1.b, c < hi := fun y hy c hc => (OwI.mem (s := y.1.b) (h2 y (by rcases hy with hy | hy <;> simp [hy])).2.1 c hc).2
  have hnew : ∀ c ∈ blkOf s, hi ≤ c := fun c hc => (OwI.mem hb c hc).1
  rw [entBlks_mid, List.nodup_append] at h4 ⊢
  obtain ⟨n1, n2, n3⟩ := h4
  rw [List.nodup_append] at n2
  refine ⟨n1, ?_, ?_⟩
  ·rw [List.nodup_append]
   refine ⟨blkOf_nodup _, n2.2.1, fun u hu v hv e => ?_⟩
   obtain ⟨y, hy, hv⟩ := List.mem_flatMap.1 hv
   have := hold y (.inr hy) v hv
   have := hnew u hu
   omega
  ·intro u hu v hv e
   rcases List.mem_append.1 hv with hv | hv
   ·obtain ⟨y, hy, hu⟩ := List.mem_flatMap.1 hu
    have := hold y (.inl hy) u hu
    have := hnew v hv
    omega
   ·exact n3 u hu v (List.mem_append_right _ hv) e
set_option maxRecDepth 100000 in
set_option maxHeartbeats 8000000 in
theorem specServiceRevoke_any (t k g : Sl) (S : Svc) (pl : Int) (w : World) (hr : RdS w t k g S) :
  Calls Tryz.prog 38 #[svV t k g, .int .i64 pl] w (CntPost w.heap.size (revS S pl) w) := by
 have HRS := Lib.hid hr
 clear hr
 go_enter Tryz.func38, Tryz.ntmps38
 go_upto_region 1 with (fail)
 refine into_world (fun W => Below w.heap.size w W ∧ W.heap.size = w.heap.size + 2 ∧ Blk W w.heap.size 37 #[.slice t.a t.n t.c, .slice k.a k.n k.c, .slice g.a g.n g.c] ∧ Blk W (w.heap.size + 1) 37 #[.slice none 0 0, .slice none 0 0, .slice none 0 0]) ⟨by go_grown, by simp, (Blk.new _ _ _).alloc _, Blk.newAt _ _ _ _ (by simp)⟩ ?_
 rintro W ⟨hbw, hwz, hka, hkr⟩
 have HBW := Lib.hid hbw
 have HKA := Lib.hid hka
 have HKR := Lib.hid hkr
 have ca := fun o => hka.cell o
 have za := hka.lt
 clear hbw hka hkr
 go_wp2_with fail
 refine (specServiceValid_any _ _ _ S _ (HRS.out.below HBW.out)).mono ?_
 rintro e w1 ⟨rfl, hb1⟩
 have HB1 := Lib.hid (below_next HBW.out hb1)
 have HA1 := Lib.hid (HKA.out.next hb1)
 have HR1 := Lib.hid (HKR.out.next hb1)
 have hs1 := hb1.size
 clear hb1 ca za
 have ca := fun o => HA1.out.cell o
 have za := HA1.out.lt
 have cr := fun o => HR1.out.cell o
 have fr := fun o => HR1.out.frozen o
 have zr := HR1.out.lt
 cases hv : validS S
 ·have HBAD := Lib.hid (revS_bad (S := S) (p := pl) (by rw [hv]; rfl))
  clear hv
  go_wp2_with fail
  refine bodyPost_ret (v := .tuple #[svV ⟨none, 0, 0⟩ ⟨none, 0, 0⟩ ⟨none, 0, 0⟩, .int .i64 (-1)]) (by simp [results, Tryz.results38, go_sem, cr]) rfl ?_
  rw [HBAD.out]
  refine ⟨⟨none, 0, 0⟩, ⟨none, 0, 0⟩, ⟨none, 0, 0⟩, rfl, OwS.bare _ _ _ _ _ _, ?_⟩
  iterate 3 (refine Below.setCell ?_ (by simp) _)
  exact HB1.out
 ·have HV := Lib.hid hv
  clear hv
  go_wp2_with fail
  refine (l6In_any pl 0 9 _).mono ?_
  rintro e _ ⟨rfl, rfl⟩
  cases h2 : inR pl 0 9
  ·have HBAD := Lib.hid (revS_bad (S := S) (p := pl) (by rw [h2]; simp))
   clear h2
   go_wp2_with fail
   refine bodyPost_ret (v := .tuple #[svV ⟨none, 0, 0⟩ ⟨none, 0, 0⟩ ⟨none, 0, 0⟩, .int .i64 (-1)]) (by simp [results, Tryz.results38, go_sem, cr]) rfl ?_
   rw [HBAD.out]
   refine ⟨⟨none, 0, 0⟩, ⟨none, 0, 0⟩, ⟨none, 0, 0⟩, rfl, OwS.bare _ _ _ _ _ _, ?_⟩
   iterate 3 (refine Below.setCell ?_ (by simp) _)
   exact HB1.out
  ·have H2 := Lib.hid h2
   clear h2
   obtain ⟨q, rfl, hq⟩ := mem_inR H2.out
   have HDONE := Lib.hid (revS_done HV.out H2.out)
   have hlen := (validS_of HV.out).1
   go_wp2_with fail
   refine (l41Copy_any _ _ _ S _ (HRS.out.below HB1.out)).mono ?_
   rintro e w2 ⟨t2, k2, g2, rfl, ho2, hb2⟩
   have HO2 := Lib.hid ho2
   have HB2 := Lib.hid (below_next HB1.out hb2)
   have HR2 := Lib.hid (HR1.out.next hb2)
   have hs2 := hb2.size
   obtain ⟨⟨xs, hxs, hts⟩, hkk, hgg, hnd, hkn, hgn⟩ := ho2
   have HTS := Lib.hid hts
   have HKK := Lib.hid hkk
   have HGG := Lib.hid hgg
   have HND := Lib.hid hnd
   have HXS := Lib.hid hxs
   have hn2 := hts.2.2.2.2
   have hxl : xs.length = t2.n := hts.rd.1.len
   clear ca cr fr zr za hts hkk hgg hnd hxs
   obtain ⟨A2, n2, c2⟩ := t2
   obtain ⟨k2a, k2n, k2c⟩ := k2
   simp only at hn2 hxl
   go_upto_region 4 with (fail)
   refine into_world (fun W2 => Below w2.heap.size w2 W2 ∧ W2.heap.size = w2.heap.size + 1 ∧ Blk W2 w2.heap.size 37 #[.slice A2 n2 c2, .slice k2a k2n k2c, .slice g2.a g2.n g2.c]) ⟨ba (Below.refl _ _), by simp, Blk.new _ _ _⟩ ?_
   rintro W2 ⟨hX, hW2z, hloc⟩
   have HX := Lib.hid hX
   have HLX := Lib.hid hloc
   have HRX := Lib.hid (HR2.out.next hX)
   have HBX := Lib.hid (below_next HB2.out hX)
   have HTX := Lib.hid ((HTS.out.next hX).mono (lo' := w1.heap.size) (hi' := W2.heap.size) (Nat.le_refl _) hX.size)
   have HKX := Lib.hid (OwI.next HKK.out hX)
   have HGX := Lib.hid (OwI.next HGG.out hX)
   have HX0 := Lib.hid (hb2.trans (hX.mono hs2))
   have hs3 := hX.size
   clear hb2
   have cl := fun o => HLX.out.cell o
   have zl := HLX.out.lt
   clear hX hloc
   go_wp2_with fail
   go_loopw [7, 8, 9] (fun cnt i _ wr => ∃ p : Nat, p ≤ n2 ∧ i = .int .i64 p ∧ cnt = .int .i64 (revN q (S.ts.take p)) ∧ 0 ≤ revN q (S.ts.take p) ∧ revN q (S.ts.take p) ≤ p * 1048576 ∧ Hid (Below w1.heap.size w1 wr ∧ KeepI W2 wr ∧ W2.heap.size ≤ wr.heap.size ∧ Blk wr (w.heap.size + 1) 37 #[.slice none 0 0, .slice none 0 0, .slice none 0 0] ∧ Blk wr w2.heap.size 37 #[.slice A2 n2 c2, .slice k2a k2n k2c, .slice g2.a g2.n g2.c] ∧ ∃ ys zs : List Row, ys.length = p ∧ ys.map (·.2) = (S.ts.take p).map (revT q) ∧ zs.map (·.2) = S.ts.drop p ∧ OwTs w1.heap.size wr.heap.size wr ⟨A2, n2, c2⟩ (ys ++ zs))) (fun cnt i _ _ => n2 - (intOf i).toNat)
   case atStart => exact ⟨0, Nat.zero_le _, rfl, by simp [revN], by simp [revN], by simp [revN], HX0.out, KeepI.refl _, Nat.le_refl _, HRX.out, HLX.out, [], xs, rfl, by simp, by simpa using HXS.out, HTX.out⟩
   case round =>
    obtain ⟨p, hp, rfl, rfl, hN0, hN1, HH⟩ := hrel
    obtain ⟨hb, hki, hsz, hres, hloc, ys, zs, hyl, hys, hzs, hot⟩ := HH.out
    have hsl : S.ts.length = n2 := by rw [← HXS.out, List.length_map]; exact hxl
    have HKI := Lib.hid hki
    have HRES := Lib.hid hres
    have HLOC := Lib.hid hloc
    have HBL := Lib.hid hb
    clear HH hki hres hb cl zl
    have cl := fun o => hloc.cell o
    have zl := hloc.lt
    clear hloc
    by_cases hlt : p < n2
    ·obtain ⟨x, zs', rfl⟩ : ∃ x zs', zs = x :: zs' := by
      cases zs with
      | nil => have := congrArg List.length hzs; simp at this; omega
      | cons x r => exact ⟨x, r, rfl⟩
     have hx : S.ts[p]? = some x.2 := by
      have h1 : (S.ts.drop p)[0]? = some x.2 := by rw [← hzs]; rfl
      simpa using h1
     have hzs' : zs'.map (·.2) = S.ts.drop (p + 1) := by
      have h1 := congrArg List.tail hzs
      simpa [List.tail_drop] using h1
     have htk : S.ts.take (p + 1) = S.ts.take p ++ [x.2] := by rw [List.take_add_one, hx]; rfl
     have hrow := hot.2.1 x (by simp)
     have hvb := (valid_trk HV.out hx).2.1
     obtain ⟨gt, _, hA, _⟩ := hot.1.ow.blk (Nat.lt_of_lt_of_le (show 0 < n2 by omega) hot.1.ow.le)
     simp only at hA
     subst hA
     obtain ⟨cur, z0, z1, z2, z3, z6, z7, z8, z9, z10, hbk, _, _, _, _, _, _, _, _, _, _, _, e11⟩ := hot.at12 hyl x.1 rfl
     have hgl := hbk.lt
     have hne : w2.heap.size ≠ gt := Blk.ne_ HLOC.out hbk (by decide)
     have hne2 : w.heap.size + 1 ≠ gt := Blk.ne_ HRES.out hbk (by decide)
     have hnb := hrow.2.2
     have hbl : x.2.b.length = x.1.b.n := hrow.2.1.ow.rdE.len
     have hwl := without_le q x.2.b
     have HROW := Lib.hid hrow
     have HOT := Lib.hid hot
     have HYS := Lib.hid hys
     have HYL := Lib.hid hyl
     have HZS := Lib.hid hzs'
     have HTK := Lib.hid htk
     have HBK := Lib.hid hbk
     have hNs : revN q (S.ts.take (p + 1)) = revN q (S.ts.take p) + ((x.1.b.n : Int) - (withoutE q x.2.b).length) := by rw [htk, revN_app, hbl]
     have HNS := Lib.hid hNs
     obtain ⟨N, hN⟩ : ∃ N, N = revN q (S.ts.take p) := ⟨_, rfl⟩
     rw [← hN] at hN0 hN1 ⊢
     have HN := Lib.hid hN
     have HVB := Lib.hid hvb
     have HBLN := Lib.hid hbl
     clear hys hyl hzs hzs' htk hot hrow hx hbk hNs hN hvb hbl
     go_wp2_with fail
     refine (l32Without_any _ _ x.1.b.c x.2.b q _ HROW.out.2.1.ow.rdE (Nat.le_trans hnb (by decide))).mono ?_
     rintro e w3 ⟨A3, c3, rfl, hO3, hb3⟩
     have HL3 := Lib.hid (HLOC.out.next hb3)
     have HB3 := Lib.hid hb3
     have HOT3 := Lib.hid (HOT.out.next hb3)
     have HBK3 := Lib.hid (HBK.out.next hb3)
     have HO3 := Lib.hid hO3
     have hs4 := hb3.size
     obtain ⟨cur3, y0, y1, y2, y3, y6, y7, y8, y9, y10, hbk3, _, _, _, _, _, _, _, _, _, _, _, d11⟩ := HOT3.out.at12 HYL.out x.1 rfl
     have d11f := hbk3.frozen (p * 12 + 11)
     have hgl3 := hbk3.lt
     clear hb3 hO3 hbk3 cl zl e11 hgl
     have cl := fun o => HL3.out.cell o
     have zl := HL3.out.lt
     obtain ⟨L, hL⟩ : ∃ L, L = (withoutE q x.2.b).length := ⟨_, rfl⟩
     rw [← hL] at hwl ⊢
     have HLL := Lib.hid hL
     have hL20 : L ≤ 1048576 := by have := HBLN.out; omega
     clear hL
     go_wp2_with fail
     refine ⟨⟨p + 1, by omega, by go_num, ?_, ?_, ?_, ?_, ?_, ?_, ?_, ?_, ys ++ [(⟨x.1.w, x.1.g, ⟨A3, L, c3⟩⟩, ⟨x.2.l, withoutE q x.2.b⟩)], zs', by simp [HYL.out], ?_, HZS.out, ?_⟩, by simp [intOf]; omega⟩
     ·rw [HNS.out, ← HN.out, ← HLL.out];  congr 1; omega
     ·rw [HNS.out, ← HN.out, ← HLL.out]; have := HBLN.out; omega
     ·rw [HNS.out, ← HN.out, ← HLL.out]; push_cast; omega
     ·exact (HBL.out.trans (HB3.out.mono HBL.out.size)).setCell (by simp; have := (HOT.out.1.lt rfl (Nat.lt_of_lt_of_le (show 0 < n2 by omega) HOT.out.1.ow.le)).1; omega) _
     ·exact HKI.out.trans ((KeepI.of_below HB3.out).trans (KeepI.only (g := gt) HBK3.out (by decide) (Only.set_ (p := ⟨gt, p * 12 + 11, none⟩) (Only.refl gt _) (.inl rfl) _)))
     ·simpa [World.setCell] using Nat.le_trans hsz hs4
     ·exact (HRES.out.next HB3.out).far (p := ⟨gt, p * 12 + 11, none⟩) hne2 _
     ·exact HL3.out.far (p := ⟨gt, p * 12 + 11, none⟩) hne _
     ·rw [HTK.out, List.map_append, List.map_append, HYS.out]
      rfl
     ·rw [List.append_assoc]
      have h := HOT3.out.newBoard (s := ⟨A3, L, c3⟩) (es := withoutE q x.2.b) HYL.out (OwI.of (show OwE wr.heap.size w3 A3 L c3 (withoutE q x.2.b) by rw [HLL.out]; exact HO3.out)) (HBL.out.size) hs4 hL20
      have hz : ∀ v, (w3.setCell ⟨gt, p * 12 + 11, none⟩ v).heap.size = w3.heap.size := fun v => by simp [World.setCell]
      show OwTs _ (World.heap _).size _ _ _
      rw [hz]
      exact h
    ·have hpn : p = n2 := by omega
     subst hpn
     obtain rfl : zs = [] := by
      have := congrArg List.length hzs
      simp at this
      exact List.eq_nil_of_length_eq_zero (by omega)
     rw [List.append_nil] at hot
     have hts' : S.ts.take p = S.ts := List.take_of_length_le (by omega)
     rw [hts'] at hys hN0 hN1 ⊢
     have hkw := keepZ (s := ⟨k2a, k2n, k2c⟩) HKX.out HKI.out
     have hgw := keepZ (s := g2) HGX.out HKI.out
     have hk10 : k2n = 10 := by
      have h := hkw.ow.len
      simp only [List.length_map, Nat.mul_one] at h
      omega
     subst hk10
     obtain ⟨gk, _, hga, hgB, hblk, _⟩ := hkw.ow.blk (Nat.lt_of_lt_of_le (show 0 < 10 by decide) hkw.ow.le)
     simp only at hga
     subst hga
     have hos : OwS w1.heap.size wr.heap.size wr ⟨A2, p, c2⟩ ⟨some ⟨gk, 0, none⟩, 10, k2c⟩ g2 ⟨S.ts.map (revT q), S.keys, S.tags⟩ :=
      ⟨⟨ys, hys, hot⟩, OwI.mono hkw (Nat.le_refl _) (by omega), OwI.mono hgw (Nat.le_refl _) (by omega), HND.out, hkn, hgn⟩
     have HOS := Lib.hid hos
     have hkl := hkw.ow.rdI
     obtain ⟨b2, off2, zz, hA2, hb2', hz2, hc2⟩ := hkl.at_ (show q < 10 by omega)
     simp only at hA2
     injection hA2 with hA2
     injection hA2 with hA2 hA3
     subst hA2 hA3
     rw [Nat.zero_add] at hc2
     have hfk := hblk.frozen q
     have zk := hblk.lt
     have hgne : w.heap.size + 1 ≠ gk := by omega
     have hgne2 : w2.heap.size ≠ gk := Blk.ne_ HLOC.out hblk (by decide)
     clear hos hkw hgw hkl hblk hot hys hz2
     go_upto_region 12 with (fail)
     refine into_world (fun Y => Below w.heap.size w Y ∧ Blk Y (w.heap.size + 1) 37 #[.slice none 0 0, .slice none 0 0, .slice none 0 0] ∧ Blk Y w2.heap.size 37 #[.slice A2 p c2, .slice (some ⟨gk, 0, none⟩) 10 k2c, .slice g2.a g2.n g2.c] ∧ OwS w1.heap.size Y.heap.size Y ⟨A2, p, c2⟩ ⟨some ⟨gk, 0, none⟩, 10, k2c⟩ g2 ⟨S.ts.map (revT q), S.keys.set q 0, S.tags⟩) ⟨(HB1.out.trans (HBL.out.mono (by omega))).setCell (by simp; omega) _, HRES.out.far (p := ⟨gk, q, none⟩) hgne _, HLOC.out.far (p := ⟨gk, q, none⟩) hgne2 _, ?_⟩ ?_
     ·have h := HOS.out.setKey rfl (show q < 10 by omega) 0
      exact h.mono (Nat.le_refl _) (by simp [World.setCell])
     rintro Y ⟨hbY, hrY, hlY, hoY⟩
     clear hc2 hfk zk cl zl
     have HBY := Lib.hid hbY
     have HRY := Lib.hid hrY
     have HLY := Lib.hid hlY
     have HOY := Lib.hid hoY
     clear hbY hrY hlY hoY
     have cr := fun o => HRY.out.cell o
     have fr := fun o => HRY.out.frozen o
     have zr := HRY.out.lt
     have cl := fun o => HLY.out.cell o
     have zl := HLY.out.lt
     go_wp2_with fail
     refine bodyPost_ret (v := .tuple #[svV ⟨A2, p, c2⟩ ⟨some ⟨gk, 0, none⟩, 10, k2c⟩ g2, .int .i64 (revN q S.ts)]) (by simp [results, Tryz.results38, go_sem, cr]) rfl ?_
     rw [HDONE.out]
     have hend : ∀ Z : World, Frm (w.heap.size + 1) (w.heap.size + 2) Y Z → CntPost w.heap.size (⟨S.ts.map (revT q), S.keys.set q 0, S.tags⟩, revN q S.ts) w (.returned (.tuple #[svV ⟨A2, p, c2⟩ ⟨some ⟨gk, 0, none⟩, 10, k2c⟩ g2, .int .i64 (revN q S.ts)])) Z := fun Z hZ =>
      ⟨⟨A2, p, c2⟩, ⟨some ⟨gk, 0, none⟩, 10, k2c⟩, g2, rfl, (HOY.out.frm hZ (.inr (by omega))).mono (by omega) hZ.size, HBY.out.trans (hZ.below (by omega) HBY.out.size)⟩
     refine hend _ ?_
     iterate 3 (refine Frm.set_ ?_ (by simp) (by simp) _)
     exact Frm.refl _ _ _
set_option maxRecDepth 100000 in
set_option maxHeartbeats 8000000 in
theorem implServiceRevoke_any (t k g : Sl) (S : Svc) (pl : Int) (w : World) (hr : RdS w t k g S) :
  Calls Tryz.prog 37 #[svV t k g, .int .i64 pl] w (CntPost w.heap.size (revS S pl) w) := by
 have HRS := Lib.hid hr
 clear hr
 go_enter Tryz.func37, Tryz.ntmps37
 go_upto_region 1 with (fail)
 refine into_world (fun W => Below w.heap.size w W ∧ W.heap.size = w.heap.size + 2 ∧ Blk W w.heap.size 37 #[.slice t.a t.n t.c, .slice k.a k.n k.c, .slice g.a g.n g.c] ∧ Blk W (w.heap.size + 1) 37 #[.slice none 0 0, .slice none 0 0, .slice none 0 0]) ⟨by go_grown, by simp, (Blk.new _ _ _).alloc _, Blk.newAt _ _ _ _ (by simp)⟩ ?_
 rintro W ⟨hbw, hwz, hka, hkr⟩
 have HBW := Lib.hid hbw
 have HKA := Lib.hid hka
 have HKR := Lib.hid hkr
 have ca := fun o => hka.cell o
 have za := hka.lt
 clear hbw hka hkr
 go_wp2_with fail
 refine (implServiceValid_any _ _ _ S _ (HRS.out.below HBW.out)).mono ?_
 rintro e w1 ⟨rfl, hb1⟩
 have HB1 := Lib.hid (below_next HBW.out hb1)
 have HA1 := Lib.hid (HKA.out.next hb1)
 have HR1 := Lib.hid (HKR.out.next hb1)
 have hs1 := hb1.size
 clear hb1 ca za
 have ca := fun o => HA1.out.cell o
 have za := HA1.out.lt
 have cr := fun o => HR1.out.cell o
 have fr := fun o => HR1.out.frozen o
 have zr := HR1.out.lt
 cases hv : validS S
 ·have HBAD := Lib.hid (revS_bad (S := S) (p := pl) (by rw [hv]; rfl))
  clear hv
  go_wp2_with fail
  refine bodyPost_ret (v := .tuple #[svV ⟨none, 0, 0⟩ ⟨none, 0, 0⟩ ⟨none, 0, 0⟩, .int .i64 (-1)]) (by simp [results, Tryz.results37, go_sem, cr]) rfl ?_
  rw [HBAD.out]
  refine ⟨⟨none, 0, 0⟩, ⟨none, 0, 0⟩, ⟨none, 0, 0⟩, rfl, OwS.bare _ _ _ _ _ _, ?_⟩
  iterate 3 (refine Below.setCell ?_ (by simp) _)
  exact HB1.out
 ·have HV := Lib.hid hv
  clear hv
  go_wp2_with fail
  refine (inRange_any pl 0 9 _).mono ?_
  rintro e _ ⟨rfl, rfl⟩
  cases h2 : inR pl 0 9
  ·have HBAD := Lib.hid (revS_bad (S := S) (p := pl) (by rw [h2]; simp))
   clear h2
   go_wp2_with fail
   refine bodyPost_ret (v := .tuple #[svV ⟨none, 0, 0⟩ ⟨none, 0, 0⟩ ⟨none, 0, 0⟩, .int .i64 (-1)]) (by simp [results, Tryz.results37, go_sem, cr]) rfl ?_
   rw [HBAD.out]
   refine ⟨⟨none, 0, 0⟩, ⟨none, 0, 0⟩, ⟨none, 0, 0⟩, rfl, OwS.bare _ _ _ _ _ _, ?_⟩
   iterate 3 (refine Below.setCell ?_ (by simp) _)
   exact HB1.out
  ·have H2 := Lib.hid h2
   clear h2
   obtain ⟨q, rfl, hq⟩ := mem_inR H2.out
   have HDONE := Lib.hid (revS_done HV.out H2.out)
   have hlen := (validS_of HV.out).1
   go_wp2_with fail
   refine (copyService_any _ _ _ S _ (HRS.out.below HB1.out)).mono ?_
   rintro e w2 ⟨t2, k2, g2, rfl, ho2, hb2⟩
   have HO2 := Lib.hid ho2
   have HB2 := Lib.hid (below_next HB1.out hb2)
   have HR2 := Lib.hid (HR1.out.next hb2)
   have hs2 := hb2.size
   obtain ⟨⟨xs, hxs, hts⟩, hkk, hgg, hnd, hkn, hgn⟩ := ho2
   have HTS := Lib.hid hts
   have HKK := Lib.hid hkk
   have HGG := Lib.hid hgg
   have HND := Lib.hid hnd
   have HXS := Lib.hid hxs
   have hn2 := hts.2.2.2.2
   have hxl : xs.length = t2.n := hts.rd.1.len
   clear ca cr fr zr za hts hkk hgg hnd hxs
   obtain ⟨A2, n2, c2⟩ := t2
   obtain ⟨k2a, k2n, k2c⟩ := k2
   simp only at hn2 hxl
   go_upto_region 4 with (fail)
   refine into_world (fun W2 => Below w2.heap.size w2 W2 ∧ W2.heap.size = w2.heap.size + 1 ∧ Blk W2 w2.heap.size 37 #[.slice A2 n2 c2, .slice k2a k2n k2c, .slice g2.a g2.n g2.c]) ⟨ba (Below.refl _ _), by simp, Blk.new _ _ _⟩ ?_
   rintro W2 ⟨hX, hW2z, hloc⟩
   have HX := Lib.hid hX
   have HLX := Lib.hid hloc
   have HRX := Lib.hid (HR2.out.next hX)
   have HBX := Lib.hid (below_next HB2.out hX)
   have HTX := Lib.hid ((HTS.out.next hX).mono (lo' := w1.heap.size) (hi' := W2.heap.size) (Nat.le_refl _) hX.size)
   have HKX := Lib.hid (OwI.next HKK.out hX)
   have HGX := Lib.hid (OwI.next HGG.out hX)
   have HX0 := Lib.hid (hb2.trans (hX.mono hs2))
   have hs3 := hX.size
   clear hb2
   have cl := fun o => HLX.out.cell o
   have zl := HLX.out.lt
   clear hX hloc
   go_wp2_with fail
   go_loopw [7, 8, 9, 10, 25] (fun cnt _ _ _ i wr => ∃ p : Nat, p ≤ n2 ∧ i = .int .i64 p ∧ cnt = .int .i64 (revN q (S.ts.take p)) ∧ 0 ≤ revN q (S.ts.take p) ∧ revN q (S.ts.take p) ≤ p * 1048576 ∧ Hid (Below w1.heap.size w1 wr ∧ KeepI W2 wr ∧ W2.heap.size ≤ wr.heap.size ∧ Blk wr (w.heap.size + 1) 37 #[.slice none 0 0, .slice none 0 0, .slice none 0 0] ∧ Blk wr w2.heap.size 37 #[.slice A2 n2 c2, .slice k2a k2n k2c, .slice g2.a g2.n g2.c] ∧ ∃ ys zs : List Row, ys.length = p ∧ ys.map (·.2) = (S.ts.take p).map (revT q) ∧ zs.map (·.2) = S.ts.drop p ∧ OwTs w1.heap.size wr.heap.size wr ⟨A2, n2, c2⟩ (ys ++ zs))) (fun cnt _ _ _ i _ => n2 - (intOf i).toNat)
   case atStart => exact ⟨0, Nat.zero_le _, rfl, by simp [revN], by simp [revN], by simp [revN], HX0.out, KeepI.refl _, Nat.le_refl _, HRX.out, HLX.out, [], xs, rfl, by simp, by simpa using HXS.out, HTX.out⟩
   case round =>
    obtain ⟨p, hp, rfl, rfl, hN0, hN1, HH⟩ := hrel
    obtain ⟨hb, hki, hsz, hres, hloc, ys, zs, hyl, hys, hzs, hot⟩ := HH.out
    have hsl : S.ts.length = n2 := by rw [← HXS.out, List.length_map]; exact hxl
    have HKI := Lib.hid hki
    have HRES := Lib.hid hres
    have HLOC := Lib.hid hloc
    have HBL := Lib.hid hb
    clear HH hki hres hb cl zl
    have cl := fun o => hloc.cell o
    have zl := hloc.lt
    clear hloc
    by_cases hlt : p < n2
    ·obtain ⟨x, zs', rfl⟩ : ∃ x zs', zs = x :: zs' := by
      cases zs with
      | nil => have := congrArg List.length hzs; simp at this; omega
      | cons x r => exact ⟨x, r, rfl⟩
     have hx : S.ts[p]? = some x.2 := by
      have h1 : (S.ts.drop p)[0]? = some x.2 := by rw [← hzs]; rfl
      simpa using h1
     have hzs' : zs'.map (·.2) = S.ts.drop (p + 1) := by
      have h1 := congrArg List.tail hzs
      simpa [List.tail_drop] using h1
     have htk : S.ts.take (p + 1) = S.ts.take p ++ [x.2] := by rw [List.take_add_one, hx]; rfl
     have hrow := hot.2.1 x (by simp)
     have hvb := (valid_trk HV.out hx).2.1
     obtain ⟨gt, _, hA, _⟩ := hot.1.ow.blk (Nat.lt_of_lt_of_le (show 0 < n2 by omega) hot.1.ow.le)
     simp only at hA
     subst hA
     obtain ⟨cur, z0, z1, z2, z3, z6, z7, z8, z9, z10, hbk, _, _, _, _, _, _, _, _, _, _, _, e11⟩ := hot.at12 hyl x.1 rfl
     have hgl := hbk.lt
     have hne : w2.heap.size ≠ gt := Blk.ne_ HLOC.out hbk (by decide)
     have hne2 : w.heap.size + 1 ≠ gt := Blk.ne_ HRES.out hbk (by decide)
     have hnb := hrow.2.2
     have hbl : x.2.b.length = x.1.b.n := hrow.2.1.ow.rdE.len
     have hwl := without_le q x.2.b
     have HROW := Lib.hid hrow
     have HOT := Lib.hid hot
     have HYS := Lib.hid hys
     have HYL := Lib.hid hyl
     have HZS := Lib.hid hzs'
     have HTK := Lib.hid htk
     have HBK := Lib.hid hbk
     have hNs : revN q (S.ts.take (p + 1)) = revN q (S.ts.take p) + ((x.1.b.n : Int) - (withoutE q x.2.b).length) := by rw [htk, revN_app, hbl]
     have HNS := Lib.hid hNs
     obtain ⟨N, hN⟩ : ∃ N, N = revN q (S.ts.take p) := ⟨_, rfl⟩
     rw [← hN] at hN0 hN1 ⊢
     have HN := Lib.hid hN
     have HVB := Lib.hid hvb
     have HBLN := Lib.hid hbl
     clear hys hyl hzs hzs' htk hot hrow hx hbk hNs hN hvb hbl
     go_wp2_with fail
     refine (implBoardRemove_any _ _ x.1.b.c x.2.b q _ HROW.out.2.1.ow.rdE (Nat.le_trans hnb (by decide)) HROW.out.2.1.ow.le).mono ?_
     rintro e w3 ⟨A3, c3, rfl, hO3, hb3⟩
     obtain ⟨hrm1, hrm2⟩ := remove_valid HVB.out q
     rw [hrm1] at hO3 ⊢
     rw [HBLN.out] at hrm2
     have HRM := Lib.hid hrm2
     clear hrm1 hrm2
     have HL3 := Lib.hid (HLOC.out.next hb3)
     have HB3 := Lib.hid hb3
     have HOT3 := Lib.hid (HOT.out.next hb3)
     have HBK3 := Lib.hid (HBK.out.next hb3)
     have HO3 := Lib.hid hO3
     have hs4 := hb3.size
     obtain ⟨cur3, y0, y1, y2, y3, y6, y7, y8, y9, y10, hbk3, _, _, _, _, _, _, _, _, _, _, _, d11⟩ := HOT3.out.at12 HYL.out x.1 rfl
     have d11f := hbk3.frozen (p * 12 + 11)
     have hgl3 := hbk3.lt
     clear hb3 hO3 hbk3 cl zl e11 hgl
     have cl := fun o => HL3.out.cell o
     have zl := HL3.out.lt
     obtain ⟨L, hL⟩ : ∃ L, L = (withoutE q x.2.b).length := ⟨_, rfl⟩
     rw [← hL] at hwl ⊢
     have HLL := Lib.hid hL
     have hL20 : L ≤ 1048576 := by have := HBLN.out; omega
     clear hL
     cases hrb : (removeE x.2.b q).2
     all_goals
      have hrr := HRM.out
      rw [hrb, ← HLL.out] at hrr
      simp only [Bool.false_eq_true, if_false, if_true] at hrr
      have HRR := Lib.hid hrr
      clear hrr hrb
      go_wp2_with fail
      refine ⟨⟨p + 1, by omega, by go_num, ?_, ?_, ?_, ?_, ?_, ?_, ?_, ?_, ys ++ [(⟨x.1.w, x.1.g, ⟨A3, L, c3⟩⟩, ⟨x.2.l, withoutE q x.2.b⟩)], zs', by simp [HYL.out], ?_, HZS.out, ?_⟩, by simp [intOf]; omega⟩
      ·rw [HNS.out, ← HN.out, ← HLL.out]; congr 1; have := HRR.out; omega
      ·rw [HNS.out, ← HN.out, ← HLL.out]; have := HBLN.out; omega
      ·rw [HNS.out, ← HN.out, ← HLL.out]; push_cast; omega
      ·exact (HBL.out.trans (HB3.out.mono HBL.out.size)).setCell (by simp; have := (HOT.out.1.lt rfl (Nat.lt_of_lt_of_le (show 0 < n2 by omega) HOT.out.1.ow.le)).1; omega) _
      ·exact HKI.out.trans ((KeepI.of_below HB3.out).trans (KeepI.only (g := gt) HBK3.out (by decide) (Only.set_ (p := ⟨gt, p * 12 + 11, none⟩) (Only.refl gt _) (.inl rfl) _)))
      ·simpa [World.setCell] using Nat.le_trans hsz hs4
      ·exact (HRES.out.next HB3.out).far (p := ⟨gt, p * 12 + 11, none⟩) hne2 _
      ·exact HL3.out.far (p := ⟨gt, p * 12 + 11, none⟩) hne _
      ·rw [HTK.out, List.map_append, List.map_append, HYS.out]
       rfl
      ·rw [List.append_assoc]
       have h := HOT3.out.newBoard (s := ⟨A3, L, c3⟩) (es := withoutE q x.2.b) HYL.out (OwI.of (show OwE wr.heap.size w3 A3 L c3 (withoutE q x.2.b) by rw [HLL.out]; exact HO3.out)) (HBL.out.size) hs4 hL20
       have hz : ∀ v, (w3.setCell ⟨gt, p * 12 + 11, none⟩ v).heap.size = w3.heap.size := fun v => by simp [World.setCell]
       show OwTs _ (World.heap _).size _ _ _
       rw [hz]
       exact h
    ·have hpn : p = n2 := by omega
     subst hpn
     obtain rfl : zs = [] := by
      have := congrArg List.length hzs
      simp at this
      exact List.eq_nil_of_length_eq_zero (by omega)
     rw [List.append_nil] at hot
     have hts' : S.ts.take p = S.ts := List.take_of_length_le (by omega)
     rw [hts'] at hys hN0 hN1 ⊢
     have hkw := keepZ (s := ⟨k2a, k2n, k2c⟩) HKX.out HKI.out
     have hgw := keepZ (s := g2) HGX.out HKI.out
     have hk10 : k2n = 10 := by
      have h := hkw.ow.len
      simp only [List.length_map, Nat.mul_one] at h
      omega
     subst hk10
     obtain ⟨gk, _, hga, hgB, hblk, _⟩ := hkw.ow.blk (Nat.lt_of_lt_of_le (show 0 < 10 by decide) hkw.ow.le)
     simp only at hga
     subst hga
     have hos : OwS w1.heap.size wr.heap.size wr ⟨A2, p, c2⟩ ⟨some ⟨gk, 0, none⟩, 10, k2c⟩ g2 ⟨S.ts.map (revT q), S.keys, S.tags⟩ :=
      ⟨⟨ys, hys, hot⟩, OwI.mono hkw (Nat.le_refl _) (by omega), OwI.mono hgw (Nat.le_refl _) (by omega), HND.out, hkn, hgn⟩
     have HOS := Lib.hid hos
     have hkl := hkw.ow.rdI
     obtain ⟨b2, off2, zz, hA2, hb2', hz2, hc2⟩ := hkl.at_ (show q < 10 by omega)
     simp only at hA2
     injection hA2 with hA2
     injection hA2 with hA2 hA3
     subst hA2 hA3
     rw [Nat.zero_add] at hc2
     have hfk := hblk.frozen q
     have zk := hblk.lt
     have hgne : w.heap.size + 1 ≠ gk := by omega
     have hgne2 : w2.heap.size ≠ gk := Blk.ne_ HLOC.out hblk (by decide)
     clear hos hkw hgw hkl hblk hot hys hz2
     go_upto_region 13 with (fail)
     refine into_world (fun Y => Below w.heap.size w Y ∧ Blk Y (w.heap.size + 1) 37 #[.slice none 0 0, .slice none 0 0, .slice none 0 0] ∧ Blk Y w2.heap.size 37 #[.slice A2 p c2, .slice (some ⟨gk, 0, none⟩) 10 k2c, .slice g2.a g2.n g2.c] ∧ OwS w1.heap.size Y.heap.size Y ⟨A2, p, c2⟩ ⟨some ⟨gk, 0, none⟩, 10, k2c⟩ g2 ⟨S.ts.map (revT q), S.keys.set q 0, S.tags⟩) ⟨(HB1.out.trans (HBL.out.mono (by omega))).setCell (by simp; omega) _, HRES.out.far (p := ⟨gk, q, none⟩) hgne _, HLOC.out.far (p := ⟨gk, q, none⟩) hgne2 _, ?_⟩ ?_
     ·have h := HOS.out.setKey rfl (show q < 10 by omega) 0
      exact h.mono (Nat.le_refl _) (by simp [World.setCell])
     rintro Y ⟨hbY, hrY, hlY, hoY⟩
     clear hc2 hfk zk cl zl
     have HBY := Lib.hid hbY
     have HRY := Lib.hid hrY
     have HLY := Lib.hid hlY
     have HOY := Lib.hid hoY
     clear hbY hrY hlY hoY
     have cr := fun o => HRY.out.cell o
     have fr := fun o => HRY.out.frozen o
     have zr := HRY.out.lt
     have cl := fun o => HLY.out.cell o
     have zl := HLY.out.lt
     go_wp2_with fail
     refine bodyPost_ret (v := .tuple #[svV ⟨A2, p, c2⟩ ⟨some ⟨gk, 0, none⟩, 10, k2c⟩ g2, .int .i64 (revN q S.ts)]) (by simp [results, Tryz.results37, go_sem, cr]) rfl ?_
     rw [HDONE.out]
     have hend : ∀ Z : World, Frm (w.heap.size + 1) (w.heap.size + 2) Y Z → CntPost w.heap.size (⟨S.ts.map (revT q), S.keys.set q 0, S.tags⟩, revN q S.ts) w (.returned (.tuple #[svV ⟨A2, p, c2⟩ ⟨some ⟨gk, 0, none⟩, 10, k2c⟩ g2, .int .i64 (revN q S.ts)])) Z := fun Z hZ =>
      ⟨⟨A2, p, c2⟩, ⟨some ⟨gk, 0, none⟩, 10, k2c⟩, g2, rfl, (HOY.out.frm hZ (.inr (by omega))).mono (by omega) hZ.size, HBY.out.trans (hZ.below (by omega) HBY.out.size)⟩
     refine hend _ ?_
     iterate 3 (refine Frm.set_ ?_ (by simp) (by simp) _)
     exact Frm.refl _ _ _
end Go.Proofs.YtepddbfafdfadaaGreat

namespace Go.Proofs.YtepddbfafdfadaaGreat
open Go.RowKit Go.Sort
theorem valid_without {p : Int} {es : List Ent} (h : validE es = true) : validE (withoutE p es) = true := by
 obtain ⟨h1, h2, h3, h4⟩ := Good.of h
 have hs : (withoutE p es).Sublist es := List.filter_sublist
 exact Good.valid ⟨Nat.le_trans hs.length_le h1, fun e he => h2 e (hs.subset he), h3.sublist hs, h4.sublist hs⟩
theorem without_twice (p : Int) (es : List Ent) : withoutE p (withoutE p es) = withoutE p es := by
 unfold withoutE
 rw [List.filter_filter]
 congr 1
 funext e
 simp
theorem score_at {p : Int} : ∀ (es : List Ent) (j : Int) (k : Nat), 0 ≤ j → findE p es j = j + k → ∃ e, es[k]? = some e ∧ e.1 = p ∧ scoreE p es = e.2
 | [], j, k, hj, h => by simp [findE] at h; omega
 |x :: r, j, k, hj, h => by
  simp only [findE] at h
  split at h
  ·rename_i he
   obtain rfl : k = 0 := by omega
   exact ⟨x, rfl, he, by simp [scoreE, he]⟩
  ·rename_i he
   have hb := findE_bd p r (j + 1)
   cases k with
   | zero => omega
   | succ k =>
    obtain ⟨e, h1, h2, h3⟩ := score_at r (j + 1) k (by omega) (by rw [h]; push_cast; omega)
    exact ⟨e, by simpa using h1, h2, by simp [scoreE, he, h3]⟩
theorem addE_len8 (es : List Ent) (x : Ent) (h : es.length ≤ 8) : (addE es x).1.length ≤ 8 := by
 unfold addE
 split
 ·split
  ·exact h
  ·split
   ·exact h
   ·unfold outE; simp only [List.length_take]; omega
 ·exact Nat.zero_le _
end Go.Proofs.YtepddbfafdfadaaGreat

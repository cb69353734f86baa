/-
  Lemmas and contracts: Ew Pv Sm Sk Po Pq Pl Pr. No condition.
-/
import Derived.Laws.StructEq
import Derived.Test.YtepddbfafdfadaaGreatKa4
import Derived.Test.YtepddbfafdfadaaGreatKa15
import Derived.Test.YtepddbfafdfadaaGreatKa30
import Derived.Test.YtepddbfafdfadaaGreatKa32
import Derived.Test.YtepddbfafdfadaaGreatKa37
import Derived.Test.YtepddbfafdfadaaGreatKa38
namespace Go.Proofs.YtepddbfafdfadaaGreat
open Go.RowKit Go.Sort
def Bys (w : World) (A : Option Addr) (n c : Nat) (zs : List Int) : Prop := RdI .u8 w A n zs ∧ (∀ z ∈ zs, 0 ≤ z ∧ z ≤ 255) ∧ n ≤ c ∧ c ≤ maxLen
def SvOut (w : World) (e : Ending) (w' : World) : Prop := ∃ (t k g : Sl) (S : Svc), e = .returned (svV t k g) ∧ RdS w' t k g S ∧ Below w.heap.size w w'
def SvOut2 (w : World) (e : Ending) (w' : World) : Prop := ∃ (t k g : Sl) (S : Svc) (p : Int), e = .returned (.tuple #[svV t k g, .int .i64 p]) ∧ RdS w' t k g S ∧ Below w.heap.size w w'
def SvOut3 (w : World) (e : Ending) (w' : World) : Prop := ∃ (t k g : Sl) (S : Svc) (p z : Int), e = .returned (.tuple #[svV t k g, .int .i64 p, .int .i64 z]) ∧ RdS w' t k g S ∧ Below w.heap.size w w'
theorem only_set3 (o : Nat) (w : World) (v0 v1 v2 : Value) : Only o w (((w.setCell ⟨o, 0, none⟩ v0).setCell ⟨o, 1, none⟩ v1).setCell ⟨o, 2, none⟩ v2) := onlySets (.inl rfl) [v0, v1, v2] 0 w (Only.refl _ _)
set_option maxRecDepth 100000 in
set_option maxHeartbeats 2000000 in
theorem drawServiceValid_any (A : Option Addr) (n c : Nat) (zs : List Int) (w : World) (h : Bys w A n c zs) : Calls Tryz.prog 30 #[.slice A n c] w (SvOut w) := by
 obtain ⟨hr, hz, hn, hc⟩ := h
 have HR := Lib.hid hr
 have HZS := Lib.hid hz
 clear hr hz
 go_enter Tryz.func30, Tryz.ntmps30
 go_wp2_with fail
 refine (l6Open_any _ _ _ zs _ (HR.out.below (ba (Below.refl _ _))) HZS.out hn hc).mono ?_
 rintro e w1 ⟨g, rfl, hg, hR1, hb1⟩
 simp only [World.size_alloc] at hg
 have hgl := hR1.lt
 have n0 : w.heap.size ≠ g := by omega
 have KR := Lib.hid ((Blk.new w 37 (svC sl0 sl0 sl0)).next hb1)
 have HB := Lib.hid (show Below w.heap.size w w1 from ba hb1)
 have HR1 := Lib.hid hR1
 clear hb1 hR1
 go_wp2_with fail
 refine (l92Service_any g 0 _ HR1.out (by omega)).mono ?_
 rintro e w2 ⟨t, k, gg, S, sx, q, rfl, ho, hid, _, hq, hD⟩
 have hz2 := hD.2.size
 replace HB := Lib.hid (HB.out.trans (hD.2.below (by omega) (by omega)))
 replace KR := Lib.hid (KR.out.only hD.2 n0)
 have HRD := Lib.hid hD.1
 have HO := Lib.hid ho
 have HID := Lib.hid hid
 clear hD ho hid
 go_upto_region 3 with (fail)
 refine into_world (fun Y => Rdr Y g q ∧ Below w.heap.size w Y ∧ Blk Y w.heap.size 37 (svC sl0 sl0 sl0) ∧ Blk Y w2.heap.size 37 (svC t k gg) ∧ OwS (g + 1) w2.heap.size Y t k gg S) ⟨HRD.out.next (ba (Below.refl _ _)), HB.out.alloc HB.out.size _, KR.out.alloc _, Blk.new _ _ _, HO.out.next (ba (Below.refl _ _))⟩ ?_
 rintro Y ⟨hR, hB, hKR, hKS, ho⟩
 replace HRD := Lib.hid hR
 replace HB := Lib.hid hB
 replace KR := Lib.hid hKR
 have KS := Lib.hid hKS
 replace HO := Lib.hid ho
 clear hR hB hKR hKS ho
 have HDS := Lib.hid (DS.of (q := g) (r := w.heap.size) HO.out (by omega) (by omega))
 have hgY := HRD.out.lt
 have hsY := KS.out.lt
 have cs := fun o => KS.out.cell o
 have fs := fun o => KS.out.frozen o
 have zs := KS.out.lt
 go_wp2_with fail
 refine (l92Ruined_any g q w.heap.size t k gg S _ HRD.out (by omega) HDS.out (by omega) HID.out).mono ?_
 rintro e w3 ⟨t2, k2, g2, S2, q2, rfl, hds, hq2, hD⟩
 have hz3 := hD.2.size
 replace HB := Lib.hid (HB.out.trans (hD.2.below (by omega) (by omega)))
 replace KR := Lib.hid (KR.out.only hD.2 n0)
 replace HRD := Lib.hid hD.1
 replace HDS := Lib.hid hds
 clear hds hD cs fs zs
 have cr := fun o => KR.out.cell o
 have fr := fun o => KR.out.frozen o
 have zr := KR.out.lt
 go_wp2_with fail
 refine bodyPost_ret (v := svV t2 k2 g2) (by simp [results, Tryz.results30, go_sem, cr]) rfl ?_
 exact ⟨t2, k2, g2, S2, rfl, (HDS.out.step (Kp.of_only2 (only_set3 _ _ _ _ _) g)).rd, below_set3 HB.out (Nat.le_refl _)⟩
set_option maxRecDepth 100000 in
set_option maxHeartbeats 2000000 in
theorem drawServiceKey_any (A : Option Addr) (n c : Nat) (zs : List Int) (w : World) (h : Bys w A n c zs) : Calls Tryz.prog 32 #[.slice A n c] w (SvOut3 w) := by
 obtain ⟨hr, hz, hn, hc⟩ := h
 have HR := Lib.hid hr
 have HZS := Lib.hid hz
 clear hr hz
 go_enter Tryz.func32, Tryz.ntmps32
 go_wp2_with fail
 refine (l6Open_any _ _ _ zs _ (HR.out.below (ba (Below.refl _ _))) HZS.out hn hc).mono ?_
 rintro e w1 ⟨g, rfl, hg, hR1, hb1⟩
 simp only [World.size_alloc] at hg
 have hgl := hR1.lt
 have n0 : w.heap.size ≠ g := by omega
 have KR := Lib.hid ((Blk.new w 37 (svC sl0 sl0 sl0)).next hb1)
 have HB := Lib.hid (show Below w.heap.size w w1 from ba hb1)
 have HR1 := Lib.hid hR1
 clear hb1 hR1
 go_wp2_with fail
 refine (l92Service_any g 0 _ HR1.out (by omega)).mono ?_
 rintro e w2 ⟨t, k, gg, S, sx, q, rfl, ho, hid, _, hq, hD⟩
 have hz2 := hD.2.size
 replace HB := Lib.hid (HB.out.trans (hD.2.below (by omega) (by omega)))
 replace KR := Lib.hid (KR.out.only hD.2 n0)
 have HRD := Lib.hid hD.1
 have HO := Lib.hid ho
 have HID := Lib.hid hid
 clear hD ho hid
 go_upto_region 3 with (fail)
 refine into_world (fun Y => Rdr Y g q ∧ Below w.heap.size w Y ∧ Blk Y w.heap.size 37 (svC sl0 sl0 sl0) ∧ Blk Y w2.heap.size 37 (svC t k gg) ∧ OwS (g + 1) w2.heap.size Y t k gg S) ⟨HRD.out.next (ba (Below.refl _ _)), HB.out.alloc HB.out.size _, KR.out.alloc _, Blk.new _ _ _, HO.out.next (ba (Below.refl _ _))⟩ ?_
 rintro Y ⟨hR, hB, hKR, hKS, ho⟩
 replace HRD := Lib.hid hR
 replace HB := Lib.hid hB
 replace KR := Lib.hid hKR
 have KS := Lib.hid hKS
 replace HO := Lib.hid ho
 clear hR hB hKR hKS ho
 have HDS := Lib.hid (DS.of (q := g) (r := w.heap.size) HO.out (by omega) (by omega))
 have hgY := HRD.out.lt
 have hsY := KS.out.lt
 have cs := fun o => KS.out.cell o
 have fs := fun o => KS.out.frozen o
 have zs := KS.out.lt
 go_wp2_with fail
 refine (l92Ruined_any g q w.heap.size t k gg S _ HRD.out (by omega) HDS.out (by omega) HID.out).mono ?_
 rintro e w3 ⟨t2, k2, g2, S2, q2, rfl, hds, hq2, hD⟩
 have hz3 := hD.2.size
 replace HB := Lib.hid (HB.out.trans (hD.2.below (by omega) (by omega)))
 replace KR := Lib.hid (KR.out.only hD.2 n0)
 replace HRD := Lib.hid hD.1
 replace HDS := Lib.hid hds
 clear hds hD cs fs zs
 go_wp2_with fail
 refine (pick_any g 12 _ _ HRD.out (by omega)).mono ?_
 rintro e w4 ⟨v4, rfl, a4, b4, hR, hO⟩
 have c4 := b4 (by omega)
 have hz4 := hO.size
 replace HB := Lib.hid (HB.out.trans (hO.below (by omega) (by omega)))
 replace KR := Lib.hid (KR.out.only hO n0)
 replace HRD := Lib.hid hR
 replace HDS := Lib.hid (HDS.out.only hO)
 clear b4 hR hO
 go_wp2_with fail
 refine (l91Key_any g _ _ HRD.out (by omega)).mono ?_
 rintro e w5 ⟨z, p5, rfl, hp5, hR, hO⟩
 replace HB := Lib.hid (HB.out.trans (hO.below (by omega) (by omega)))
 replace KR := Lib.hid (KR.out.only hO n0)
 replace HDS := Lib.hid (HDS.out.only hO)
 clear hR hO
 have cr := fun o => KR.out.cell o
 have fr := fun o => KR.out.frozen o
 have zr := KR.out.lt
 go_wp2_with fail
 refine bodyPost_ret (v := .tuple #[svV t2 k2 g2, .int .i64 (v4 - 1), .int .i64 z]) (by simp [results, Tryz.results32, go_sem, cr]) rfl ?_
 exact ⟨t2, k2, g2, S2, _, z, rfl, (HDS.out.step (Kp.of_only2 (only_set3 _ _ _ _ _) g)).rd, below_set3 HB.out (Nat.le_refl _)⟩
set_option maxRecDepth 100000 in
set_option maxHeartbeats 2000000 in
theorem drawServiceRevoke_any (A : Option Addr) (n c : Nat) (zs : List Int) (w : World) (h : Bys w A n c zs) : Calls Tryz.prog 36 #[.slice A n c] w (SvOut2 w) := by
 obtain ⟨hr, hz, hn, hc⟩ := h
 have HR := Lib.hid hr
 have HZS := Lib.hid hz
 clear hr hz
 go_enter Tryz.func36, Tryz.ntmps36
 go_wp2_with fail
 refine (l6Open_any _ _ _ zs _ (HR.out.below (ba (Below.refl _ _))) HZS.out hn hc).mono ?_
 rintro e w1 ⟨g, rfl, hg, hR1, hb1⟩
 simp only [World.size_alloc] at hg
 have hgl := hR1.lt
 have n0 : w.heap.size ≠ g := by omega
 have KR := Lib.hid ((Blk.new w 37 (svC sl0 sl0 sl0)).next hb1)
 have HB := Lib.hid (show Below w.heap.size w w1 from ba hb1)
 have HR1 := Lib.hid hR1
 clear hb1 hR1
 go_wp2_with fail
 refine (l92Service_any g 0 _ HR1.out (by omega)).mono ?_
 rintro e w2 ⟨t, k, gg, S, sx, q, rfl, ho, hid, _, hq, hD⟩
 have hz2 := hD.2.size
 replace HB := Lib.hid (HB.out.trans (hD.2.below (by omega) (by omega)))
 replace KR := Lib.hid (KR.out.only hD.2 n0)
 have HRD := Lib.hid hD.1
 have HO := Lib.hid ho
 have HID := Lib.hid hid
 clear hD ho hid
 go_upto_region 3 with (fail)
 refine into_world (fun Y => Rdr Y g q ∧ Below w.heap.size w Y ∧ Blk Y w.heap.size 37 (svC sl0 sl0 sl0) ∧ Blk Y w2.heap.size 37 (svC t k gg) ∧ OwS (g + 1) w2.heap.size Y t k gg S) ⟨HRD.out.next (ba (Below.refl _ _)), HB.out.alloc HB.out.size _, KR.out.alloc _, Blk.new _ _ _, HO.out.next (ba (Below.refl _ _))⟩ ?_
 rintro Y ⟨hR, hB, hKR, hKS, ho⟩
 replace HRD := Lib.hid hR
 replace HB := Lib.hid hB
 replace KR := Lib.hid hKR
 have KS := Lib.hid hKS
 replace HO := Lib.hid ho
 clear hR hB hKR hKS ho
 have HDS := Lib.hid (DS.of (q := g) (r := w.heap.size) HO.out (by omega) (by omega))
 have hgY := HRD.out.lt
 have hsY := KS.out.lt
 have cs := fun o => KS.out.cell o
 have fs := fun o => KS.out.frozen o
 have zs := KS.out.lt
 go_wp2_with fail
 refine (l92Ruined_any g q w.heap.size t k gg S _ HRD.out (by omega) HDS.out (by omega) HID.out).mono ?_
 rintro e w3 ⟨t2, k2, g2, S2, q2, rfl, hds, hq2, hD⟩
 have hz3 := hD.2.size
 replace HB := Lib.hid (HB.out.trans (hD.2.below (by omega) (by omega)))
 replace KR := Lib.hid (KR.out.only hD.2 n0)
 replace HRD := Lib.hid hD.1
 replace HDS := Lib.hid hds
 clear hds hD cs fs zs
 go_wp2_with fail
 refine (pick_any g 7 _ _ HRD.out (by omega)).mono ?_
 rintro e w4 ⟨v4, rfl, a4, b4, hR, hO⟩
 have c4 := b4 (by omega)
 have hz4 := hO.size
 replace HB := Lib.hid (HB.out.trans (hO.below (by omega) (by omega)))
 replace KR := Lib.hid (KR.out.only hO n0)
 replace HRD := Lib.hid hR
 replace HDS := Lib.hid (HDS.out.only hO)
 clear b4 hR hO
 go_wp2_with fail
 refine (pick_any g 20 _ _ HRD.out (by omega)).mono ?_
 rintro e w5 ⟨v5, rfl, a5, b5, hR, hO⟩
 have c5 := b5 (by omega)
 have hz5 := hO.size
 replace HB := Lib.hid (HB.out.trans (hO.below (by omega) (by omega)))
 replace KR := Lib.hid (KR.out.only hO n0)
 replace HRD := Lib.hid hR
 replace HDS := Lib.hid (HDS.out.only hO)
 clear b5 hR hO
 go_wp2_with fail
 refine (pick_any g 20 _ _ HRD.out (by omega)).mono ?_
 rintro e w6 ⟨v6, rfl, a6, b6, hR, hO⟩
 have c6 := b6 (by omega)
 have hz6 := hO.size
 replace HB := Lib.hid (HB.out.trans (hO.below (by omega) (by omega)))
 replace KR := Lib.hid (KR.out.only hO n0)
 replace HRD := Lib.hid hR
 replace HDS := Lib.hid (HDS.out.only hO)
 clear b6 hR hO
 have cr := fun o => KR.out.cell o
 have fr := fun o => KR.out.frozen o
 have zr := KR.out.lt
 go_wp2_with fail
 refine bodyPost_ret (v := .tuple #[svV t2 k2 g2, .int .i64 (v4 + v5 / 19 * 4 - v6 / 19)]) (by simp [results, Tryz.results36, go_sem, cr]) rfl ?_
 exact ⟨t2, k2, g2, S2, _, rfl, (HDS.out.step (Kp.of_only2 (only_set3 _ _ _ _ _) g)).rd, below_set3 HB.out (Nat.le_refl _)⟩
end Go.Proofs.YtepddbfafdfadaaGreat
namespace Go.Proofs.YtepddbfafdfadaaGreat
open Go.RowKit Go.Sort
theorem validS_mk {S : Svc} (h1 : S.keys.length = 10) (h2 : S.ts.length ≤ 4) (h3 : S.tags.length ≤ 12) (h4 : S.keys.all keyOk = true) (h5 : ∀ k, k < S.ts.length → trkOk S k = true) (h6 : S.tags.all hashOk = true) : validS S = true := by
 unfold validS
 simp only [Bool.and_eq_true, decide_eq_true_eq, List.all_eq_true]
 exact ⟨⟨⟨⟨⟨h1, h2⟩, h3⟩, List.all_eq_true.1 h4⟩, fun k hk => h5 k (List.mem_range.1 hk)⟩, List.all_eq_true.1 h6⟩
theorem keys_set {ks : List Int} {p : Nat} {v : Int} (h : ks.all keyOk = true) (hv : keyOk v = true) : (ks.set p v).all keyOk = true := by
 rw [List.all_eq_true] at h ⊢
 intro z hz
 rcases List.mem_or_eq_of_mem_set hz with hz | rfl
 ·exact h z hz
 ·exact hv
theorem prevId_map {ts : List Trk} {f : Trk → Trk} (hf : ∀ t, (f t).l.id = t.l.id) (k : Nat) : prevId (ts.map f) k = prevId ts k := by
 unfold prevId
 rw [List.getElem?_map]
 cases ts[k - 1]? with
 | none => rfl
 | some t => simp [hf]
theorem keyed_set {ks : List Int} {p : Nat} {v : Int} {e : Ent} (h : keyed ks e = true) (hne : e.1.toNat ≠ p ∨ v ≠ 0) : keyed (ks.set p v) e = true := by
 unfold keyed at h ⊢
 simp only [decide_eq_true_eq] at h ⊢
 rw [List.getElem?_set]
 by_cases hp : p = e.1.toNat
 ·rw [if_pos hp]
  by_cases hl : p < ks.length
  ·rw [if_pos hl]
   rcases hne with hne | hne
   ·exact absurd hp.symm hne
   ·simpa using hne
  ·exfalso
   rw [← hp, List.getElem?_eq_none (by omega)] at h
   exact h rfl
 ·rw [if_neg hp]
  exact h
theorem valid_players {es : List Ent} (h : validE es = true) {e : Ent} (he : e ∈ es) : 0 ≤ e.1 ∧ e.1 ≤ 9 := by
 obtain ⟨k, hk, rfl⟩ := List.getElem_of_mem he
 have := okE_bd (validE_ok h (List.getElem?_eq_getElem hk))
 omega
theorem rev_valid {S : Svc} {p : Int} (h : validS S = true) (hp : inR p 0 9 = true) : validS ⟨S.ts.map (revT p), S.keys.set p.toNat 0, S.tags⟩ = true := by
 obtain ⟨h1, h2, h3, h4, h5, h6⟩ := validS_of h
 obtain ⟨q, hq, _⟩ := mem_inR hp
 refine validS_mk (by simpa using h1) (by simpa using h2) h3 (keys_set h4 (by decide)) (fun k hk => ?_) h6
 have hk' : k < S.ts.length := by simpa using hk
 obtain ⟨t, ht⟩ : ∃ t, S.ts[k]? = some t := ⟨_, List.getElem?_eq_getElem hk'⟩
 have ht' : (S.ts.map (revT p))[k]? = some (revT p t) := by rw [List.getElem?_map, ht]; rfl
 obtain ⟨a1, a2, a3, a4⟩ := valid_trk h ht
 rw [trkOk_some (S := ⟨S.ts.map (revT p), S.keys.set p.toNat 0, S.tags⟩) ht']
 simp only [Bool.and_eq_true]
 refine ⟨⟨⟨a1, valid_without a2⟩, ?_⟩, ?_⟩
 ·simp only [prevId_map (f := revT p) (fun _ => rfl)]
  by_cases h0 : 0 < k
  ·have := a3 h0
   simp [h0]
   show prevId S.ts k < t.l.id
   exact this
  ·simp [h0]
 ·rw [List.all_eq_true]
  intro e he
  have he' : e ∈ t.b ∧ (e.1 != p) = true := List.mem_filter.1 he
  have hb := valid_players a2 he'.1
  refine keyed_set (List.all_eq_true.1 a4 e he'.1) (.inl ?_)
  intro hc
  have h7 : e.1 ≠ p := by simpa using he'.2
  omega
theorem rev_twice {S : Svc} {p : Int} (h : validS S = true) (hp : inR p 0 9 = true) : revS ⟨S.ts.map (revT p), S.keys.set p.toNat 0, S.tags⟩ p = (⟨S.ts.map (revT p), S.keys.set p.toNat 0, S.tags⟩, 0) := by
 rw [revS_done (rev_valid h hp) hp]
 have h1 : (S.ts.map (revT p)).map (revT p) = S.ts.map (revT p) := by
  rw [List.map_map]
  exact List.map_congr_left fun t _ => by simp [revT, without_twice]
 have h2 : ∀ ts : List Trk, revN p (ts.map (revT p)) = 0 := by
  intro ts
  induction ts with
  | nil => rfl
  | cons t r ih => simp only [List.map_cons, revN, ih]; simp [revT, without_twice]
 simp only [h1, h2, List.set_set]
theorem rev_neg {S : Svc} {p : Int} (h : (revS S p).2 < 0) : (validS S && inR p 0 9) = false := by
 cases hv : (validS S && inR p 0 9)
 ·rfl
 ·exfalso
  simp only [Bool.and_eq_true] at hv
  rw [revS_done hv.1 hv.2] at h
  have : ∀ ts : List Trk, 0 ≤ revN p ts := by
   intro ts
   induction ts with
   | nil => simp [revN]
   | cons t r ih => have := without_le p t.b; simp only [revN]; omega
  have := this S.ts
  simp only at h
  omega
theorem key_valid {S : Svc} {p : Int} {key : Int} (h : validS S = true) (hk : inR key 1 9999 = true) : validS ⟨S.ts, S.keys.set p.toNat key, S.tags⟩ = true := by
 obtain ⟨h1, h2, h3, h4, h5, h6⟩ := validS_of h
 have hkk : 1 ≤ key ∧ key ≤ 9999 := by simpa [inR] using hk
 refine validS_mk (by simpa using h1) h2 h3 (keys_set h4 (by simp [keyOk, inR]; omega)) (fun k hk => ?_) h6
 obtain ⟨t, ht⟩ : ∃ t, S.ts[k]? = some t := ⟨_, List.getElem?_eq_getElem hk⟩
 obtain ⟨a1, a2, a3, a4⟩ := valid_trk h ht
 rw [trkOk_some (S := ⟨S.ts, S.keys.set p.toNat key, S.tags⟩) ht]
 simp only [Bool.and_eq_true]
 refine ⟨⟨⟨a1, a2⟩, ?_⟩, ?_⟩
 ·by_cases h0 : 0 < k
  ·have := a3 h0
   simp [h0]
   exact this
  ·simp [h0]
 ·rw [List.all_eq_true]
  intro e he
  exact keyed_set (List.all_eq_true.1 a4 e he) (.inr (by omega))
end Go.Proofs.YtepddbfafdfadaaGreat
namespace Go.Proofs.YtepddbfafdfadaaGreat
open Go.RowKit Go.Sort
theorem fieldsOf_of {P : Program} {t : TypeId} {fs : Array Field} (h : P.underlying t = some (.struct fs)) : P.fieldsOf t = fs := by unfold Program.fieldsOf; rw [h]
theorem eqE_run (e e' : Ent) (w : World) : (Op.equalIn 10000 67 (.agg #[.int .i64 e.1, .int .i64 e.2]) (.agg #[.int .i64 e'.1, .int .i64 e'.2])).run Tryz.prog w = .ok (decide (e = e')) w := by
 obtain ⟨a, b⟩ := e
 obtain ⟨a', b'⟩ := e'
 have hf := fieldsOf_of Tryz.underlying67
 rw [show (10000 : Nat) = 9999 + 1 from rfl, run_equalIn_struct w 9999 67 _ _ (by rw [hf]; exact Tryz.underlying67) (by kernel_rfl), hf]
 by_cases h1 : a = a' <;> by_cases h2 : b = b' <;> simp [Op.eqFields, go_sem, h1, h2]
set_option maxHeartbeats 1000000 in
theorem sameBoard_any (A A' : Option Addr) (n n' c c' : Nat) (es fs : List Ent) (w : World) (hr : RdE w A n es) (hr' : RdE w A' n' fs) (hn : n ≤ 1099511627776) (hn' : n' ≤ 1099511627776) :
  Calls Tryz.prog 26 #[.slice A n c, .slice A' n' c'] w fun e w' => e = .returned (.bool (decide (es = fs))) ∧ Below w.heap.size w w' := by
 have HR := Lib.hid hr; clear hr
 have HR' := Lib.hid hr'; clear hr'
 by_cases hnn : n = n'
 ·subst hnn
  go_enter Tryz.func26, Tryz.ntmps26
  go_wp2
  go_loopw [5] (fun i wr => ∃ k : Nat, k ≤ n ∧ i = .int .i64 k ∧ Hid (Below w.heap.size w wr ∧ es.take k = fs.take k)) (fun i _ => n - (intOf i).toNat)
  case atStart => exact ⟨0, Nat.zero_le _, rfl, Below.refl _ _, rfl⟩
  case round =>
   obtain ⟨k, hk, rfl, HB⟩ := hrel
   by_cases hlt : k < n
   ·obtain ⟨b, off, e, rfl, hb, he, h0, h1⟩ := (HR.out.below HB.out.1).at_ hlt
    obtain ⟨b', off', e', rfl, hb', he', h0', h1'⟩ := (HR'.out.below HB.out.1).at_ hlt
    have HE := Lib.hid he
    have HE' := Lib.hid he'
    clear he he'
    have hG := fun (x y : Operand) (W : World) => run_eqGuard_agg (P := Tryz.prog) W .neq 67 x y #[.int .i64 e.1, .int .i64 e.2] #[.int .i64 e'.1, .int .i64 e'.2] (by kernel_rfl)
    have hN := fun (W : World) => run_neq_struct (P := Tryz.prog) W 67 #[.int .i64 e.1, .int .i64 e.2] #[.int .i64 e'.1, .int .i64 e'.2]
    simp only [eqE_run, Result.andThen_ok] at hN
    cases hd : decide (e = e') with
    | true =>
     rw [hd] at hN
     have hee : e = e' := of_decide_eq_true hd
     clear hd
     go_wp2
     go_quiet (fail)
     go_wp2
     exact ⟨⟨k + 1, by omega, by go_num, ⟨HB.out.1.os, HB.out.1.tape, HB.out.1.output, HB.out.1.size, HB.out.1.block⟩, take_next HB.out.2 HE.out (by rw [hee]; exact HE'.out)⟩, by simp [intOf]; omega⟩
    | false =>
     rw [hd] at hN
     have hee := Lib.hid (of_decide_eq_false hd)
     clear hd
     go_wp2
     go_quiet (fail)
     go_wp2
     go_ret
     refine ⟨ret_bool (by symm; rw [decide_eq_false_iff_not]; rintro rfl; exact hee.out (by have := HE.out.symm.trans HE'.out; simpa using this)), ⟨HB.out.1.os, HB.out.1.tape, HB.out.1.output, HB.out.1.size, HB.out.1.block⟩⟩
   ·go_wp2
    go_ret
    have hkn : k = n := by omega
    exact ⟨ret_bool (by symm; rw [decide_eq_true_iff]; exact take_all HB.out.2 (by rw [HR.out.len]; omega) (by rw [HR'.out.len]; omega)), HB.out.1⟩
 ·have hne : ((n : Int) != n') = true := by simp; omega
  go_enter Tryz.func26, Tryz.ntmps26
  go_wp2
  go_ret
  exact ⟨ret_bool (by symm; rw [decide_eq_false_iff_not]; rintro rfl; exact hnn (HR.out.len.symm.trans HR'.out.len)), Below.refl _ _⟩
end Go.Proofs.YtepddbfafdfadaaGreat
namespace Go.Proofs.YtepddbfafdfadaaGreat
open Go.RowKit Go.Sort
theorem eqV_run (f : Nat) (a b : Int) (w : World) : (Op.equalIn (f + 1 + 1) 41 (.agg #[.int .i64 a, .int .i64 b]) (.agg #[.int .i64 a, .int .i64 b])).run Tryz.prog w = .ok true w := by
 have hf := fieldsOf_of Tryz.underlying41
 rw [run_equalIn_struct w (f + 1) 41 _ _ (by rw [hf]; exact Tryz.underlying41) (by kernel_rfl), hf]
 simp [Op.eqFields, go_sem]
theorem eqB_run (z : Bx) (w : World) : (Op.equalIn 10000 44 (.agg #[.int .i64 z.1, .int .i64 z.2.1, .int .i64 z.2.2.1, .int .i64 z.2.2.2]) (.agg #[.int .i64 z.1, .int .i64 z.2.1, .int .i64 z.2.2.1, .int .i64 z.2.2.2])).run Tryz.prog w = .ok true w := by
 have hf := fieldsOf_of Tryz.underlying44
 rw [show (10000 : Nat) = 9999 + 1 from rfl, run_equalIn_struct w 9999 44 _ _ (by rw [hf]; exact Tryz.underlying44) (by kernel_rfl), hf]
 have h1 := eqV_run 9997 z.1 z.2.1
 have h2 := eqV_run 9997 z.2.2.1 z.2.2.2
 simp [Op.eqFields, go_sem, h1, h2]
theorem eqV10 (a b : Int) (w : World) : (Op.equalIn 10000 41 (.agg #[.int .i64 a, .int .i64 b]) (.agg #[.int .i64 a, .int .i64 b])).run Tryz.prog w = .ok true w := eqV_run 9998 a b w
set_option maxRecDepth 100000 in
set_option maxHeartbeats 8000000 in
theorem sameTracks_same (A A' : Option Addr) (n c c' : Nat) (xs ys : List Row) (w : World) (hr : RdTs w A n xs) (hr' : RdTs w A' n ys) (hxy : xs.map (·.2) = ys.map (·.2)) (hn : n ≤ 1048576) :
  Calls Tryz.prog 87 #[.slice A n c, .slice A' n c'] w fun e w' => e = .returned (.bool true) ∧ Below w.heap.size w w' := by
 have HR := Lib.hid hr
 have HR' := Lib.hid hr'
 have HXY := Lib.hid hxy
 clear hr hr' hxy
 go_enter Tryz.func87, Tryz.ntmps87
 go_wp2
 go_loopw [5, 6, 7, 8, 9] (fun i _ _ _ _ wr => ∃ k : Nat, k ≤ n ∧ i = .int .i64 k ∧ Hid (Below w.heap.size w wr)) (fun i _ _ _ _ _ => n - (intOf i).toNat)
 case atStart => exact ⟨0, Nat.zero_le _, rfl, Below.refl _ _⟩
 case round =>
  obtain ⟨k, hk, rfl, HB⟩ := hrel
  by_cases hlt : k < n
  ·obtain ⟨b, off, x, hA, hb, hx, hrx, e0, e1, e2, e3, e4, e5, e6, e7, e8, e9, e10, e11⟩ := RdTs.cells (HR.out.below HB.out) hlt
   obtain ⟨b', off', y, hA', hb', hy, hry, f0, f1, f2, f3, f4, f5, f6, f7, f8, f9, f10, f11⟩ := RdTs.cells (HR'.out.below HB.out) hlt
   subst hA hA'
   have hxy : x.2 = y.2 := by
    have h1 : (xs.map (·.2))[k]? = some x.2 := by rw [List.getElem?_map, hx]; rfl
    have h2 : (ys.map (·.2))[k]? = some y.2 := by rw [List.getElem?_map, hy]; rfl
    rw [HXY.out, h2] at h1
    exact (Option.some.inj h1).symm
   obtain ⟨px, t⟩ := x
   obtain ⟨py, t'⟩ := y
   simp only at hxy
   subst hxy
   clear hx hy
   have lw : py.w.n = px.w.n := hry.1.1.len.symm.trans hrx.1.1.len
   have lg : py.g.n = px.g.n := hry.1.2.1.len.symm.trans hrx.1.2.1.len
   have lb : py.b.n = px.b.n := hry.2.1.len.symm.trans hrx.2.1.len
   have hbx := hrx.2.1
   have hby := hry.2.1
   have hwx := hrx.1.1
   have hwy := hry.1.1
   have hgx := hrx.1.2.1
   have hgy := hry.1.2.1
   have hnw := hrx.1.2.2.1.2
   have hng := hrx.1.2.2.2.2
   have hnb := hrx.2.2.2
   simp only at e0 e1 e2 e3 e4 e5 e6 e7 e8 e9 e10 e11 f0 f1 f2 f3 f4 f5 f6 f7 f8 f9 f10 f11 hbx hby hwx hwy hgx hgy hnw hng hnb
   rw [lw] at f4 hwy
   rw [lg] at f5 hgy
   rw [lb] at f11 hby
   have hW : Below wr.heap.size wr ((wr.alloc (.cells #[.int .i64 t.l.id, .int .i64 t.l.ticks, .int .i64 t.l.sx, .int .i64 t.l.sy, .slice px.w.a px.w.n px.w.c, .slice px.g.a px.g.n px.g.c, .int .i64 t.l.f.1, .int .i64 t.l.f.2.1, .int .i64 t.l.f.2.2.1, .int .i64 t.l.f.2.2.2, .int .i64 t.l.bans] 46)).alloc (.cells #[.int .i64 t.l.id, .int .i64 t.l.ticks, .int .i64 t.l.sx, .int .i64 t.l.sy, .slice py.w.a px.w.n py.w.c, .slice py.g.a px.g.n py.g.c, .int .i64 t.l.f.1, .int .i64 t.l.f.2.1, .int .i64 t.l.f.2.2.1, .int .i64 t.l.f.2.2.2, .int .i64 t.l.bans] 46)) := by go_grown
   have HBX0 := Lib.hid hbx
   have HBY0 := Lib.hid hby
   have HWX0 := Lib.hid hwx
   have HWY0 := Lib.hid hwy
   have HGX0 := Lib.hid hgx
   have HGY0 := Lib.hid hgy
   have HBX := Lib.hid (hbx.below hW)
   have HBY := Lib.hid (hby.below hW)
   have HWX := Lib.hid (hwx.below hW)
   have HWY := Lib.hid (hwy.below hW)
   have HGX := Lib.hid (hgx.below hW)
   have HGY := Lib.hid (hgy.below hW)
   have HW := Lib.hid hW
   have HX := Lib.hid ((Blk.new wr 46 #[.int .i64 t.l.id, .int .i64 t.l.ticks, .int .i64 t.l.sx, .int .i64 t.l.sy, .slice px.w.a px.w.n px.w.c, .slice px.g.a px.g.n px.g.c, .int .i64 t.l.f.1, .int .i64 t.l.f.2.1, .int .i64 t.l.f.2.2.1, .int .i64 t.l.f.2.2.2, .int .i64 t.l.bans]).alloc (.cells #[.int .i64 t.l.id, .int .i64 t.l.ticks, .int .i64 t.l.sx, .int .i64 t.l.sy, .slice py.w.a px.w.n py.w.c, .slice py.g.a px.g.n py.g.c, .int .i64 t.l.f.1, .int .i64 t.l.f.2.1, .int .i64 t.l.f.2.2.1, .int .i64 t.l.f.2.2.2, .int .i64 t.l.bans] 46))
   have HY := Lib.hid (Blk.newAt (wr.alloc (.cells #[.int .i64 t.l.id, .int .i64 t.l.ticks, .int .i64 t.l.sx, .int .i64 t.l.sy, .slice px.w.a px.w.n px.w.c, .slice px.g.a px.g.n px.g.c, .int .i64 t.l.f.1, .int .i64 t.l.f.2.1, .int .i64 t.l.f.2.2.1, .int .i64 t.l.f.2.2.2, .int .i64 t.l.bans] 46)) 46 #[.int .i64 t.l.id, .int .i64 t.l.ticks, .int .i64 t.l.sx, .int .i64 t.l.sy, .slice py.w.a px.w.n py.w.c, .slice py.g.a px.g.n py.g.c, .int .i64 t.l.f.1, .int .i64 t.l.f.2.1, .int .i64 t.l.f.2.2.1, .int .i64 t.l.f.2.2.2, .int .i64 t.l.bans] (wr.heap.size + 1) (by simp))
   clear hbx hby hwx hwy hgx hgy hW lw lg lb hrx hry
   go_upto_region 8 with (fail)
   refine into_world (fun W => Below wr.heap.size wr W ∧ Blk W wr.heap.size 46 #[.int .i64 t.l.id, .int .i64 t.l.ticks, .int .i64 t.l.sx, .int .i64 t.l.sy, .slice px.w.a px.w.n px.w.c, .slice px.g.a px.g.n px.g.c, .int .i64 t.l.f.1, .int .i64 t.l.f.2.1, .int .i64 t.l.f.2.2.1, .int .i64 t.l.f.2.2.2, .int .i64 t.l.bans] ∧ Blk W (wr.heap.size + 1) 46 #[.int .i64 t.l.id, .int .i64 t.l.ticks, .int .i64 t.l.sx, .int .i64 t.l.sy, .slice py.w.a px.w.n py.w.c, .slice py.g.a px.g.n py.g.c, .int .i64 t.l.f.1, .int .i64 t.l.f.2.1, .int .i64 t.l.f.2.2.1, .int .i64 t.l.f.2.2.2, .int .i64 t.l.bans]) ⟨HW.out, HX.out, HY.out⟩ ?_
   rintro W ⟨hWW, hXX, hYY⟩
   clear HX HY HBX HBY HWX HWY HGX HGY HW
   have HX := Lib.hid hXX
   have HY := Lib.hid hYY
   have HW := Lib.hid hWW
   have HBX := Lib.hid (HBX0.out.below hWW)
   have HBY := Lib.hid (HBY0.out.below hWW)
   have HWX := Lib.hid (HWX0.out.below hWW)
   have HWY := Lib.hid (HWY0.out.below hWW)
   have HGX := Lib.hid (HGX0.out.below hWW)
   have HGY := Lib.hid (HGY0.out.below hWW)
   have m0 := fun d os => cell_regrown (((bcell hWW).1 b _ hb).trans e11) d os
   have m1 := fun d os => cell_regrown (((bcell hWW).1 b' _ hb').trans f11) d os
   have gx0 := fun d os => cell_regrown (HX.out.cell 0) d os
   have gy0 := fun d os => cell_regrown (HY.out.cell 0) d os
   have gx1 := fun d os => cell_regrown (HX.out.cell 1) d os
   have gy1 := fun d os => cell_regrown (HY.out.cell 1) d os
   have gx2 := fun d os => cell_regrown (HX.out.cell 2) d os
   have gy2 := fun d os => cell_regrown (HY.out.cell 2) d os
   have gx3 := fun d os => cell_regrown (HX.out.cell 3) d os
   have gy3 := fun d os => cell_regrown (HY.out.cell 3) d os
   have gx4 := fun d os => cell_regrown (HX.out.cell 4) d os
   have gy4 := fun d os => cell_regrown (HY.out.cell 4) d os
   have gx5 := fun d os => cell_regrown (HX.out.cell 5) d os
   have gy5 := fun d os => cell_regrown (HY.out.cell 5) d os
   have gx6 := fun d os => cell_regrown (HX.out.cell 6) d os
   have gy6 := fun d os => cell_regrown (HY.out.cell 6) d os
   have gx7 := fun d os => cell_regrown (HX.out.cell 7) d os
   have gy7 := fun d os => cell_regrown (HY.out.cell 7) d os
   have gx8 := fun d os => cell_regrown (HX.out.cell 8) d os
   have gy8 := fun d os => cell_regrown (HY.out.cell 8) d os
   have gx9 := fun d os => cell_regrown (HX.out.cell 9) d os
   have gy9 := fun d os => cell_regrown (HY.out.cell 9) d os
   have gx10 := fun d os => cell_regrown (HX.out.cell 10) d os
   have gy10 := fun d os => cell_regrown (HY.out.cell 10) d os
   have c1 := fun X (hX : Below W.heap.size W X) => sameBoard_any px.b.a py.b.a px.b.n px.b.n px.b.c py.b.c t.b t.b X (HBX.out.below hX) (HBY.out.below hX) (Nat.le_trans hnb (by decide)) (Nat.le_trans hnb (by decide))
   simp only [decide_true] at c1
   have C1 := Lib.hid c1
   clear hWW hXX hYY c1 e0 e1 e2 e3 e4 e5 e6 e7 e8 e9 e10 e11 f0 f1 f2 f3 f4 f5 f6 f7 f8 f9 f10 f11
   have hGv := fun (x y : Operand) (W : World) => run_eqGuard_agg (P := Tryz.prog) W .neq 41 x y #[.int .i64 t.l.sx, .int .i64 t.l.sy] #[.int .i64 t.l.sx, .int .i64 t.l.sy] (by kernel_rfl)
   have hNv := fun (W : World) => run_neq_struct (P := Tryz.prog) W 41 #[.int .i64 t.l.sx, .int .i64 t.l.sy] #[.int .i64 t.l.sx, .int .i64 t.l.sy]
   simp only [eqV10, Result.andThen_ok] at hNv
   have hGf := fun (x y : Operand) (W : World) => run_eqGuard_agg (P := Tryz.prog) W .neq 44 x y #[.int .i64 t.l.f.1, .int .i64 t.l.f.2.1, .int .i64 t.l.f.2.2.1, .int .i64 t.l.f.2.2.2] #[.int .i64 t.l.f.1, .int .i64 t.l.f.2.1, .int .i64 t.l.f.2.2.1, .int .i64 t.l.f.2.2.2] (by kernel_rfl)
   have hNf := fun (W : World) => run_neq_struct (P := Tryz.prog) W 44 #[.int .i64 t.l.f.1, .int .i64 t.l.f.2.1, .int .i64 t.l.f.2.2.1, .int .i64 t.l.f.2.2.2] #[.int .i64 t.l.f.1, .int .i64 t.l.f.2.1, .int .i64 t.l.f.2.2.1, .int .i64 t.l.f.2.2.2]
   simp only [eqB_run, Result.andThen_ok] at hNf
   refine wp_region_qb (by kernel_rfl) (by kernel_rfl) ?_
   repeat (go_big_quiet_step (first | (go_at_call 26; exact Calls.regrown_of (C1.out _ (below_regrown _ _ _)))))
   refine wpQuiet_nil ?_
   intro w1 hb1
   have HX1 := Lib.hid (HX.out.next hb1)
   have HY1 := Lib.hid (HY.out.next hb1)
   have HWX1 := Lib.hid (HWX.out.below hb1)
   have HWY1 := Lib.hid (HWY.out.below hb1)
   have HGX1 := Lib.hid (HGX.out.below hb1)
   have HGY1 := Lib.hid (HGY.out.below hb1)
   have HB1 := Lib.hid (below_next (below_next HB.out HW.out) hb1)
   have cx := fun o => HX1.out.cell o
   have zx := HX1.out.lt
   have cy := fun o => HY1.out.cell o
   have zy := HY1.out.lt
   clear hb1
   go_wp2_with fail
   clear cx zx cy zy hGv hNv hGf hNf m0 m1 gx0 gy0 gx1 gy1 gx2 gy2 gx3 gy3 gx4 gy4 gx5 gy5 gx6 gy6 gx7 gy7 gx8 gy8 gx9 gy9 gx10 gy10
   go_loopw [8] (fun i wi => ∃ q : Nat, q ≤ px.w.n ∧ i = .int .i64 q ∧ Hid (Below w1.heap.size w1 wi)) (fun i _ => px.w.n - (intOf i).toNat)
   case atStart => exact ⟨0, Nat.zero_le _, rfl, Below.refl _ _⟩
   case round =>
    obtain ⟨q, hq, rfl, HI⟩ := hrel
    have HXI := Lib.hid (HX1.out.next HI.out)
    have HYI := Lib.hid (HY1.out.next HI.out)
    have cx := fun o => HXI.out.cell o
    have zx := HXI.out.lt
    have cy := fun o => HYI.out.cell o
    have zy := HYI.out.lt
    by_cases hlq : q < px.w.n
    ·obtain ⟨p1, o1, z, hA1, hb1, hz1, u0, u1, u2, u3⟩ := RdB.cells (HWX1.out.below HI.out) hlq
     obtain ⟨p2, o2, z', hA2, hb2, hz2, v0, v1, v2, v3⟩ := RdB.cells (HWY1.out.below HI.out) hlq
     obtain rfl : z = z' := by rw [hz1] at hz2; exact Option.some.inj hz2
     rw [hA1] at cx
     rw [hA2] at cy
     have hG := fun (x y : Operand) (W : World) => run_eqGuard_agg (P := Tryz.prog) W .neq 44 x y #[.int .i64 z.1, .int .i64 z.2.1, .int .i64 z.2.2.1, .int .i64 z.2.2.2] #[.int .i64 z.1, .int .i64 z.2.1, .int .i64 z.2.2.1, .int .i64 z.2.2.2] (by kernel_rfl)
     have hN := fun (W : World) => run_neq_struct (P := Tryz.prog) W 44 #[.int .i64 z.1, .int .i64 z.2.1, .int .i64 z.2.2.1, .int .i64 z.2.2.2] #[.int .i64 z.1, .int .i64 z.2.1, .int .i64 z.2.2.1, .int .i64 z.2.2.2]
     simp only [eqB_run, Result.andThen_ok] at hN
     clear hz1 hz2
     go_wp2
     go_quiet (fail)
     go_wp2
     exact ⟨⟨q + 1, by omega, by go_num, ⟨HI.out.os, HI.out.tape, HI.out.output, HI.out.size, HI.out.block⟩⟩, by simp [intOf]; omega⟩
    ·rename World => wv
     have HI0 := Lib.hid HI.out
     have HX2 := Lib.hid HXI.out
     have HY2 := Lib.hid HYI.out
     have HGX2 := Lib.hid (HGX1.out.below HI.out)
     have HGY2 := Lib.hid (HGY1.out.below HI.out)
     go_wp2_with fail
     clear cx zx cy zy HI HXI HYI
     go_loopw [9] (fun i wi => ∃ q : Nat, q ≤ px.g.n ∧ i = .int .i64 q ∧ Hid (Below wv.heap.size wv wi)) (fun i _ => px.g.n - (intOf i).toNat)
     case atStart => exact ⟨0, Nat.zero_le _, rfl, Below.refl _ _⟩
     case round =>
      obtain ⟨q, hq, rfl, HI⟩ := hrel
      have HXI := Lib.hid (HX2.out.next HI.out)
      have HYI := Lib.hid (HY2.out.next HI.out)
      have cx := fun o => HXI.out.cell o
      have zx := HXI.out.lt
      have cy := fun o => HYI.out.cell o
      have zy := HYI.out.lt
      by_cases hlq : q < px.g.n
      ·obtain ⟨p1, o1, z, hA1, hb1, hz1, u0, u1, u2, u3⟩ := RdB.cells (HGX2.out.below HI.out) hlq
       obtain ⟨p2, o2, z', hA2, hb2, hz2, v0, v1, v2, v3⟩ := RdB.cells (HGY2.out.below HI.out) hlq
       obtain rfl : z = z' := by rw [hz1] at hz2; exact Option.some.inj hz2
       rw [hA1] at cx
       rw [hA2] at cy
       have hG := fun (x y : Operand) (W : World) => run_eqGuard_agg (P := Tryz.prog) W .neq 44 x y #[.int .i64 z.1, .int .i64 z.2.1, .int .i64 z.2.2.1, .int .i64 z.2.2.2] #[.int .i64 z.1, .int .i64 z.2.1, .int .i64 z.2.2.1, .int .i64 z.2.2.2] (by kernel_rfl)
       have hN := fun (W : World) => run_neq_struct (P := Tryz.prog) W 44 #[.int .i64 z.1, .int .i64 z.2.1, .int .i64 z.2.2.1, .int .i64 z.2.2.2] #[.int .i64 z.1, .int .i64 z.2.1, .int .i64 z.2.2.1, .int .i64 z.2.2.2]
       simp only [eqB_run, Result.andThen_ok] at hN
       clear hz1 hz2
       go_wp2
       go_quiet (fail)
       go_wp2
       exact ⟨⟨q + 1, by omega, by go_num, ⟨HI.out.os, HI.out.tape, HI.out.output, HI.out.size, HI.out.block⟩⟩, by simp [intOf]; omega⟩
      ·go_wp2_with fail
       exact ⟨⟨k + 1, by omega, by go_num, (HB1.out.trans (HI0.out.mono HB1.out.size)).trans (HI.out.mono (Nat.le_trans HB1.out.size HI0.out.size))⟩, by simp [intOf]; omega⟩
  ·go_wp2
   go_ret
   exact ⟨rfl, HB.out⟩
set_option maxRecDepth 100000 in
set_option maxHeartbeats 2000000 in
theorem sameService_same (t k g t' k' g' : Sl) (S : Svc) (w : World) (hr : RdS w t k g S) (hr' : RdS w t' k' g' S) :
  Calls Tryz.prog 35 #[svV t k g, svV t' k' g'] w fun e w' => e = .returned (.bool true) ∧ Below w.heap.size w w' := by
 obtain ⟨⟨xs, hxs, hr1⟩, hr2, hr3, ⟨_, hn1⟩, ⟨_, hn2⟩, _, hn3⟩ := hr
 obtain ⟨⟨ys, hys, hs1⟩, hs2, hs3, _, _, _⟩ := hr'
 have ht : t'.n = t.n := by
  have h1 := hr1.1.len
  have h2 := hs1.1.len
  have h3 := congrArg List.length (hxs.trans hys.symm)
  simp at h3
  omega
 have hk : k'.n = k.n := hs2.len.symm.trans hr2.len
 have hg : g'.n = g.n := hs3.len.symm.trans hr3.len
 obtain ⟨ta, tn, tc⟩ := t'
 obtain ⟨ka, kn, kc⟩ := k'
 obtain ⟨ga, gn, gc⟩ := g'
 simp only at ht hk hg hs1 hs2 hs3
 subst ht hk hg
 have HXY := Lib.hid (hxs.trans hys.symm)
 have HR1 := Lib.hid hr1
 have HS1 := Lib.hid hs1
 have HR2 := Lib.hid hr2
 have HR3 := Lib.hid hr3
 have HS2 := Lib.hid hs2
 have HS3 := Lib.hid hs3
 clear hr1 hs1 hr2 hr3 hs2 hs3 hxs hys
 have hW : Below w.heap.size w ((w.alloc (.cells #[.slice t.a t.n t.c, .slice k.a k.n k.c, .slice g.a g.n g.c] 37)).alloc (.cells #[.slice ta t.n tc, .slice ka k.n kc, .slice ga g.n gc] 37)) := by go_grown
 have HW := Lib.hid hW
 have HKA := Lib.hid ((Blk.new w 37 #[.slice t.a t.n t.c, .slice k.a k.n k.c, .slice g.a g.n g.c]).alloc (.cells #[.slice ta t.n tc, .slice ka k.n kc, .slice ga g.n gc] 37))
 have HKB := Lib.hid (Blk.newAt (w.alloc (.cells #[.slice t.a t.n t.c, .slice k.a k.n k.c, .slice g.a g.n g.c] 37)) 37 #[.slice ta t.n tc, .slice ka k.n kc, .slice ga g.n gc] (w.heap.size + 1) (by simp))
 clear hW
 go_enter Tryz.func35, Tryz.ntmps35
 go_wp2_with fail
 refine (sameTracks_same _ _ _ _ _ _ _ _ (HR1.out.below HW.out) (HS1.out.below HW.out) HXY.out hn1).mono ?_
 rintro e w0 ⟨rfl, hb0⟩
 have HW0 := Lib.hid (below_next HW.out hb0)
 have HKA0 := Lib.hid (HKA.out.next hb0)
 have HKB0 := Lib.hid (HKB.out.next hb0)
 have ca := fun o => HKA0.out.cell o
 have cb := fun o => HKB0.out.cell o
 clear hb0
 go_wp2_with fail
 refine (sameInts_same _ _ _ _ _ S.keys _ (HR2.out.below HW0.out) (HS2.out.below HW0.out) hn2).mono ?_
 rintro e w1 ⟨rfl, hb1⟩
 have HW1 := Lib.hid (below_next HW0.out hb1)
 have hka := HKA0.out.next hb1
 have hkb := HKB0.out.next hb1
 clear ca cb
 have ca := fun o => hka.cell o
 have cb := fun o => hkb.cell o
 clear hb1 hka hkb
 go_wp2_with fail
 refine (sameInts_same _ _ _ _ _ S.tags _ (HR3.out.below HW1.out) (HS3.out.below HW1.out) hn3).mono ?_
 rintro e w2 ⟨rfl, hb2⟩
 have HW2 := Lib.hid (below_next HW1.out hb2)
 clear hb2 ca cb
 go_wp2_with fail
 go_ret
 exact ⟨rfl, HW2.out⟩
end Go.Proofs.YtepddbfafdfadaaGreat
namespace Go.Proofs.YtepddbfafdfadaaGreat
open Go.RowKit Go.Sort
end Go.Proofs.YtepddbfafdfadaaGreat
namespace Go.Proofs.YtepddbfafdfadaaGreat
open Go.RowKit Go.Sort
theorem score_no (p : Int) : ∀ (L : List Ent), (∀ e ∈ L, e.1 ≠ p) → scoreE p L = -1
 | [], _ => rfl
 |e :: r, h => by
  rw [scoreE, if_neg (h e (List.mem_cons_self ..)), score_no p r fun d hd => h d (List.mem_cons_of_mem _ hd)]
end Go.Proofs.YtepddbfafdfadaaGreat
namespace Go.Proofs.YtepddbfafdfadaaGreat
open Go.RowKit Go.Sort
theorem score_without {p q : Int} (hne : q ≠ p) : ∀ es : List Ent, scoreE q (withoutE p es) = scoreE q es
 | [] => rfl
 |e :: r => by
  have ih := score_without hne r
  by_cases hp : e.1 = p
  ·have h1 : withoutE p (e :: r) = withoutE p r := by unfold withoutE; rw [List.filter_cons, if_neg (by simp [hp])]
   rw [h1, ih, scoreE, if_neg (by rw [hp]; exact fun h => hne h.symm)]
  ·have h1 : withoutE p (e :: r) = e :: withoutE p r := by unfold withoutE; rw [List.filter_cons, if_pos (by simp [hp])]
   rw [h1, scoreE, scoreE, ih]
theorem score_neg {p : Int} {es : List Ent} (hv : validE es = true) (h : scoreE p es < 0) : findE p es 0 = -1 := by
 rcases findE_or p es 0 with hf | hf
 ·exact hf
 ·obtain ⟨k, hk⟩ := Int.eq_ofNat_of_zero_le hf
  obtain ⟨e, he, _, hs⟩ := score_at es 0 k (Int.le_refl _) (by rw [hk]; simp)
  have := okE_bd (validE_ok hv he)
  omega
end Go.Proofs.YtepddbfafdfadaaGreat
namespace Go.Proofs.YtepddbfafdfadaaGreat
open Go.RowKit Go.Sort
theorem score_gone (p : Int) (es : List Ent) : scoreE p (withoutE p es) = -1 := score_no p _ fun e he => by
 have : e ∈ es ∧ (e.1 != p) = true := List.mem_filter.1 he
 simpa using this.2
theorem rev_score {p : Int} {es : List Ent} (hv : validE es = true) : (0 ≤ scoreE p es → (es.length : Int) - (withoutE p es).length = 1) ∧ (scoreE p es < 0 → (es.length : Int) - (withoutE p es).length = 0) := by
 refine ⟨fun h => ?_, fun h => ?_⟩
 ·by_cases hf : findE p es 0 < 0
  ·exfalso
   have h1 := without_none hf
   have h2 := score_gone p es
   rw [h1] at h2
   omega
  ·obtain ⟨k, e, _, he, hp⟩ := findE_ok (Int.not_lt.1 hf)
   rw [without_at hv he hp]
   have hk := (List.getElem?_eq_some_iff.1 he).1
   simp only [List.length_append, List.length_take, List.length_drop]
   omega
 ·have := score_neg hv h
  rw [without_none (by omega)]
  omega
theorem revN_take {p : Int} {ts : List Trk} {j : Nat} {t : Trk} (h : ts[j]? = some t) : revN p (ts.take (j + 1)) = revN p (ts.take j) + ((t.b.length : Int) - (withoutE p t.b).length) := by
 rw [List.take_add_one, h]
 exact revN_app p _ t
end Go.Proofs.YtepddbfafdfadaaGreat

/-
  ServiceTop of the reference and of the program: the board of a level, in a new row.
-/
import Derived.Test.YtepddbfafdfadaaGreatBn
import Derived.Test.YtepddbfafdfadaaGreatSs
import Derived.Test.YtepddbfafdfadaaGreatMz
import Derived.Deep.RegionHeld3
namespace Go.Proofs.YtepddbfafdfadaaGreat
open Go.RowKit Go.Sort

def topS (S : Svc) (id : Int) : List Ent × Bool :=
  if validS S then (match S.ts.findIdx? (hasId id) with
    | none => ([], false)
    | some i => (((S.ts[i]?).map (·.b)).getD [], true)) else ([], false)
def TopPost (B : Nat) (r : List Ent × Bool) (w : World) (e : Ending) (w' : World) : Prop :=
  ∃ A' c', e = .returned (.tuple #[.slice A' r.1.length c', .bool r.2]) ∧ OwE B w' A' r.1.length c' r.1 ∧ Below B w w'

theorem valid_trk {S : Svc} (h : validS S = true) {i : Nat} {t : Trk} (ht : S.ts[i]? = some t) : levelOk t.l = true ∧ validE t.b = true ∧ (0 < i → prevId S.ts i < t.l.id) ∧ t.b.all (keyed S.keys) = true := by
  have h5 := (validS_of h).2.2.2.2.1 i (List.getElem?_eq_some_iff.1 ht).1
  rw [trkOk_some ht] at h5
  simp only [Bool.and_eq_true, Bool.not_eq_true', Bool.and_eq_false_iff, decide_eq_false_iff_not] at h5
  obtain ⟨⟨⟨h1, h2⟩, h3⟩, h4⟩ := h5
  exact ⟨h1, h2, fun hi => by rcases h3 with h3 | h3 <;> omega, h4⟩
theorem valid_id {S : Svc} (h : validS S = true) {i : Nat} {t : Trk} (ht : S.ts[i]? = some t) : 0 ≤ t.l.id ∧ t.l.id ≤ 99 := by
  have h1 := (valid_trk h ht).1
  unfold levelOk at h1
  simp only [Bool.and_eq_true] at h1
  have h2 := h1.1.1.1.1.1.1.1.1.1
  simpa [inR] using h2
theorem valid_lt {S : Svc} (h : validS S = true) : ∀ (j i : Nat) (t u : Trk), i < j → S.ts[i]? = some t → S.ts[j]? = some u → t.l.id < u.l.id
  | 0, i, t, u, hij, _, _ => absurd hij (Nat.not_lt_zero _)
  | j + 1, i, t, u, hij, ht, hu => by
    have hj : j < S.ts.length := by have := (List.getElem?_eq_some_iff.1 hu).1; omega
    have hp := (valid_trk h hu).2.2.1 (Nat.succ_pos _)
    have hpe : prevId S.ts (j + 1) = (S.ts[j]).l.id := by simp [prevId, List.getElem?_eq_getElem hj]
    rw [hpe] at hp
    rcases Nat.lt_succ_iff_lt_or_eq.1 hij with hlt | rfl
    · exact Int.lt_trans (valid_lt h j i t _ hlt ht (List.getElem?_eq_getElem hj)) hp
    · rw [List.getElem?_eq_getElem hj] at ht
      injection ht with ht
      rw [← ht]; exact hp
theorem findIdx_at {S : Svc} (h : validS S = true) {i : Nat} {t : Trk} {id : Int} (ht : S.ts[i]? = some t) (hid : t.l.id = id) : S.ts.findIdx? (hasId id) = some i := by
  rw [List.findIdx?_eq_some_iff_getElem]
  obtain ⟨hi, he⟩ := List.getElem?_eq_some_iff.1 ht
  refine ⟨hi, by rw [he]; simpa [hasId] using hid, fun j hj => ?_⟩
  have := valid_lt h i j _ t hj (List.getElem?_eq_getElem (by omega)) ht
  simp [hasId]
  omega
theorem findIdx_no {ts : List Trk} {id : Int} (h : ts.findIdx? (hasId id) = none) {i : Nat} {t : Trk} (ht : ts[i]? = some t) : t.l.id ≠ id := by
  rw [List.findIdx?_eq_none_iff] at h
  have := h t (List.mem_of_getElem? ht)
  simpa [hasId] using this
theorem findIdx_some {ts : List Trk} {id : Int} {i : Nat} (h : ts.findIdx? (hasId id) = some i) : ∃ t, ts[i]? = some t ∧ t.l.id = id := by
  rw [List.findIdx?_eq_some_iff_getElem] at h
  obtain ⟨hi, h1, _⟩ := h
  exact ⟨_, List.getElem?_eq_getElem hi, by simpa [hasId] using h1⟩
theorem wrap_zero {a id : Int} (h : wrap64 (a - id) = 0) (ha : 0 ≤ a) (ha2 : a ≤ 99) (h1 : -9223372036854775808 ≤ id) (h2 : id ≤ 9223372036854775807) : a = id := by
  unfold wrap64 at h
  omega
theorem wrap_small {a id : Int} (ha : 0 ≤ a) (ha2 : a ≤ 99) (h1 : 0 ≤ id) (h2 : id ≤ 99) : wrap64 (a - id) = a - id := by
  unfold wrap64
  omega
/-- where the program's search ends is where the level is -/
theorem search_hit {S : Svc} {xs : List Row} {id : Int} {i : Nat} (h : validS S = true) (hxs : xs.map (·.2) = S.ts) (he : EndAt xs id i) (h1 : -9223372036854775808 ≤ id) (h2 : id ≤ 9223372036854775807) :
    (hitAt xs id i = true ∧ S.ts.findIdx? (hasId id) = some i) ∨ (hitAt xs id i = false ∧ S.ts.findIdx? (hasId id) = none) := by
  have hget : ∀ (j : Nat) (x : Row), xs[j]? = some x → S.ts[j]? = some x.2 := fun j x hx => by rw [← hxs, List.getElem?_map, hx]; rfl
  cases hh : hitAt xs id i
  · right
    refine ⟨rfl, ?_⟩
    cases hf : S.ts.findIdx? (hasId id) with
    | none => rfl
    | some m =>
      exfalso
      obtain ⟨t, ht, hid⟩ := findIdx_some hf
      have hr := valid_id h ht
      have hm : m < xs.length := by
        have := (List.getElem?_eq_some_iff.1 ht).1
        rw [← hxs, List.length_map] at this
        exact this
      have hxm := hget m _ (List.getElem?_eq_getElem hm)
      have hah : ∀ j, j < xs.length → (ahead xs id j ↔ j < m) := fun j hj => by
        have hxj := hget j _ (List.getElem?_eq_getElem hj)
        have hrj := valid_id h hxj
        have hw := wrap_small (id := id) hrj.1 hrj.2 (by rw [← hid]; exact hr.1) (by rw [← hid]; exact hr.2)
        constructor
        · rintro ⟨y, hy, hn⟩
          rw [List.getElem?_eq_getElem hj] at hy
          injection hy with hy
          subst hy
          rw [hw] at hn
          rcases Nat.lt_or_ge j m with h3 | h3
          · exact h3
          · rcases Nat.lt_or_eq_of_le h3 with h4 | h4
            · have := valid_lt h j m t _ h4 ht hxj
              omega
            · subst h4
              rw [ht] at hxj
              injection hxj with hxj
              rw [← hxj] at hn
              omega
        · intro hjm
          have := valid_lt h m j _ t hjm hxj ht
          exact ⟨_, List.getElem?_eq_getElem hj, by rw [hw]; omega⟩
      obtain ⟨e1, e2, e3⟩ := he
      have hi : i = m := by
        have a1 : i ≤ m := by
          rcases e2 with e2 | e2
          · omega
          · have hi1 : i - 1 < xs.length := by
              obtain ⟨y, hy, _⟩ := e2
              exact (List.getElem?_eq_some_iff.1 hy).1
            have := (hah (i - 1) hi1).1 e2
            omega
        rcases e3 with e3 | e3
        · omega
        · rcases Nat.lt_or_ge i m with h3 | h3
          · exact absurd ((hah i (by omega)).2 h3) e3
          · omega
      subst hi
      have hxe : (xs[i]).2.l.id = id := by rw [ht] at hxm; injection hxm with hxm; rw [← hxm]; exact hid
      have : hitAt xs id i = true := by
        simp only [hitAt, List.getElem?_eq_getElem hm, decide_eq_true_eq, hxe]
        simp [wrap64]
      rw [hh] at this
      cases this
  · left
    refine ⟨rfl, ?_⟩
    cases hx : xs[i]? with
    | none => simp [hitAt, hx] at hh
    | some x =>
      simp only [hitAt, hx, decide_eq_true_eq] at hh
      have ht := hget i x hx
      have hr := valid_id h ht
      exact findIdx_at h ht (wrap_zero hh hr.1 hr.2 h1 h2)

theorem below_undrew' {B : Nat} {W X : World} (h : Below B W X) : Below B W X.drew := ⟨h.os, h.tape, h.output, h.size, h.block⟩
theorem topS_bad {S : Svc} {id : Int} (h : validS S = false) : topS S id = ([], false) := by simp [topS, h]
theorem topS_no {S : Svc} {id : Int} (h : validS S = true) (hf : S.ts.findIdx? (hasId id) = none) : topS S id = ([], false) := by simp [topS, h, hf]
theorem topS_at {S : Svc} {id : Int} {i : Nat} {t : Trk} (h : validS S = true) (hf : S.ts.findIdx? (hasId id) = some i) (ht : S.ts[i]? = some t) : topS S id = (t.b, true) := by simp [topS, h, hf, ht]
theorem row_of {S : Svc} {xs : List Row} {i : Nat} {t : Trk} (hxs : xs.map (·.2) = S.ts) (ht : S.ts[i]? = some t) : ∃ x, xs[i]? = some x ∧ x.2 = t := by
  rw [← hxs, List.getElem?_map] at ht
  exact Option.map_eq_some_iff.1 ht

set_option maxRecDepth 100000 in
set_option maxHeartbeats 8000000 in
theorem implServiceTop_any (t k g : Sl) (S : Svc) (id : Int) (w : World) (hr : RdS w t k g S) (hi1 : -9223372036854775808 ≤ id) (hi2 : id ≤ 9223372036854775807) :
    Calls Tryz.prog 24 #[svV t k g, .int .i64 id] w (TopPost w.heap.size (topS S id) w) := by
  have HRS := Lib.hid hr
  obtain ⟨⟨xs, hxs, hr1⟩, hr2, hr3, ⟨_, hn1⟩, ⟨_, hn2⟩, _, hn3⟩ := hr
  obtain ⟨A, n, c⟩ := t
  simp only at hr1 hn1
  have HR := Lib.hid hr1
  have HXS := Lib.hid hxs
  have HL := Lib.hid hr1.1.len
  clear hr1 hr2 hr3 hxs
  have HB0 := Lib.hid ((Below.refl w.heap.size w).alloc (Nat.le_refl _) (.cells #[.slice A n c, .slice k.a k.n k.c, .slice g.a g.n g.c] 37))
  have HK0 := Lib.hid (Blk.new w 37 #[.slice A n c, .slice k.a k.n k.c, .slice g.a g.n g.c])
  go_enter Tryz.func24, Tryz.ntmps24
  go_wp2_with fail
  refine (implServiceValid_any _ _ _ S _ (HRS.out.below HB0.out)).mono ?_
  rintro e w1 ⟨rfl, hb1⟩
  have HB1 := Lib.hid (below_next HB0.out hb1)
  have HK1 := Lib.hid (HK0.out.next hb1)
  have ca := fun o => HK1.out.cell o
  have za := HK1.out.lt
  clear hb1
  cases hv : validS S
  · have HV := Lib.hid (topS_bad (id := id) hv)
    clear hv
    go_wp2_with fail
    go_ret2
    unfold TopPost
    rw [HV.out]
    exact ⟨none, 0, rfl, Ow.bare _ _ _ _ _, HB1.out⟩
  · have HV := Lib.hid hv
    clear hv
    go_wp2_with fail
    refine (findTrack_any ⟨A, n, c⟩ k g xs id _ (HR.out.below HB1.out) hn1).mono ?_
    rintro e w2 ⟨i, rfl, he, hb2⟩
    have HE := Lib.hid he
    have HB2 := Lib.hid (below_next HB1.out hb2)
    have HK2 := Lib.hid (HK1.out.next hb2)
    clear hb2 he ca za
    have ca := fun o => HK2.out.cell o
    have za := HK2.out.lt
    rcases search_hit HV.out HXS.out HE.out hi1 hi2 with ⟨hh, hf⟩ | ⟨hh, hf⟩
    · obtain ⟨tr, ht, _⟩ := findIdx_some hf
      obtain ⟨x, hx, hxt⟩ := row_of HXS.out ht
      have hin : i < n := by have := (List.getElem?_eq_some_iff.1 hx).1; have := HL.out; omega
      have HT := Lib.hid (topS_at HV.out hf ht)
      obtain ⟨b, off, y, hA, hb, hy, hry, e0, e1, e2, e3, e4, e5, e6, e7, e8, e9, e10, e11⟩ := RdTs.cells (HR.out.below HB2.out) hin
      obtain rfl : y = x := by rw [hx] at hy; exact (Option.some.inj hy).symm
      have HXT := Lib.hid hxt
      have HRY := Lib.hid hry
      subst hA
      rw [hh]
      clear hf ht hx hy hry hxt hh
      go_wp2_with fail
      refine (clone_any _ _ _ y.2.b _ HRY.out.2.1 (Nat.le_trans HRY.out.2.2.2 (by decide))).mono ?_
      rintro e w3 ⟨A3, c3, rfl, hO3, hb3⟩
      have HO3 := Lib.hid hO3
      have HB3 := Lib.hid (below_next HB2.out hb3)
      have HL3 := Lib.hid HRY.out.2.1.len
      have hs2 := HB2.out.size
      clear hO3 hb3
      go_wp2_with fail
      go_ret2
      unfold TopPost
      rw [HT.out, ← HXT.out, HL3.out]
      exact ⟨A3, c3, rfl, HO3.out.mono hs2, HB3.out⟩
    · have HT := Lib.hid (topS_no HV.out hf)
      rw [hh]
      clear hf hh
      go_wp2_with fail
      go_ret2
      unfold TopPost
      rw [HT.out]
      exact ⟨none, 0, rfl, Ow.bare _ _ _ _ _, HB2.out⟩
theorem findI_at {ts : List Trk} {id : Int} {i : Nat} (h : ts.findIdx? (hasId id) = some i) : findI ts id = i := by simp [findI, h]
theorem findI_not {ts : List Trk} {id : Int} (h : ts.findIdx? (hasId id) = none) : findI ts id = -1 := by simp [findI, h]

set_option maxRecDepth 100000 in
set_option maxHeartbeats 8000000 in
theorem specServiceTop_any (t k g : Sl) (S : Svc) (id : Int) (w : World) (hr : RdS w t k g S) :
    Calls Tryz.prog 25 #[svV t k g, .int .i64 id] w (TopPost w.heap.size (topS S id) w) := by
  have HRS := Lib.hid hr
  obtain ⟨⟨xs, hxs, hr1⟩, hr2, hr3, ⟨_, hn1⟩, ⟨_, hn2⟩, _, hn3⟩ := hr
  obtain ⟨A, n, c⟩ := t
  obtain ⟨i0, hi0, hz0, hz1, hz2⟩ := info_parts infoE
  have HI := Lib.hid hi0
  have HZ := Lib.hid hz0
  have HS := Lib.hid hz1
  have HBY := Lib.hid hz2
  clear hi0 hz0 hz1 hz2
  simp only at hr1 hn1
  have HR := Lib.hid hr1
  have HXS := Lib.hid hxs
  have HL := Lib.hid hr1.1.len
  clear hr1 hr2 hr3 hxs
  have HB0 := Lib.hid ((Below.refl w.heap.size w).alloc (Nat.le_refl _) (.cells #[.slice A n c, .slice k.a k.n k.c, .slice g.a g.n g.c] 37))
  have HK0 := Lib.hid (Blk.new w 37 #[.slice A n c, .slice k.a k.n k.c, .slice g.a g.n g.c])
  go_enter Tryz.func25, Tryz.ntmps25
  go_wp2_with fail
  refine (specServiceValid_any _ _ _ S _ (HRS.out.below HB0.out)).mono ?_
  rintro e w1 ⟨rfl, hb1⟩
  have HB1 := Lib.hid (below_next HB0.out hb1)
  have HK1 := Lib.hid (HK0.out.next hb1)
  have ca := fun o => HK1.out.cell o
  have za := HK1.out.lt
  clear hb1
  cases hv : validS S
  · have HV := Lib.hid (topS_bad (id := id) hv)
    clear hv
    go_wp2_with fail
    go_ret2
    unfold TopPost
    rw [HV.out]
    exact ⟨_, 0, rfl, Ow.bare _ _ _ _ _, HB1.out.alloc HB1.out.size _⟩
  · have HV := Lib.hid hv
    clear hv
    go_wp2_with fail
    refine (l41Find_any _ _ _ S id _ (HRS.out.below HB1.out)).mono ?_
    rintro e w2 ⟨rfl, hb2⟩
    have HB2 := Lib.hid (below_next HB1.out hb2)
    have HK2 := Lib.hid (HK1.out.next hb2)
    clear hb2 ca za
    have ca := fun o => HK2.out.cell o
    have za := HK2.out.lt
    cases hf : S.ts.findIdx? (hasId id) with
    | none =>
      have HT := Lib.hid (topS_no HV.out hf)
      rw [findI_not hf]
      clear hf
      go_wp2_with fail
      go_ret2
      unfold TopPost
      rw [HT.out]
      exact ⟨_, 0, rfl, Ow.bare _ _ _ _ _, HB2.out.alloc HB2.out.size _⟩
    | some i =>
      obtain ⟨tr, ht, _⟩ := findIdx_some hf
      obtain ⟨x, hx, hxt⟩ := row_of HXS.out ht
      have hin : i < n := by have := (List.getElem?_eq_some_iff.1 hx).1; have := HL.out; omega
      have HT := Lib.hid (topS_at HV.out hf ht)
      obtain ⟨b, off, y, hA, hb, hy, hry, e0, e1, e2, e3, e4, e5, e6, e7, e8, e9, e10, e11⟩ := RdTs.cells (HR.out.below HB2.out) hin
      obtain rfl : y = x := by rw [hx] at hy; exact (Option.some.inj hy).symm
      have HXT := Lib.hid hxt
      have HRY := Lib.hid hry
      have HFI := Lib.hid (findI_at hf)
      subst hA
      rw [HFI.out]
      have hin' : (i : Int) < n := by omega
      have hi0' : (0 : Int) ≤ i := by omega
      have hineg : ¬ (i : Int) < 0 := by omega
      clear hf ht hx hy hry hxt e0 e1 e2 e3 e4 e5 e6 e7 e8 e9 e10
      go_upto_region 3 with (fail)
      have sof : ∀ X : World, Below w2.heap.size w2 X → X.cell? ⟨w.heap.size, 0, none⟩ = some (.slice (some ⟨b, off, none⟩) n c) ∧ X.cell? ⟨w.heap.size, 1, none⟩ = some (.slice k.a k.n k.c) ∧ X.cell? ⟨w.heap.size, 2, none⟩ = some (.slice g.a g.n g.c) ∧ X.cell? ⟨b, off + i * 12 + 11, none⟩ = some (.slice y.1.b.a y.1.b.n y.1.b.c) := fun X hX =>
        ⟨(HK2.out.next hX).cell 0, (HK2.out.next hX).cell 1, (HK2.out.next hX).cell 2, ((bcell hX).1 b _ hb).trans e11⟩
      have hdw : Below w2.heap.size w2 w2.drew := ⟨rfl, rfl, rfl, Nat.le_refl _, fun _ _ => rfl⟩
      have haw : Below w2.heap.size w2 ((w2.alloc (.cells #[] 67)).drew) := (below_undrew' ((Below.refl w2.heap.size w2).alloc (Nat.le_refl _) (.cells #[] 67)))
      have HDW := Lib.hid hdw
      have HAW := Lib.hid haw
      have HSOF := Lib.hid sof
      clear sof hdw haw
      have hnb := HRY.out.2.2.2
      have HRD := Lib.hid (show RdS w2.drew ⟨some ⟨b, off, none⟩, n, c⟩ k g S from (HRS.out.below HB2.out).below HDW.out)
      have HRA := Lib.hid (show RdS ((w2.alloc (.cells #[] 67)).drew) ⟨some ⟨b, off, none⟩, n, c⟩ k g S from (HRS.out.below HB2.out).below HAW.out)
      go_region_held3 (fun X => X.cell? ⟨w.heap.size, 0, none⟩ = some (.slice (some ⟨b, off, none⟩) n c) ∧ X.cell? ⟨w.heap.size, 1, none⟩ = some (.slice k.a k.n k.c) ∧ X.cell? ⟨w.heap.size, 2, none⟩ = some (.slice g.a g.n g.c) ∧ X.cell? ⟨b, off + i * 12 + 11, none⟩ = some (.slice y.1.b.a y.1.b.n y.1.b.c))
        (with_reducible (first | exact HSOF.out _ HDW.out | exact HSOF.out _ HAW.out | exact HSOF.out _ hy1 | exact HSOF.out _ (below_next hy1 (ba (Below.refl _ _))) | exact HSOF.out _ hb3))
        (first
        | (go_at_call 47; refine (l41Find_any ⟨some ⟨b, off, none⟩, n, c⟩ k g S id _ ?hq).mono ?_; (case hq => with_reducible first | exact HRD.out | exact HRA.out); rintro e y1 ⟨rfl, hb1⟩; have hy1 : Below w2.heap.size w2 y1 := (by with_reducible (first | exact below_next HDW.out hb1 | exact below_next HAW.out hb1)); rw [HFI.out])
        | (refine step_append_ow _ rfl (.tmp 16) (.tmp 24) _ rfl w2.heap.size 67 i0 _ 2 16 Tryz.underlying56 HI.out HZ.out HS.out HBY.out rfl (by omega) _ 0 0 [] rfl (Ow.bare _ y1 _ _ _) _ y.1.b.n y.1.b.c (cellsE y.2.b) rfl (Src.ents (HRY.out.2.1.below hy1)) (cellsE_one _) (by unfold maxLen; omega) (by omega) hy1.size ?_; intro A3 c3 w3 hO3 hg3 _; have hb3 := (Ow.bare w2.heap.size y1 67 2 _).grown hg3 hy1 (Nat.le_refl _) hy1.size)
        | (refine step_append_ow _ rfl (.tmp 16) (.tmp 24) _ rfl w2.heap.size 67 i0 _ 2 16 Tryz.underlying56 HI.out HZ.out HS.out HBY.out rfl (by omega) _ 0 0 [] rfl (Ow.bare _ (y1.alloc (.cells #[] 67)) _ _ _) _ y.1.b.n y.1.b.c (cellsE y.2.b) rfl (Src.ents (HRY.out.2.1.below (below_next hy1 (ba (Below.refl _ _))))) (cellsE_one _) (by unfold maxLen; omega) (by omega) (below_next hy1 (ba (Below.refl _ _))).size ?_; intro A3 c3 w3 hO3 hg3 _; have hb3 := (Ow.bare w2.heap.size (y1.alloc (.cells #[] 67)) 67 2 _).grown hg3 (below_next hy1 (ba (Below.refl _ _))) (Nat.le_refl _) (below_next hy1 (ba (Below.refl _ _))).size))
      all_goals
        have HB3 := Lib.hid (HB2.out.trans (hb3.mono HB2.out.size))
        have HO3 := Lib.hid hO3
        go_wp2_with fail
        go_ret2
        unfold TopPost
        rw [HT.out, ← HXT.out, HRY.out.2.1.len]
        have h := HO3.out.mono HB2.out.size
        rw [Nat.zero_add, List.nil_append] at h
        exact ⟨A3, c3, rfl, h, HB3.out⟩
end Go.Proofs.YtepddbfafdfadaaGreat

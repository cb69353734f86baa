/-
  slices.Delete of one entry of a row of the call's own: the row without it, in place.
-/
import Derived.Test.YtnfmlmkabioepaaIns
import Derived.Test.YtnfmlmkabioepaaBm
namespace Go.Proofs.Ytnfmlmkabioepaa
open Go.RowKit Go.Sort

theorem ret_slice {A : Option Addr} {a b c : Nat} (h : a = b) : Ending.returned (.slice A a c) = .returned (.slice A b c) := by rw [h]
theorem src_dropE {w : World} {g : Nat} {n : Nat} {es : List Ent} (h : RdE w (some ⟨g, 0, none⟩) n es) (k m : Nat) (hm : m = n - k) (D : Option Addr) (hD : k < n → D = some ⟨g, k * 2, none⟩) : Src w 2 D m (cellsE (es.drop k)) := by
  subst hm
  refine ⟨by rw [cellsE_length, List.length_drop, h.1], fun hm => ?_⟩
  refine ⟨_, hD (by omega), fun j u hu => ?_⟩
  rw [← cellsE_drop, List.getElem?_drop] at hu
  obtain ⟨ad, had, hcell⟩ := (Src.ents h).2 (by omega)
  injection had with had
  subst had
  have := hcell _ u hu
  rw [Addr.add_lit] at this ⊢
  simpa using this

set_option maxRecDepth 100000 in
set_option maxHeartbeats 2000000 in
theorem delete_any (B : Nat) (A : Option Addr) (n c k K : Nat) (es : List Ent) (w : World) (h : OwE B w A n c es) (hk : k < n) (hK : K = k + 1) (hn : n ≤ 1099511627776) (hB : B ≤ w.heap.size) :
    Calls Try.prog 49 #[.slice A n c, .int .i64 k, .int .i64 K] w fun e w' => e = .returned (.slice A (n - 1) c) ∧ OwE B w' A (n - 1) c (es.take k ++ es.drop (k + 1)) ∧ Below B w w' := by
  obtain ⟨i0, hi0, hz0, hz1, hz2⟩ := info_parts infoE
  have HI := Lib.hid hi0
  have HZ := Lib.hid hz0
  have HS := Lib.hid hz1
  have HBY := Lib.hid hz2
  clear hi0 hz0 hz1 hz2
  have hle := h.le
  obtain ⟨g, cur, rfl, hBg, hb, _, hcm, hsz, htk⟩ := h.blk (by omega)
  have HO := Lib.hid h
  have q0 : (k : Int) ≤ K := by omega
  have q1 : (K : Int) ≤ n := by omega
  have q2 : (n : Int) ≤ c := by omega
  have q3 : ¬ (k : Int) = K := by omega
  have q4 : k ≤ c := by omega
  have q5 : (k : Int) ≤ n := by omega
  have q6 : ((k : Int) == K) = false := by simp; omega
  obtain ⟨D, hD⟩ : ∃ D, (if c = K then some (⟨g, 0, none⟩ : Addr) else some ⟨g, K * 2, none⟩) = D := ⟨_, rfl⟩
  obtain ⟨m, hm⟩ : ∃ m, m = n - 1 := ⟨_, rfl⟩
  have hkm : k + (n - K) = m := by omega
  have r0 : (m : Int) ≤ n := by omega
  have r1 : ¬ c = m := by omega
  have r2 : n - m = 1 := by omega
  have r3 : m ≤ c := by omega
  have r4 : m * 2 + 1 < c * 2 := by omega
  have r5 : m < n := by omega
  have HM := Lib.hid hm
  clear hm
  have hrow : Ow B w 25 2 (some ⟨g, 0, none⟩) k c (cellsE (es.take k)) := by
    refine Ow.mk_ (by rw [cellsE_length, List.length_take, h.rdE.len]; omega) hBg hb (by omega) hcm hsz ?_
    rw [← cellsE_take, ← htk, List.take_take, Nat.min_eq_left (by omega)]
  have HRow := Lib.hid hrow
  have HSrc := Lib.hid (src_dropE h.rdE K (n - K) rfl D (fun hh => by rw [← hD, if_neg (by omega)]))
  have hmm : k + (n - K) ≤ c := by omega
  have hm8 : n - K ≤ n := by omega
  have HK := Lib.hid hK
  clear hK h hrow
  go_enter Try.func49, Try.ntmps49
  go_wp2_with fail
  go_cut [0] (fun s0 wx => s0 = .slice (some ⟨g, 0, none⟩) m c ∧ Hid (OwE B wx (some ⟨g, 0, none⟩) m c (es.take k ++ es.drop K)) ∧ Hid (w.grownBy wx (some g)))
  case first =>
    go_still_tail 6, (by kernel_rfl)
    refine wpList_append_in _ rfl (.tmp 22) (.tmp 25) _ rfl B 25 i0 _ 2 16 Try.underlying23 HI.out HZ.out HS.out HBY.out rfl (by omega) _ k c _ rfl (Ow.drew HRow.out) D (n - K) _ _ rfl HSrc.out.drew (cellsE_one _) (by unfold maxLen; omega) (by omega) hB hmm ?_
    intro w5 hO5 hg5
    all_goals
      rw [hkm] at hO5
      have h1 : ownB (some (⟨g, 0, none⟩ : Addr)) c = some g := by unfold ownB; rw [if_neg (by omega)]; rfl
      rw [h1] at hg5
      have HO5 := Lib.hid hO5
      have HG5 := Lib.hid hg5
      clear h1 hO5 hg5
      go_wp2_with fail
      go_meet
      exact ⟨rfl, by have := HO5.out; rw [← cellsE_append] at this; exact this, ⟨HG5.out.os, HG5.out.tape, HG5.out.output, HG5.out.size, HG5.out.block⟩⟩
  case rest =>
    obtain ⟨rfl, HO5, HG5⟩ := hcut
    obtain ⟨g', cur', hgg, _, hb', _, _, hsz', htk'⟩ := HO5.out.blk (by omega)
    injection hgg with hgg
    injection hgg with hgg
    subst hgg
    have HB' := Lib.hid hb'
    have HTK := Lib.hid htk'
    have HCL := Lib.hid (clear_one g (m * 2) (c - m) 0 wc (cur'[m * 2]'(by omega)) (cur'[m * 2 + 1]'(by omega)) ((hb'.cell _).trans (Array.getElem?_eq_getElem _)) ((hb'.cell _).trans (Array.getElem?_eq_getElem _)) (hb'.frozen _) (hb'.frozen _))
    have hcl := HCL.out
    clear hkm hb' htk' HCL
    go_wp2_with fail
    go_ret
    have hW : Below B wc ((wc.setCell ⟨g, m * 2, none⟩ (.int .i64 0)).setCell ⟨g, m * 2 + 1, none⟩ (.int .i64 0)) := ((Below.refl _ _).setCell hBg _).setCell hBg _
    refine ⟨ret_slice HM.out, ?_, ?_⟩
    · rw [← HM.out, ← HK.out]
      refine Ow.mk_ ?_ hBg ((HB'.out.set_ _ _).set_ _ _) r3 hcm (by simpa using hsz') ?_
      · exact HO5.out.len
      · rw [← HTK.out]
        apply List.ext_getElem?
        intro j
        rw [List.getElem?_take, List.getElem?_take]
        split
        · simp only [Array.getElem?_toList, Array.getElem?_setIfInBounds]
          rw [if_neg (by omega), if_neg (by omega)]
        · rfl
    · have h0 : Below B w wc := ⟨HG5.out.os, HG5.out.tape, HG5.out.output, HG5.out.size, fun i hi => HG5.out.block i (by omega) (by intro e; injection e with e; omega)⟩
      exact (h0.setCell hBg _).setCell hBg _
end Go.Proofs.Ytnfmlmkabioepaa

/-
  impl.BoardRemove, for every slice of at most 2^40 entries: a new row; nothing that was there is written.
-/
import Derived.Test.YtnfmlmkabioepaaDel
import Derived.Test.YtnfmlmkabioepaaRs
import Derived.Test.YtnfmlmkabioepaaBi
import Derived.Test.YtnfmlmkabioepaaBa
import Derived.Test.YtnfmlmkabioepaaVp
namespace Go.Proofs.Ytnfmlmkabioepaa
open Go.RowKit Go.Sort

theorem without_none {p : Int} {es : List Ent} (h : findE p es 0 < 0) : withoutE p es = es := by
  unfold withoutE
  rw [List.filter_eq_self]
  intro e he
  have := findE_neg p es 0 (Int.le_refl _) h e he
  simpa using this
theorem without_at {p : Int} {es : List Ent} (hv : validE es = true) {k : Nat} {e : Ent} (he : es[k]? = some e) (hp : e.1 = p) : withoutE p es = es.take k ++ es.drop (k + 1) := by
  have h3 := (Good.of hv).2.2.1
  have hk := (List.getElem?_eq_some_iff.1 he).1
  have hek := (List.getElem?_eq_some_iff.1 he).2
  have hs : es = es.take k ++ e :: es.drop (k + 1) := by rw [← hek, ← List.drop_eq_getElem_cons hk, List.take_append_drop]
  rw [hs, List.pairwise_append, List.pairwise_cons] at h3
  obtain ⟨_, ⟨h5, _⟩, h6⟩ := h3
  conv => lhs; rw [hs]
  unfold withoutE
  rw [List.filter_append, List.filter_cons, if_neg (by simp [hp])]
  congr 1
  · rw [List.filter_eq_self]
    intro a ha
    have := h6 a ha e (List.mem_cons_self ..)
    rw [hp] at this
    simpa using this
  · rw [List.filter_eq_self]
    intro a ha
    have := h5 a ha
    rw [hp] at this
    simpa using fun h => this h.symm

def RemovePost (B : Nat) (es : List Ent) (p : Int) (w : World) (e : Ending) (w' : World) : Prop :=
  ∃ A' c', e = .returned (.tuple #[.slice A' (removeE es p).1.length c', .bool (removeE es p).2]) ∧ OwE B w' A' (removeE es p).1.length c' (removeE es p).1 ∧ Below B w w'

set_option maxHeartbeats 1000000 in
theorem implBoardRemove_any (A : Option Addr) (n c : Nat) (es : List Ent) (p : Int) (w : World) (hr : RdE w A n es) (hn : n ≤ 1099511627776) (hc : n ≤ c) :
    Calls Try.prog 83 #[.slice A n c, .int .i64 p] w (RemovePost w.heap.size es p w) := by
  have HR := Lib.hid hr
  clear hr
  go_enter Try.func83, Try.ntmps83
  go_wp2_with fail
  refine (implBoardValid_v _ _ _ _ _ HR.out hn hc).mono ?_
  rintro e w1 ⟨rfl, hB1⟩
  have HB1 := Lib.hid hB1
  clear hB1
  cases hv : validE es with
  | false =>
    have hfin : removeE es p = ([], false) := by simp [removeE, hv]
    have HF := Lib.hid hfin
    clear hfin
    go_wp2
    go_ret2
    unfold RemovePost
    rw [HF.out]
    exact ⟨_, 0, rfl, Ow.bare _ _ _ _ _, HB1.out⟩
  | true =>
    have HV := Lib.hid hv
    clear hv
    go_wp2_with fail
    refine (placeOf_any _ _ _ _ _ _ (HR.out.below HB1.out) hn).mono ?_
    rintro e w2 ⟨rfl, hB2⟩
    have HB2 := Lib.hid (below_next HB1.out hB2)
    have HR2 := Lib.hid (HR.out.below HB2.out)
    clear hB2
    by_cases hf : findE p es 0 < 0
    · have hfin : removeE es p = (es, false) := by simp [removeE, HV.out, without_none hf]; omega
      have HF := Lib.hid hfin
      clear hfin
      go_wp2_with fail
      refine (clone_any _ _ _ _ _ HR2.out hn).mono ?_
      rintro e w3 ⟨A3, c3, rfl, hO3, hB3⟩
      have HO3 := Lib.hid (hO3.mono HB2.out.size)
      have HB3 := Lib.hid (below_next HB2.out hB3)
      clear hO3 hB3
      go_wp2
      go_ret2
      unfold RemovePost
      rw [HF.out]
      exact ⟨A3, c3, by rw [HR.out.len]; rfl, by rw [HR.out.len]; exact HO3.out, HB3.out⟩
    · obtain ⟨k, e, hk, he, hp⟩ := findE_ok (Int.not_lt.1 hf)
      have hkn : k < n := by have := (List.getElem?_eq_some_iff.1 he).1; rw [HR.out.len] at this; exact this
      have hwi := without_at HV.out he hp
      have hfin : removeE es p = (es.take k ++ es.drop (k + 1), true) := by simp [removeE, HV.out, hwi]; omega
      have hlen : (es.take k ++ es.drop (k + 1)).length = n - 1 := by
        rw [List.length_append, List.length_take, List.length_drop, HR.out.len]; omega
      obtain ⟨K, hK⟩ : ∃ K, K = k + 1 := ⟨_, rfl⟩
      have q1 : IntKind.i64.wrap ((k : Int) + 1) = (K : Int) := by rw [IntWalk.i64_in _ (by omega), hK]; push_cast; rfl
      have q2 : ¬ (k : Int) < 0 := by omega
      have HF := Lib.hid hfin
      have HL := Lib.hid hlen
      have HK := Lib.hid hK
      clear he hp hwi hfin hlen hK hf
      rw [hk]
      clear hk
      go_wp2_with fail
      refine (clone_any _ _ _ _ _ HR2.out hn).mono ?_
      rintro e w3 ⟨A3, c3, rfl, hO3, hB3⟩
      have HO3 := Lib.hid hO3
      have HB3 := Lib.hid hB3
      have hs3 := hB3.size
      clear hO3 hB3
      go_wp2_with fail
      refine (delete_any w2.heap.size A3 n c3 k K es w3 HO3.out hkn HK.out hn hs3).mono ?_
      rintro e w4 ⟨rfl, hO4, hB4⟩
      have HO4 := Lib.hid (hO4.mono HB2.out.size)
      have HB4 := Lib.hid (HB2.out.trans ((HB3.out.trans hB4).mono HB2.out.size))
      clear hO4 hB4
      go_wp2
      go_ret2
      unfold RemovePost
      rw [HF.out]
      exact ⟨A3, c3, by rw [HL.out]; rfl, by rw [HL.out]; exact HO4.out, HB4.out⟩
end Go.Proofs.Ytnfmlmkabioepaa

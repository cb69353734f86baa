/-
  What BoardRank and BoardLimit return, the reference's and the program's, for every slice of at most 2^40 entries.
-/
import Derived.Test.YtnfmlmkabioepaaBs
import Derived.Test.YtnfmlmkabioepaaBi
namespace Go.Proofs.Ytnfmlmkabioepaa
open Go.RowKit Go.Sort

def rankE (es : List Ent) (p : Int) : Int := if validE es then findE p es 0 + 1 else -1
def limitE (es : List Ent) : Int := if validE es then (if es.length < 4 then 60 else (es[3]?.getD (0, 0)).2 - 1) else -1

theorem findE_le (p : Int) : ∀ (es : List Ent) (j : Int), 0 ≤ j → -1 ≤ findE p es j ∧ findE p es j < j + es.length + 1
  | [], j, h => by simp [findE]; omega
  | x :: r, j, h => by
    have := findE_le p r (j + 1) (by omega)
    simp only [findE, List.length_cons]
    split <;> omega
theorem validE_len {es : List Ent} (h : validE es = true) : es.length ≤ 4 := by
  simp only [validE, Bool.and_eq_true, decide_eq_true_eq] at h
  omega
theorem validE_at {es : List Ent} (h : validE es = true) {k : Nat} (hk : k < es.length) : vriE es k = true := by
  simp only [validE, Bool.and_eq_true, valliE, List.all_eq_true] at h
  exact h.2 k (List.mem_range.2 hk)
theorem validE_ok {es : List Ent} (h : validE es = true) {k : Nat} {e : Ent} (he : es[k]? = some e) : okE e = true := by
  have h1 := validE_at h (List.getElem?_eq_some_iff.1 he).1
  simp only [vriE, he, Bool.and_eq_true] at h1
  exact h1.1.1
theorem okE_bd {e : Ent} (h : okE e = true) : 0 ≤ e.1 ∧ e.1 ≤ 9 ∧ 0 ≤ e.2 ∧ e.2 ≤ 60 := by
  simp only [okE, inR, Bool.and_eq_true, decide_eq_true_eq] at h
  omega

set_option maxHeartbeats 400000 in
theorem specBoardLimit_any (A : Option Addr) (n c : Nat) (es : List Ent) (w : World) (hr : RdE w A n es) (hn : n ≤ 1099511627776) :
    Calls Try.prog 19 #[.slice A n c] w fun e w' => e = .returned (.int .i64 (limitE es)) ∧ Below w.heap.size w w' := by
  have hl := hr.len
  subst hl
  have HR := Lib.hid hr
  clear hr
  cases hv : validE es with
  | false =>
    have hfin : limitE es = -1 := by simp [limitE, hv]
    have HF := Lib.hid hfin; clear hfin
    go_enter Try.func19, Try.ntmps19
    go_wp2_with fail
    refine (specBoardValid_v _ _ _ _ _ HR.out hn).mono ?_
    rintro e w1 ⟨rfl, hB1⟩
    go_wp2_with fail
    go_ret
    exact ⟨ret_int (by rw [HF.out]), hB1⟩
  | true =>
    have h4 := validE_len hv
    by_cases h : es.length < 4
    · have hfin : limitE es = 60 := by simp [limitE, hv, h]
      have HF := Lib.hid hfin; clear hfin
      go_enter Try.func19, Try.ntmps19
      go_wp2_with fail
      refine (specBoardValid_v _ _ _ _ _ HR.out hn).mono ?_
      rintro e w1 ⟨rfl, hB1⟩
      go_wp2_with fail
      go_ret
      exact ⟨ret_int (by rw [HF.out]), hB1⟩
    · have he4 : es.length = 4 := by omega
      have HR4 : Hid (RdE w A 4 es) := by have := HR.out; rwa [he4] at this
      rw [he4]
      go_enter Try.func19, Try.ntmps19
      go_wp2_with fail
      refine (specBoardValid_v _ _ _ _ _ HR4.out (by omega)).mono ?_
      rintro e w1 ⟨rfl, hB1⟩
      obtain ⟨b, off, e, rfl, hb, he, h0, h1⟩ := (HR4.out.below hB1).at_ (k := 3) (by omega)
      have hbd := okE_bd (validE_ok hv he)
      have hs1 := hbd.2.2.1
      have hs2 := hbd.2.2.2
      have hfin : limitE es = e.2 - 1 := by unfold limitE; rw [if_pos hv, if_neg h, he]; rfl
      have HF := Lib.hid hfin
      have h1' : w1.cell? ⟨b, off + 7, none⟩ = some (.int .i64 e.2) := h1
      clear hfin he hbd h0 h1 h he4 h4 HR
      go_wp2_with fail
      go_ret
      exact ⟨ret_int (by rw [HF.out]), hB1⟩

set_option maxHeartbeats 400000 in
theorem implBoardLimit_any (A : Option Addr) (n c : Nat) (es : List Ent) (w : World) (hr : RdE w A n es) (hn : n ≤ 1099511627776) (hc : n ≤ c) :
    Calls Try.prog 18 #[.slice A n c] w fun e w' => e = .returned (.int .i64 (limitE es)) ∧ Below w.heap.size w w' := by
  have hl := hr.len
  subst hl
  have HR := Lib.hid hr
  clear hr
  cases hv : validE es with
  | false =>
    have hfin : limitE es = -1 := by simp [limitE, hv]
    have HF := Lib.hid hfin; clear hfin
    go_enter Try.func18, Try.ntmps18
    go_wp2_with fail
    refine (implBoardValid_v _ _ _ _ _ HR.out hn hc).mono ?_
    rintro e w1 ⟨rfl, hB1⟩
    go_wp2_with fail
    go_ret
    exact ⟨ret_int (by rw [HF.out]), hB1⟩
  | true =>
    have h4 := validE_len hv
    by_cases h : es.length < 4
    · have hfin : limitE es = 60 := by simp [limitE, hv, h]
      have HF := Lib.hid hfin; clear hfin
      go_enter Try.func18, Try.ntmps18
      go_wp2_with fail
      refine (implBoardValid_v _ _ _ _ _ HR.out hn hc).mono ?_
      rintro e w1 ⟨rfl, hB1⟩
      go_wp2_with fail
      go_ret
      exact ⟨ret_int (by rw [HF.out]), hB1⟩
    · have he4 : es.length = 4 := by omega
      have HR4 : Hid (RdE w A 4 es) := by have := HR.out; rwa [he4] at this
      rw [he4] at hc ⊢
      go_enter Try.func18, Try.ntmps18
      go_wp2_with fail
      refine (implBoardValid_v _ _ _ _ _ HR4.out (by omega) hc).mono ?_
      rintro e w1 ⟨rfl, hB1⟩
      obtain ⟨b, off, e, rfl, hb, he, h0, h1⟩ := (HR4.out.below hB1).at_ (k := 3) (by omega)
      have hbd := okE_bd (validE_ok hv he)
      have hs1 := hbd.2.2.1
      have hs2 := hbd.2.2.2
      have hfin : limitE es = e.2 - 1 := by unfold limitE; rw [if_pos hv, if_neg h, he]; rfl
      have HF := Lib.hid hfin
      have h1' : w1.cell? ⟨b, off + 7, none⟩ = some (.int .i64 e.2) := h1
      clear hfin he hbd h0 h1 h he4 h4 HR
      go_wp2_with fail
      go_ret
      exact ⟨ret_int (by rw [HF.out]), hB1⟩
end Go.Proofs.Ytnfmlmkabioepaa

/-
  laws.scoreOf and laws.sameBoard.
-/
import Derived.Test.YtnfmlmkabioepaaBr
import Derived.Test.YtnfmlmkabioepaaLk
namespace Go.Proofs.Ytnfmlmkabioepaa
open Go.RowKit Go.Sort

def scoreE (p : Int) : List Ent → Int
  | [] => -1
  | e :: r => if e.1 = p then e.2 else scoreE p r
theorem scoreE_step (p : Int) (es : List Ent) (k : Nat) (e : Ent) (he : es[k]? = some e) : scoreE p (es.drop k) = if e.1 = p then e.2 else scoreE p (es.drop (k + 1)) := by
  have hk : k < es.length := (List.getElem?_eq_some_iff.1 he).1
  rw [List.drop_eq_getElem_cons hk, scoreE]
  have : es[k] = e := (List.getElem?_eq_some_iff.1 he).2
  rw [this]

set_option maxHeartbeats 1000000 in
theorem scoreOf_any (A : Option Addr) (n c : Nat) (es : List Ent) (p : Int) (w : World) (hr : RdE w A n es) (hn : n ≤ 1099511627776) :
    Calls Try.prog 16 #[.slice A n c, .int .i64 p] w fun e w' => e = .returned (.int .i64 (scoreE p es)) ∧ w' = w := by
  have HR := Lib.hid hr; clear hr
  go_enter Try.func16, Try.ntmps16
  go_wp2
  go_loopw [5] (fun i wr => wr = w ∧ ∃ k : Nat, k ≤ n ∧ i = .int .i64 k ∧ Hid (scoreE p es = scoreE p (es.drop k))) (fun i _ => n - (intOf i).toNat)
  case atStart => exact ⟨rfl, 0, Nat.zero_le _, rfl, rfl⟩
  case round =>
    obtain ⟨rfl, k, hk, rfl, HS⟩ := hrel
    by_cases hlt : k < n
    · obtain ⟨b, off, e, rfl, hb, he, h0, h1⟩ := HR.out.at_ hlt
      have HST := Lib.hid (scoreE_step p es k e he)
      clear he
      by_cases hp : e.1 = p
      · have hq : (e.1 == p) = true := by simpa using hp
        have HE : Hid (scoreE p es = e.2) := by
          show _ = _
          rw [HS.out, HST.out, if_pos hp]
        clear hp
        go_wp2
        go_ret
        exact ⟨ret_int HE.out.symm, rfl⟩
      · have hq : (e.1 == p) = false := by simpa using hp
        have HE : Hid (scoreE p es = scoreE p (es.drop (k + 1))) := by
          show _ = _
          rw [HS.out, HST.out, if_neg hp]
        clear hp
        go_wp2
        exact ⟨⟨trivial, k + 1, by omega, by go_num, HE⟩, by simp [intOf]; omega⟩
    · go_wp2
      go_ret
      refine ⟨ret_int ?_, rfl⟩
      rw [HS.out, List.drop_eq_nil_of_le (by rw [HR.out.len]; omega)]
      rfl

theorem findE_bd (p : Int) : ∀ (es : List Ent) (j : Int), findE p es j = -1 ∨ (j ≤ findE p es j ∧ findE p es j < j + es.length)
  | [], j => .inl rfl
  | x :: r, j => by
    have := findE_bd p r (j + 1)
    simp only [findE, List.length_cons]
    split
    · exact .inr (by omega)
    · rcases this with h | h
      · exact .inl h
      · exact .inr (by omega)
theorem findE_none (p : Int) : ∀ (es : List Ent) (j : Int), 0 ≤ j → findE p es j = -1 → scoreE p es = -1
  | [], j, _, _ => rfl
  | x :: r, j, hj, h => by
    simp only [findE] at h
    simp only [scoreE]
    split at h
    · omega
    · rename_i hne
      rw [if_neg hne]
      exact findE_none p r (j + 1) (by omega) h
theorem findE_get (p : Int) : ∀ (es : List Ent) (j : Int) (k : Nat), 0 ≤ j → findE p es j = j + k → ∃ e, es[k]? = some e ∧ e.1 = p
  | [], j, k, hj, h => by simp [findE] at h; omega
  | x :: r, j, k, hj, h => by
    simp only [findE] at h
    split at h
    · rename_i he
      obtain rfl : k = 0 := by omega
      exact ⟨x, rfl, he⟩
    · have hb := findE_bd p r (j + 1)
      cases k with
      | zero => omega
      | succ k =>
        obtain ⟨e, h1, h2⟩ := findE_get p r (j + 1) k (by omega) (by rw [h]; push_cast; omega)
        exact ⟨e, by simpa using h1, h2⟩
end Go.Proofs.Ytnfmlmkabioepaa

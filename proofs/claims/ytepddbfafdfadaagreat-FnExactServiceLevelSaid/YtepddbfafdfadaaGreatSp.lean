/-
  Services as data: which are valid. No program in sight.
-/
import Derived.Test.YtepddbfafdfadaaGreatLs
namespace Go.Proofs.YtepddbfafdfadaaGreat
open Go.RowKit Go.Sort

def keyOk (n : Int) : Bool := inR n 0 9999
def hashOk (n : Int) : Bool := inR n 0 1000002
def keyed (keys : List Int) (e : Ent) : Bool := decide (keys[e.1.toNat]?.getD 0 ≠ 0)
def prevId (ts : List Trk) (k : Nat) : Int := ((ts[k - 1]?).map (·.l.id)).getD 0
def trkOk (S : Svc) (k : Nat) : Bool :=
  match S.ts[k]? with
  | none => true
  | some t => levelOk t.l && validE t.b && !(decide (0 < k) && decide (t.l.id ≤ prevId S.ts k)) && t.b.all (keyed S.keys)
def validS (S : Svc) : Bool :=
  decide (S.keys.length = 10) && decide (S.ts.length ≤ 4) && decide (S.tags.length ≤ 12) && S.keys.all keyOk && (List.range S.ts.length).all (trkOk S) && S.tags.all hashOk

theorem validS_len {S : Svc} (h : ¬ (S.keys.length = 10 ∧ S.ts.length ≤ 4 ∧ S.tags.length ≤ 12)) : validS S = false := by
  unfold validS
  simp only [Bool.and_eq_false_iff, decide_eq_false_iff_not]
  by_cases h1 : S.keys.length = 10
  · by_cases h2 : S.ts.length ≤ 4
    · by_cases h3 : S.tags.length ≤ 12
      · exact absurd ⟨h1, h2, h3⟩ h
      · exact .inl (.inl (.inl (.inr h3)))
    · exact .inl (.inl (.inl (.inl (.inr h2))))
  · exact .inl (.inl (.inl (.inl (.inl h1))))
theorem validS_keys {S : Svc} (h : S.keys.all keyOk = false) : validS S = false := by unfold validS; rw [h]; simp
theorem validS_tags {S : Svc} (h : S.tags.all hashOk = false) : validS S = false := by unfold validS; rw [h]; simp
theorem validS_trk {S : Svc} {k : Nat} (hk : k < S.ts.length) (h : trkOk S k = false) : validS S = false := by
  have : (List.range S.ts.length).all (trkOk S) = false := by
    rw [List.all_eq_false]
    exact ⟨k, List.mem_range.2 hk, by simp [h]⟩
  unfold validS
  rw [this]; simp
theorem validS_true {S : Svc} (h1 : S.keys.length = 10) (h2 : S.ts.length ≤ 4) (h3 : S.tags.length ≤ 12) (h4 : S.keys.all keyOk = true) (h5 : ∀ k, k < S.ts.length → trkOk S k = true) (h6 : S.tags.all hashOk = true) : validS S = true := by
  have : (List.range S.ts.length).all (trkOk S) = true := by
    rw [List.all_eq_true]
    exact fun k hk => h5 k (List.mem_range.1 hk)
  unfold validS
  rw [this, h4, h6]
  simp [h1, h2, h3]
theorem validS_of {S : Svc} (h : validS S = true) : S.keys.length = 10 ∧ S.ts.length ≤ 4 ∧ S.tags.length ≤ 12 ∧ S.keys.all keyOk = true ∧ (∀ k, k < S.ts.length → trkOk S k = true) ∧ S.tags.all hashOk = true := by
  unfold validS at h
  simp only [Bool.and_eq_true, decide_eq_true_eq, List.all_eq_true] at h
  obtain ⟨⟨⟨⟨⟨h1, h2⟩, h3⟩, h4⟩, h5⟩, h6⟩ := h
  exact ⟨h1, h2, h3, List.all_eq_true.2 h4, fun k hk => h5 k (List.mem_range.2 hk), List.all_eq_true.2 h6⟩
theorem trkOk_some {S : Svc} {k : Nat} {t : Trk} (h : S.ts[k]? = some t) : trkOk S k = (levelOk t.l && validE t.b && !(decide (0 < k) && decide (t.l.id ≤ prevId S.ts k)) && t.b.all (keyed S.keys)) := by simp [trkOk, h]
theorem all_drop {α : Type} {p : α → Bool} {xs : List α} {k : Nat} {x : α} (h : xs[k]? = some x) : (xs.drop k).all p = (p x && (xs.drop (k + 1)).all p) := by
  obtain ⟨hk', he⟩ := List.getElem?_eq_some_iff.1 h
  rw [List.drop_eq_getElem_cons hk', he]; rfl
end Go.Proofs.YtepddbfafdfadaaGreat

/-
  ServiceLevel, with no program in sight: where a level is registered; a track more in a row of the call's own.
-/
import Derived.Test.YtepddbfafdfadaaGreatTp
import Derived.Test.YtepddbfafdfadaaGreatNw
import Derived.Test.YtepddbfafdfadaaGreatCr
namespace Go.Proofs.YtepddbfafdfadaaGreat
open Go.RowKit Go.Sort

def placeOf (ts : List Trk) (id : Int) : Nat := (ts.takeWhile fun t => decide (t.l.id < id)).length
def levelS (S : Svc) (l : Lvl) : Svc × Bool :=
  if validS S && levelOk l then (if (S.ts.findIdx? (hasId l.id)).isSome || decide (4 ≤ S.ts.length) then (S, false)
    else (⟨S.ts.take (placeOf S.ts l.id) ++ ⟨l, []⟩ :: S.ts.drop (placeOf S.ts l.id), S.keys, S.tags⟩, true)) else (⟨[], [], []⟩, false)
theorem levelS_bad {S : Svc} {l : Lvl} (h : (validS S && levelOk l) = false) : levelS S l = (⟨[], [], []⟩, false) := by simp [levelS, h]
theorem levelS_known {S : Svc} {l : Lvl} {i : Nat} (h1 : validS S = true) (h2 : levelOk l = true) (h : S.ts.findIdx? (hasId l.id) = some i) : levelS S l = (S, false) := by simp [levelS, h1, h2, h]
theorem levelS_full {S : Svc} {l : Lvl} (h1 : validS S = true) (h2 : levelOk l = true) (h : 4 ≤ S.ts.length) : levelS S l = (S, false) := by simp [levelS, h1, h2, h]
theorem levelS_done {S : Svc} {l : Lvl} {i : Nat} (h1 : validS S = true) (h2 : levelOk l = true) (h : S.ts.findIdx? (hasId l.id) = none) (h4 : S.ts.length < 4) (hp : placeOf S.ts l.id = i) : levelS S l = (⟨S.ts.take i ++ ⟨l, []⟩ :: S.ts.drop i, S.keys, S.tags⟩, true) := by
  have h5 : ¬ 4 ≤ S.ts.length := by omega
  simp [levelS, h1, h2, h, hp, h5]
theorem place_at : ∀ (ts : List Trk) (id : Int) (i : Nat), i ≤ ts.length → (∀ j t, j < i → ts[j]? = some t → t.l.id < id) → (∀ t, ts[i]? = some t → ¬ t.l.id < id) → placeOf ts id = i
  | [], _, i, hi, _, _ => by simp at hi; subst hi; rfl
  | t :: ts, id, 0, _, _, h2 => by
    have := h2 t rfl
    simp [placeOf, this]
  | t :: ts, id, i + 1, hi, h1, h2 => by
    have h := h1 0 t (Nat.succ_pos _) rfl
    have := place_at ts id i (by simpa using hi) (fun j u hj hu => h1 (j + 1) u (by omega) (by simpa using hu)) (fun u hu => h2 u (by simpa using hu))
    unfold placeOf at this ⊢
    rw [List.takeWhile_cons, if_pos (by simpa using h), List.length_cons, this]
theorem level_id {l : Lvl} (h : levelOk l = true) : 0 ≤ l.id ∧ l.id ≤ 99 := by
  unfold levelOk at h
  simp only [Bool.and_eq_true] at h
  have h2 := h.1.1.1.1.1.1.1.1.1
  simpa [inR] using h2
/-- where the program's search ends is where the reference registers -/
theorem search_place {S : Svc} {xs : List Row} {id : Int} {i : Nat} (h : validS S = true) (hxs : xs.map (·.2) = S.ts) (he : EndAt xs id i) (h1 : 0 ≤ id) (h2 : id ≤ 99) : placeOf S.ts id = i := by
  obtain ⟨e1, e2, e3⟩ := he
  have hl : xs.length = S.ts.length := by rw [← hxs, List.length_map]
  have hget : ∀ (j : Nat) (x : Row), xs[j]? = some x → S.ts[j]? = some x.2 := fun j x hx => by rw [← hxs, List.getElem?_map, hx]; rfl
  refine place_at _ _ _ (by omega) (fun j t hj ht => ?_) (fun t ht hlt => ?_)
  · rcases e2 with e2 | ⟨x, hx, hn⟩
    · omega
    · have hr := valid_id h (hget _ _ hx)
      rw [wrap_small hr.1 hr.2 h1 h2] at hn
      rcases Nat.lt_or_ge j (i - 1) with hlt | hge
      · have := valid_lt h (i - 1) j t _ hlt ht (hget _ _ hx)
        omega
      · obtain rfl : j = i - 1 := by omega
        have h3 := hget _ _ hx
        rw [ht] at h3
        injection h3 with h3
        rw [h3]; omega
  · rcases e3 with e3 | e3
    · have := (List.getElem?_eq_some_iff.1 ht).1
      omega
    · have hi : i < xs.length := by have := (List.getElem?_eq_some_iff.1 ht).1; omega
      have h3 := hget _ _ (List.getElem?_eq_getElem hi)
      rw [ht] at h3
      injection h3 with h3
      have hr := valid_id h ht
      refine e3 ⟨_, List.getElem?_eq_getElem hi, ?_⟩
      rw [← h3, wrap_small hr.1 hr.2 h1 h2]
      omega

theorem perm_nodup {A B Y : List Nat} (h : ((A ++ B) ++ Y).Nodup) : (A ++ (Y ++ B)).Nodup := by
  rw [List.append_assoc] at h
  exact (List.Perm.append_left A List.perm_append_comm).nodup_iff.1 h
/-- a track more -/
theorem OwTs.insert {lo m hi n c c' k : Nat} {A A' : Option Addr} {w w' : World} {xs : List Row} {y : Row} (hT : OwTs lo m w ⟨A, n, c⟩ xs) (hy : OwT m hi w y) (hnd : (blkOf y.1.w ++ blkOf y.1.g).Nodup) (hlm : lo ≤ m) (hmh : m ≤ hi) (hw : hi ≤ w'.heap.size) (hA : 0 < c' → ∀ g, A'.map (·.block) = some g → g < w'.heap.size)
    (hO : Ow lo w' 62 12 A' (n + 1) c' ((cellsT xs).take (k * 12) ++ encT y ++ (cellsT xs).drop (k * 12))) (hg : w.grownBy w' (ownB A c)) (hn : n < 1048576) : OwTs lo w'.heap.size w' ⟨A', n + 1, c'⟩ (xs.take k ++ y :: xs.drop k) := by
  have r1 : OwR lo m w' xs := hT.rows.apart hT.1.ow hg
  have r2 : OwR m hi w' [y] := OwR.apart ⟨fun z hz => by
    obtain rfl : z = y := List.mem_singleton.1 hz
    exact hy, by rw [boxBlks_one]; exact hnd, by rw [entBlks_one]; exact blkOf_nodup _⟩ hT.1.ow hg
  have r := (r1.app r2 hlm hmh).mono (lo' := lo) (Nat.le_refl _) hw
  have hb := r.box
  have he := r.ent
  rw [← List.take_append_drop k xs, boxBlks_append, boxBlks_append] at hb
  rw [← List.take_append_drop k xs, entBlks_append, entBlks_append] at he
  refine OwTs.mk_ ⟨?_, hA⟩ ⟨fun z hz => ?_, ?_, ?_⟩ (by show n + 1 ≤ 1048576; omega)
  · show Ow lo _ _ 12 _ _ _ (cellsX encT (xs.take k ++ y :: xs.drop k))
    rw [cellsX_append, cellsX_cons, ← List.append_assoc, ← cellsX_take encT_len, ← cellsX_drop encT_len]
    exact hO
  · refine r.own z ?_
    rcases List.mem_append.1 hz with hz | hz
    · exact List.mem_append_left _ (List.mem_of_mem_take hz)
    · rcases List.mem_cons.1 hz with rfl | hz
      · simp
      · exact List.mem_append_left _ (List.mem_of_mem_drop hz)
  · rw [show y :: xs.drop k = [y] ++ xs.drop k from rfl, boxBlks_append, boxBlks_append]
    exact perm_nodup hb
  · rw [show y :: xs.drop k = [y] ++ xs.drop k from rfl, entBlks_append, entBlks_append]
    exact perm_nodup he
end Go.Proofs.YtepddbfafdfadaaGreat

/-
  What the reference's l32Without and slices.Clone at entries return: new rows; nothing that was there is written. Every slice of at most 2^40 entries.
-/
import Derived.Test.YtepddbfafdfadaaGreatMem
import Derived.Test.YtepddbfafdfadaaGreatBr
import Derived.Test.YtepddbfafdfadaaGreatLk
namespace Go.Proofs.YtepddbfafdfadaaGreat
open Go.RowKit Go.Sort

/-- a row of entries of the call's own -/
abbrev OwE (B : Nat) (w : World) (A : Option Addr) (n c : Nat) (es : List Ent) : Prop := Ow B w 67 2 A n c (cellsE es)

def withoutE (p : Int) (es : List Ent) : List Ent := es.filter fun e => e.1 != p
theorem withoutE_step (p : Int) (es : List Ent) (k : Nat) (e : Ent) (he : es[k]? = some e) : withoutE p (es.take (k + 1)) = withoutE p (es.take k) ++ (if e.1 != p then [e] else []) := by
  rw [List.take_add_one, he, withoutE, List.filter_append]
  simp [withoutE, List.filter_cons]
theorem withoutE_len (p : Int) (es : List Ent) (k : Nat) : (withoutE p (es.take k)).length ≤ k := by
  unfold withoutE
  exact Nat.le_trans (List.length_filter_le _ _) (List.length_take_le _ _)

set_option maxHeartbeats 1000000 in
theorem l32Without_any (A : Option Addr) (n c : Nat) (es : List Ent) (p : Int) (w : World) (hr : RdE w A n es) (hn : n ≤ 1099511627776) :
    Calls Tryz.prog 89 #[.slice A n c, .int .i64 p] w fun e w' => ∃ A' c', e = .returned (.slice A' (withoutE p es).length c') ∧ OwE w.heap.size w' A' (withoutE p es).length c' (withoutE p es) ∧ Below w.heap.size w w' := by
  have HR := Lib.hid hr; clear hr
  obtain ⟨i0, hi0, hz0, hz1, hz2⟩ := info_parts infoE
  have HI := Lib.hid hi0
  have HZ := Lib.hid hz0
  have HS := Lib.hid hz1
  have HBY := Lib.hid hz2
  clear hi0 hz0 hz1 hz2
  go_enter Tryz.func89, Tryz.ntmps89
  go_wp2
  go_loopw [5, 6] (fun o i wr => ∃ (k : Nat) (A' : Option Addr) (c' : Nat), k ≤ n ∧ i = .int .i64 k ∧ o = .slice A' (withoutE p (es.take k)).length c' ∧ Hid (Below w.heap.size w wr ∧ OwE w.heap.size wr A' (withoutE p (es.take k)).length c' (withoutE p (es.take k)))) (fun _ i _ => n - (intOf i).toNat)
  case atStart => exact ⟨0, _, _, Nat.zero_le _, rfl, rfl, (Below.refl _ _).alloc (Nat.le_refl _) _, Ow.bare _ _ _ _ _⟩
  case round =>
    obtain ⟨k, A', c', hk, rfl, rfl, HB⟩ := hrel
    have hlw := withoutE_len p es k
    by_cases hlt : k < n
    · obtain ⟨b, off, e, rfl, hb, he, h0, h1⟩ := (HR.out.below HB.out.1).at_ hlt
      have HST := Lib.hid (withoutE_step p es k e he)
      clear he
      by_cases hp : e.1 = p
      · have hq : (e.1 != p) = false := by simpa using hp
        have HE : Hid (withoutE p (es.take (k + 1)) = withoutE p (es.take k)) := by
          show _ = _
          rw [HST.out, hq]; simp
        have HP := Lib.hid hp; clear hp
        go_wp2
        exact ⟨⟨k + 1, A', c', by omega, by go_num, by rw [HE.out], by rw [HE.out]; exact HB.out⟩, by simp [intOf]; omega⟩
      · have hq : (e.1 != p) = true := by simpa using hp
        have HE : Hid (withoutE p (es.take (k + 1)) = withoutE p (es.take k) ++ [e]) := by
          show _ = _
          rw [HST.out, hq]; simp
        have HP := Lib.hid hp; clear hp
        have hsz := HB.out.1.size
        go_wp2_with (at_builtin; refine wpList_append_ow _ rfl (.tmp 21) (.tmp 26) _ rfl w.heap.size 67 i0 _ 2 16 Tryz.underlying56 HI.out HZ.out HS.out HBY.out rfl (by omega) _ _ _ _ rfl (Ow.alloc HB.out.2 _) _ 1 1 (cellsE [e]) rfl (Src.blk (Blk.new _ _ _) rfl) (cellsE_one _) (by unfold maxLen; omega) (by omega) (by simp; omega) ?_; intro A2 c2 w2 hown2 hg2 _)
        have HO := Lib.hid hown2
        have HG := Lib.hid hg2
        clear hown2 hg2
        go_wp2
        have hb2 : Below w.heap.size w w2 := (Ow.alloc HB.out.2 _).grown HG.out (HB.out.1.alloc hsz _) (Nat.le_refl _) (by simp; omega)
        refine ⟨⟨k + 1, A2, c2, by omega, by go_num, by rw [HE.out]; simp, hb2, ?_⟩, by simp [intOf]; omega⟩
        rw [HE.out]
        have := HO.out
        rw [← cellsE_append] at this
        simpa [OwE] using this
    · go_wp2
      go_ret
      have hkn : es.take k = es := List.take_of_length_le (by rw [HR.out.len]; omega)
      rw [hkn] at HB ⊢
      exact ⟨A', c', rfl, HB.out.2, HB.out.1⟩

set_option maxHeartbeats 1000000 in
theorem clone_any (A : Option Addr) (n c : Nat) (es : List Ent) (w : World) (hr : RdE w A n es) (hn : n ≤ 1099511627776) :
    Calls Tryz.prog 73 #[.slice A n c] w fun e w' => ∃ A' c', e = .returned (.slice A' n c') ∧ OwE w.heap.size w' A' n c' es ∧ Below w.heap.size w w' := by
  have HR := Lib.hid hr
  obtain ⟨i0, hi0, hz0, hz1, hz2⟩ := info_parts infoE
  have HI := Lib.hid hi0
  have HZ := Lib.hid hz0
  have HS := Lib.hid hz1
  have HBY := Lib.hid hz2
  clear hi0 hz0 hz1 hz2
  cases A with
  | none =>
    have hn0 : n = 0 := by
      rcases Nat.eq_zero_or_pos n with h | h
      · exact h
      · obtain ⟨_, _, h1, _⟩ := hr.2 h; cases h1
    subst hn0
    have hes : es = [] := List.eq_nil_of_length_eq_zero hr.len
    subst hes
    have hq := fun W => Lib.run_eql_slice_nil (P := Tryz.prog) W 56 67 none 0 c 0 0 Tryz.underlying56
    clear hr
    go_enter Tryz.func73, Tryz.ntmps73
    go_wp2
    go_ret
    exact ⟨none, 0, rfl, Ow.bare _ _ _ _ _, Below.refl _ _⟩
  | some ad =>
    have hq := fun W => Lib.run_eql_slice_nil (P := Tryz.prog) W 56 67 (some ad) n c 0 0 Tryz.underlying56
    clear hr
    have hb1 : Below w.heap.size w (w.alloc (.cells #[] 67)) := (Below.refl _ _).alloc (Nat.le_refl _) _
    have HB := Lib.hid hb1; clear hb1
    go_enter Tryz.func73, Tryz.ntmps73
    go_wp2_with (at_builtin; refine wpList_append_ow _ rfl (.tmp 5) (.tmp 6) _ rfl w.heap.size 67 i0 _ 2 16 Tryz.underlying56 HI.out HZ.out HS.out HBY.out rfl (by omega) _ 0 0 [] rfl (Ow.bare _ _ _ _ _) _ n c (cellsE es) rfl (Src.ents (HR.out.below HB.out)) (cellsE_one _) (by unfold maxLen; omega) (by omega) (by simp) ?_; intro A2 c2 w2 hown2 hg2 _)
    have HO := Lib.hid hown2
    have HG := Lib.hid hg2
    clear hown2 hg2
    go_wp2
    go_ret
    refine ⟨A2, c2, rfl, ?_, (Ow.bare w.heap.size _ 67 2 none).grown HG.out HB.out (Nat.le_refl _) (by simp)⟩
    have := HO.out
    rw [Nat.zero_add] at this
    simpa [OwE] using this
end Go.Proofs.YtepddbfafdfadaaGreat

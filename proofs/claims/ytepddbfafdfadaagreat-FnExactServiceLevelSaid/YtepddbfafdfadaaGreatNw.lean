/-
  ServiceNew of the reference and of the program: the keys, filled up with zeros, or nothing. Slices of at most 2^20 keys.
-/
import Derived.Test.YtepddbfafdfadaaGreatSs
import Derived.Test.YtepddbfafdfadaaGreatSi
import Derived.Test.YtepddbfafdfadaaGreatOw
import Derived.Test.YtepddbfafdfadaaGreatIns
namespace Go.Proofs.YtepddbfafdfadaaGreat
open Go.RowKit Go.Sort

def padK (zs : List Int) : List Int := zs ++ List.replicate (10 - zs.length) 0
def newOk (zs : List Int) : Bool := decide (zs.length ≤ 10) && zs.all keyOk
def newS (zs : List Int) : Svc × Bool := if newOk zs then (⟨[], padK zs, []⟩, true) else (⟨[], [], []⟩, false)
/-- what a function that returns a service and a Bool answers -/
def SvcPost (B : Nat) (r : Svc × Bool) (w : World) (e : Ending) (w' : World) : Prop :=
  ∃ t k g, e = .returned (.tuple #[svV t k g, .bool r.2]) ∧ OwS B w'.heap.size w' t k g r.1 ∧ Below B w w'

theorem padK_length {zs : List Int} (h : zs.length ≤ 10) : (padK zs).length = 10 := by simp [padK]; omega
theorem padK_all (zs : List Int) : (padK zs).all keyOk = zs.all keyOk := by
  unfold padK
  rw [List.all_append]
  have : (List.replicate (10 - zs.length) (0 : Int)).all keyOk = true := by
    rw [List.all_eq_true]
    intro x hx
    rw [(List.mem_replicate.1 hx).2]
    rfl
  rw [this, Bool.and_true]
theorem valid_new (zs : List Int) : validS ⟨[], (padK zs), []⟩ = newOk zs := by
  unfold newOk
  by_cases h : zs.length ≤ 10
  · cases h2 : zs.all keyOk
    · rw [validS_keys (by show (padK zs).all keyOk = false; rw [padK_all, h2])]; simp
    · rw [validS_true (padK_length h) (by simp) (by simp) (by show (padK zs).all keyOk = true; rw [padK_all, h2]) (fun k hk => absurd hk (by simp)) (by simp)]; simp [h]
  · rw [validS_len (by simp [padK]; omega)]; simp [h]

theorem newS_own {B g c : Nat} {W : World} {A A' : Option Addr} {keys : List Int} (h : Ow B W 3 1 (some ⟨g, 0, none⟩) 10 c (cellsI keys)) : OwS B W.heap.size W ⟨A, 0, 0⟩ ⟨some ⟨g, 0, none⟩, 10, c⟩ ⟨A', 0, 0⟩ ⟨[], keys, []⟩ :=
  ⟨⟨[], rfl, OwI.bare _ _ _ _ _ _, by simp, by simp [boxBlks], by simp [entBlks], by simp⟩, OwI.of h, OwI.bare _ _ _ _ _ _, by simpa [blkOf, ownB] using blkOf_nodup ⟨some ⟨g, 0, none⟩, 10, c⟩, by simp, by simp⟩
theorem rdI_nil {w : World} {n : Nat} {zs : List Int} (h : RdI .i64 w none n zs) : n = 0 := by
  rcases Nat.eq_zero_or_pos n with h0 | h0
  · exact h0
  · obtain ⟨_, _, h1, _⟩ := h.2 h0
    cases h1
theorem blk_apart {B T T' sz n c x : Nat} {A : Option Addr} {w w' : World} {cs : Array Value} {vs : List Value} (h : Blk w x T cs) (k : Ow B w T' sz A n c vs) (hne : T ≠ T') (hg : w.grownBy w' (ownB A c)) : Blk w' x T cs :=
  (hg.block x h.lt (by
    intro e
    rcases Nat.eq_zero_or_pos c with h0 | h0
    · rw [h0] at e; simp [ownB] at e
    · obtain ⟨g2, _, e2, _, hb2, _⟩ := k.blk h0
      unfold ownB at e
      rw [if_neg (by omega), e2] at e
      injection e with e
      simp only at e
      exact Blk.ne_ h hb2 hne e)).trans h

def keysN (zs : List Int) (k : Nat) : List Int := (List.range k).map fun i => (zs[i]?).getD 0
theorem keysN_length (zs : List Int) (k : Nat) : (keysN zs k).length = k := by simp [keysN]
theorem keysN_succ (zs : List Int) (k : Nat) : keysN zs (k + 1) = keysN zs k ++ [(zs[k]?).getD 0] := by simp [keysN, List.range_succ]
theorem keysN_ten {zs : List Int} (h : zs.length ≤ 10) : keysN zs 10 = padK zs := by
  apply List.ext_getElem?
  intro i
  unfold keysN padK
  rw [List.getElem?_map, List.getElem?_append]
  by_cases h1 : i < zs.length
  · rw [if_pos h1, List.getElem?_range (by omega), Option.map_some, List.getElem?_eq_getElem h1, Option.getD_some]
  · rw [if_neg h1, List.getElem?_replicate]
    by_cases h2 : i < 10
    · rw [if_pos (by omega), List.getElem?_range h2, Option.map_some, List.getElem?_eq_none (by omega)]
      rfl
    · rw [if_neg (by omega), List.getElem?_eq_none (by simp; omega)]
      rfl

set_option maxRecDepth 100000 in
set_option maxHeartbeats 4000000 in
theorem specServiceNew_any (A : Option Addr) (n c : Nat) (zs : List Int) (w : World) (hr : RdI .i64 w A n zs) (hn : n ≤ 1048576) :
    Calls Tryz.prog 114 #[.slice A n c] w (SvcPost w.heap.size (newS zs) w) := by
  have hl := hr.len
  have HR := Lib.hid hr
  have HL := Lib.hid hl
  obtain ⟨i0, hi0, hz0, hz1, hz2⟩ := info_parts infoZ
  have HI := Lib.hid hi0
  have HZ := Lib.hid hz0
  have HS := Lib.hid hz1
  have HBY := Lib.hid hz2
  clear hi0 hz0 hz1 hz2 hr hl
  go_enter Tryz.func114, Tryz.ntmps114
  go_wp2
  go_loopw [5, 6] (fun i _ wr => ∃ (k : Nat) (A' : Option Addr) (c' : Nat), k ≤ 10 ∧ i = .int .i64 k ∧ Hid (Below w.heap.size w wr ∧ Blk wr w.heap.size 37 #[.slice none 0 0, .slice none 0 0, .slice none 0 0] ∧ Blk wr (w.heap.size + 1 + 1 + 1) 37 #[.slice (some ⟨w.heap.size + 1, 0, none⟩) 0 0, .slice A' k c', .slice (some ⟨w.heap.size + 1 + 1, 0, none⟩) 0 0] ∧ Ow (w.heap.size + 4) wr 3 1 A' k c' (cellsI (keysN zs k)))) (fun i _ _ => 10 - (intOf i).toNat)
  case atStart => exact ⟨0, none, 0, Nat.zero_le _, rfl, by go_grown, ((Blk.new _ _ _).alloc _).alloc _ |>.alloc _, Blk.newAt _ _ _ _ (by simp), Ow.bare _ _ _ _ _⟩
  case round =>
    obtain ⟨k, A', c', hk, rfl, HB⟩ := hrel
    have HB1 := Lib.hid HB.out.1
    have HBR := Lib.hid HB.out.2.1
    have HBS := Lib.hid HB.out.2.2.1
    have HBO := Lib.hid HB.out.2.2.2
    have cs := fun o => HBS.out.cell o
    have fs := fun o => HBS.out.frozen o
    have zs_ := HBS.out.lt
    clear HB
    by_cases hlt : k < 10
    · obtain ⟨key, hkey⟩ : ∃ z, z = (zs[k]?).getD 0 := ⟨_, rfl⟩
      have HSU := Lib.hid (keysN_succ zs k)
      by_cases hkn : k < n
      all_goals
        first
          | obtain ⟨b, off, z, rfl, hb, hz, e0⟩ := (HR.out.below HB1.out).at_ hkn
            obtain rfl : key = z := by rw [hkey, hz]; rfl
            clear hz
          | obtain rfl : key = 0 := by rw [hkey, List.getElem?_eq_none (by rw [HL.out]; omega)]; rfl
        have HK := Lib.hid hkey
        clear hkey
        go_wp2_with (at_builtin; refine wpList_append_ow _ rfl (.tmp 23) (.tmp 25) _ rfl (w.heap.size + 4) 3 i0 _ 1 8 Tryz.underlying23 HI.out HZ.out HS.out HBY.out rfl (by omega) _ k c' _ rfl (HBO.out.alloc _) _ 1 1 [_] rfl (Src.blk (Blk.new _ _ _) rfl) (cellsI_one [_]) (by unfold maxLen; omega) (by omega) (by simp; omega) ?_; intro A2 c2 w2 hown2 hg2 _; have HO := Lib.hid hown2; have HBS2 := Lib.hid (blk_apart (HBS.out.alloc _) (HBO.out.alloc _) (by decide) hg2); have HBR2 := Lib.hid (blk_apart (HBR.out.alloc _) (HBO.out.alloc _) (by decide) hg2); have HB2 := Lib.hid (HB1.out.trans (((Ow.alloc HBO.out _).grown hg2 ((Below.refl _ _).alloc (by omega) _) (Nat.le_refl _) (by simp; omega)).mono (by omega))); have cs2 := fun o => HBS2.out.cell o; have fs2 := fun o => HBS2.out.frozen o; have zs2 := HBS2.out.lt; clear hown2 hg2 cs fs)
        refine ⟨⟨k + 1, A2, c2, by omega, by go_num, HB2.out.setCell (by simp; omega) _, HBR2.out.far (by simp; omega) _, HBS2.out.set_ 1 _, ?_⟩, by simp [intOf]; omega⟩
        rw [HSU.out, ← HK.out]
        show Ow _ _ _ 1 _ _ _ ((keysN zs k ++ [_]).map (Value.int .i64))
        rw [List.map_append]
        exact HO.out.onlyB (g := w.heap.size + 1 + 1 + 1) (Only.set_ (Only.refl _ _) (.inl rfl) _) (by omega)
    · obtain rfl : k = 10 := by omega
      obtain ⟨g, cur, hA, hBg, _⟩ := HBO.out.blk (Nat.lt_of_lt_of_le (by omega) HBO.out.le)
      subst hA
      have hos : OwS (w.heap.size + 4) wr.heap.size wr ⟨some ⟨w.heap.size + 1, 0, none⟩, 0, 0⟩ ⟨some ⟨g, 0, none⟩, 10, c'⟩ ⟨some ⟨w.heap.size + 1 + 1, 0, none⟩, 0, 0⟩ ⟨[], keysN zs 10, []⟩ := newS_own HBO.out
      have HOS := Lib.hid hos
      clear hos
      go_wp2_with fail
      refine (specServiceValid_any ⟨some ⟨w.heap.size + 1, 0, none⟩, 0, 0⟩ ⟨some ⟨g, 0, none⟩, 10, c'⟩ ⟨some ⟨w.heap.size + 1 + 1, 0, none⟩, 0, 0⟩ ⟨[], keysN zs 10, []⟩ _ HOS.out.rd).mono ?_
      rintro e w2 ⟨rfl, hb2⟩
      have HBS2 := Lib.hid (HBS.out.next hb2)
      have HBR2 := Lib.hid (HBR.out.next hb2)
      have HOS2 := Lib.hid (HOS.out.next hb2)
      have HB2 := Lib.hid (below_next HB1.out hb2)
      have hsz2 := hb2.size
      have cs2 := fun o => HBS2.out.cell o
      have cr2 := fun o => HBR2.out.cell o
      have fr2 := fun o => HBR2.out.frozen o
      have zr2 := HBR2.out.lt
      clear hb2 cs fs
      by_cases h10 : zs.length ≤ 10
      · have h1 : ¬ (10 : Int) < n := by have := HL.out; omega
        have hv : validS ⟨[], keysN zs 10, []⟩ = newOk zs := by rw [keysN_ten h10, valid_new]
        have HKT := Lib.hid (keysN_ten h10)
        rw [hv]
        clear hv
        cases hno : newOk zs
        · have HN := Lib.hid (show newS zs = (⟨[], [], []⟩, false) by simp [newS, hno])
          clear hno
          go_wp2_with fail
          refine bodyPost_ret (v := .tuple #[svV ⟨none, 0, 0⟩ ⟨none, 0, 0⟩ ⟨none, 0, 0⟩, .bool false]) (by simp [results, Tryz.results114, go_sem, cr2]) rfl ?_
          rw [HN.out]
          refine ⟨⟨none, 0, 0⟩, ⟨none, 0, 0⟩, ⟨none, 0, 0⟩, rfl, OwS.bare _ _ _ _ _ _, ?_⟩
          iterate 3 (refine Below.setCell ?_ (by simp) _)
          exact HB2.out
        · have HN := Lib.hid (show newS zs = (⟨[], padK zs, []⟩, true) by simp [newS, hno])
          clear hno
          go_wp2_with fail
          refine bodyPost_ret (v := .tuple #[svV ⟨some ⟨w.heap.size + 1, 0, none⟩, 0, 0⟩ ⟨some ⟨g, 0, none⟩, 10, c'⟩ ⟨some ⟨w.heap.size + 1 + 1, 0, none⟩, 0, 0⟩, .bool true]) (by simp [results, Tryz.results114, go_sem, cr2]) rfl ?_
          rw [HN.out]
          refine ⟨⟨some ⟨w.heap.size + 1, 0, none⟩, 0, 0⟩, ⟨some ⟨g, 0, none⟩, 10, c'⟩, ⟨some ⟨w.heap.size + 1 + 1, 0, none⟩, 0, 0⟩, rfl, ?_, ?_⟩
          · have hfr : ∀ W : World, Frm w.heap.size (w.heap.size + 1) w2 W → OwS w.heap.size W.heap.size W ⟨some ⟨w.heap.size + 1, 0, none⟩, 0, 0⟩ ⟨some ⟨g, 0, none⟩, 10, c'⟩ ⟨some ⟨w.heap.size + 1 + 1, 0, none⟩, 0, 0⟩ ⟨[], padK zs, []⟩ := fun W hW => by
              rw [← HKT.out]
              exact (HOS2.out.frm hW (.inr (by omega))).mono (by omega) (Nat.le_trans hsz2 hW.size)
            refine hfr _ ?_
            iterate 3 (refine Frm.set_ ?_ (by simp) (by simp) _)
            exact Frm.refl _ _ _
          · iterate 3 (refine Below.setCell ?_ (by simp) _)
            exact HB2.out
      · have h1 : (10 : Int) < n := by have := HL.out; omega
        have HN := Lib.hid (show newS zs = (⟨[], [], []⟩, false) by simp [newS, newOk, h10])
        cases hvv : validS ⟨[], keysN zs 10, []⟩
        all_goals
          go_wp2_with fail
          refine bodyPost_ret (v := .tuple #[svV ⟨none, 0, 0⟩ ⟨none, 0, 0⟩ ⟨none, 0, 0⟩, .bool false]) (by simp [results, Tryz.results114, go_sem, cr2]) rfl ?_
          rw [HN.out]
          refine ⟨⟨none, 0, 0⟩, ⟨none, 0, 0⟩, ⟨none, 0, 0⟩, rfl, OwS.bare _ _ _ _ _ _, ?_⟩
          iterate 3 (refine Below.setCell ?_ (by simp) _)
          exact HB2.out
end Go.Proofs.YtepddbfafdfadaaGreat

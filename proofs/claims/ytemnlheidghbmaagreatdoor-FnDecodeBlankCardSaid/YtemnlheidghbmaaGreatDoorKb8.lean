/-
  Lemmas and contracts: Ss E8 E9 An Gr. No condition.
-/
import Derived.Test.YtemnlheidghbmaaGreatDoorKb3
import Derived.Test.YtemnlheidghbmaaGreatDoorKb4
import Derived.Test.YtemnlheidghbmaaGreatDoorKb5
import Derived.Test.YtemnlheidghbmaaGreatDoorKb7
namespace Go.Proofs.YtemnlheidghbmaaGreatDoor
open Go.RowKit Go.Sort
set_option maxHeartbeats 400000 in
theorem l23Hash_any (n : Int) (w : World) :
  Calls Tryz.prog 90 #[.int .i64 n] w fun e w' => e = .returned (.bool (hashOk n)) ∧ w = w' := by
 go_enter Tryz.func90, Tryz.ntmps90
 go_wp2_with fail
 refine (l6In_any _ _ _ _).mono ?_
 rintro e w' ⟨rfl, rfl⟩
 go_wp2_with fail
 go_ret
 exact ⟨rfl, rfl⟩
end Go.Proofs.YtemnlheidghbmaaGreatDoor
namespace Go.Proofs.YtemnlheidghbmaaGreatDoor
open Go.RowKit Go.Sort
structure Rep where
 lv : Int
 pl : Int
 sc : Int
 ins : List Inp
 hs : List Int
 tag : Int
abbrev repV (r : Rep) (si sh : Sl) : Value := .agg #[.int .i64 r.lv, .int .i64 r.pl, .int .i64 r.sc, .slice si.a si.n si.c, .slice sh.a sh.n sh.c, .int .i64 r.tag]
abbrev repC (r : Rep) (si sh : Sl) : Array Value := #[.int .i64 r.lv, .int .i64 r.pl, .int .i64 r.sc, .slice si.a si.n si.c, .slice sh.a sh.n sh.c, .int .i64 r.tag]
def RdR (w : World) (r : Rep) (si sh : Sl) : Prop := RdN w si.a si.n r.ins ∧ RdI .i64 w sh.a sh.n r.hs ∧ SlOk si.n si.c ∧ SlOk sh.n sh.c
theorem RdR.below {w w' : World} {r : Rep} {si sh : Sl} (h : RdR w r si sh) (hb : Below w.heap.size w w') : RdR w' r si sh := ⟨h.1.below hb, h.2.1.below hb, h.2.2⟩
def insOk (xs : List Inp) : Bool := xs.all inOk && decide ((xs.length : Int) ≤ 60)
set_option maxHeartbeats 1000000 in
theorem l23Inputs_any (A : Option Addr) (n c : Nat) (xs : List Inp) (w : World) (hr : RdN w A n xs) (hn : n ≤ 1099511627776) :
  Calls Tryz.prog 91 #[.slice A n c] w fun e w' => e = .returned (.bool (insOk xs)) ∧ Below w.heap.size w w' := by
 have HR := Lib.hid hr; clear hr
 go_enter Tryz.func91, Tryz.ntmps91
 go_wp2
 go_loopw [3] (fun i wr => ∃ k : Nat, k ≤ n ∧ i = .int .i64 k ∧ Hid (Below w.heap.size w wr ∧ xs.all inOk = (xs.drop k).all inOk)) (fun i _ => n - (intOf i).toNat)
 case atStart => exact ⟨0, Nat.zero_le _, rfl, Below.refl _ _, rfl⟩
 case round =>
  obtain ⟨k, hk, rfl, HB⟩ := hrel
  by_cases hlt : k < n
  ·obtain ⟨b, off, x, hA, hb, hx, h0, h1, h2⟩ := RdN.cells (HR.out.below HB.out.1) hlt
   subst hA
   have HD := Lib.hid (all_drop (p := inOk) hx)
   clear hx
   go_wp2_with fail
   refine (specInputValid_any x _).mono ?_
   rintro e w1 ⟨rfl, hb1⟩
   cases ho : inOk x
   ·have HO := Lib.hid ho
    clear ho
    go_wp2_with fail
    go_ret
    exact ⟨ret_bool (by simp [insOk, HB.out.2, HD.out, HO.out]), below_next HB.out.1 hb1⟩
   ·have HO := Lib.hid ho
    clear ho
    go_wp2_with fail
    exact ⟨⟨k + 1, by omega, by go_num, below_next HB.out.1 hb1, by rw [HB.out.2, HD.out, HO.out]; rfl⟩, by simp [intOf]; omega⟩
  ·have hall : xs.all inOk = true := by rw [HB.out.2, List.drop_of_length_le (by rw [HR.out.len]; omega)]; rfl
   have HALL := Lib.hid hall
   clear hall
   go_wp2
   go_ret
   exact ⟨ret_bool (by simp [insOk, HALL.out, HR.out.len]), HB.out.1⟩
def repOk (r : Rep) : Bool := r.hs.all hashOk && inR r.lv 0 99 && inR r.pl 0 9 && inR r.sc 0 60 && insOk r.ins && decide ((r.hs.length : Int) = (r.ins.length : Int) / 5) && hashOk r.tag
set_option maxRecDepth 100000 in
set_option maxHeartbeats 4000000 in
theorem specReplayValid_any (r : Rep) (si sh : Sl) (w : World) (hr : RdR w r si sh) :
  Calls Tryz.prog 43 #[repV r si sh] w fun e w' => e = .returned (.bool (repOk r)) ∧ Below w.heap.size w w' := by
 obtain ⟨hi, hh, ⟨_, hn1⟩, _, hn2⟩ := hr
 have HI := Lib.hid hi
 have HH := Lib.hid hh
 clear hi hh
 go_enter Tryz.func43, Tryz.ntmps43
 go_wp2_with fail
 go_loopw [3] (fun i wr => ∃ k : Nat, k ≤ sh.n ∧ i = .int .i64 k ∧ Hid (Below w.heap.size w wr ∧ Blk wr w.heap.size 33 (repC r si sh) ∧ r.hs.all hashOk = (r.hs.drop k).all hashOk)) (fun i _ => sh.n - (intOf i).toNat)
 case atStart => exact ⟨0, Nat.zero_le _, rfl, ba (Below.refl _ _), Blk.new _ _ _, rfl⟩
 case round =>
  obtain ⟨k, hk, rfl, HQ⟩ := hrel
  obtain ⟨HB, KR, HE⟩ := HQ.out
  replace HB := Lib.hid HB
  replace KR := Lib.hid KR
  replace HE := Lib.hid HE
  clear HQ
  have cr := fun o => KR.out.cell o
  have fr := fun o => KR.out.frozen o
  have zr := KR.out.lt
  by_cases hlt : k < sh.n
  ·obtain ⟨b, off, z, hA, hb, hz, hc⟩ := (HH.out.below HB.out).at_ hlt
   have HD := Lib.hid (all_drop (p := hashOk) hz)
   have cr4 : wr.cell? ⟨w.heap.size, 4, none⟩ = some (.slice sh.a sh.n sh.c) := cr 4
   rw [hA] at cr4
   clear hz cr
   go_wp2_with fail
   refine (l23Hash_any _ _).mono ?_
   rintro e w1 ⟨rfl, rfl⟩
   cases ho : hashOk z
   ·have HO := Lib.hid ho
    clear ho
    go_wp2_with fail
    go_ret
    exact ⟨ret_bool (by simp [repOk, HE.out, HD.out, HO.out]), HB.out⟩
   ·have HO := Lib.hid ho
    clear ho
    go_wp2_with fail
    exact ⟨⟨k + 1, by omega, by go_num, HB.out, KR.out, by rw [HE.out, HD.out, HO.out]; rfl⟩, by simp [intOf]; omega⟩
  ·have h0 : r.hs.all hashOk = true := by rw [HE.out, List.drop_of_length_le (by rw [HH.out.len]; omega)]; rfl
   have H0 := Lib.hid h0
   clear h0
   go_wp2_with fail
   refine (l6In_any _ _ _ _).mono ?_
   rintro e w1 ⟨rfl, rfl⟩
   cases h1 : inR r.lv 0 99
   ·go_wp2_with fail
    go_ret
    exact ⟨ret_bool (by simp [repOk, h1]), HB.out⟩
   ·go_wp2_with fail
    refine (l6In_any _ _ _ _).mono ?_
    rintro e w1 ⟨rfl, rfl⟩
    cases h2 : inR r.pl 0 9
    ·go_wp2_with fail
     go_ret
     exact ⟨ret_bool (by simp [repOk, h2]), HB.out⟩
    ·go_wp2_with fail
     refine (l6In_any _ _ _ _).mono ?_
     rintro e w1 ⟨rfl, rfl⟩
     cases h3 : inR r.sc 0 60
     ·go_wp2_with fail
      go_ret
      exact ⟨ret_bool (by simp [repOk, h3]), HB.out⟩
     ·go_wp2_with fail
      refine (l23Inputs_any si.a si.n si.c r.ins _ (HI.out.below HB.out) (by omega)).mono ?_
      rintro e w2 ⟨rfl, hb⟩
      replace KR := Lib.hid (KR.out.next hb)
      replace HB := Lib.hid (below_next HB.out hb)
      clear hb cr fr zr
      have cr := fun o => KR.out.cell o
      have fr := fun o => KR.out.frozen o
      have zr := KR.out.lt
      cases h4 : insOk r.ins
      ·go_wp2_with fail
       go_ret
       exact ⟨ret_bool (by simp [repOk, h4]), HB.out⟩
      ·by_cases h5 : (sh.n : Int) = (si.n : Int) / 5
       ·have h5' : ((sh.n : Int) == (si.n : Int) / 5) = true := by simpa using h5
        have H5 := Lib.hid (show (r.hs.length : Int) = (r.ins.length : Int) / 5 by rw [HH.out.len, HI.out.len]; exact h5)
        clear h5
        go_wp2_with fail
        refine (l23Hash_any _ _).mono ?_
        rintro e w3 ⟨rfl, rfl⟩
        go_wp2_with fail
        go_ret
        exact ⟨ret_bool (by simp [repOk, H0.out, h1, h2, h3, h4, H5.out]), HB.out⟩
       ·have h5' : ((sh.n : Int) == (si.n : Int) / 5) = false := by simpa using h5
        have H5 := Lib.hid (show ¬ (r.hs.length : Int) = (r.ins.length : Int) / 5 by rw [HH.out.len, HI.out.len]; exact h5)
        clear h5
        go_wp2_with fail
        go_ret
        exact ⟨ret_bool (by simp [repOk, H5.out]), HB.out⟩
end Go.Proofs.YtemnlheidghbmaaGreatDoor
namespace Go.Proofs.YtemnlheidghbmaaGreatDoor
open Go.RowKit Go.Sort
def listW (r : Rep) : List Int := [r.lv, r.pl, r.sc, (r.ins.length : Int)] ++ r.ins.map codeW ++ r.hs
set_option maxRecDepth 100000 in
set_option maxHeartbeats 4000000 in
theorem l23List_any (r : Rep) (si sh : Sl) (w : World) (hr : RdR w r si sh) :
  Calls Tryz.prog 47 #[repV r si sh] w (IntsPost w.heap.size (listW r) w) := by
 obtain ⟨i0, hi0, hy0, hy1, hy2⟩ := info_parts infoZ
 have HI := Lib.hid hi0
 have HZ := Lib.hid hy0
 have HS := Lib.hid hy1
 have HBY := Lib.hid hy2
 clear hi0 hy0 hy1 hy2
 obtain ⟨hi, hh, ⟨_, hn1⟩, _, hn2⟩ := hr
 have HIN := Lib.hid hi
 have HH := Lib.hid hh
 clear hi hh
 go_enter Tryz.func47, Tryz.ntmps47
 go_wp2_with fail
 go_loopw [3, 4] (fun out i wr => ∃ (k m : Nat) (A' : Option Addr) (c' : Nat), k ≤ si.n ∧ m = 4 + k ∧ i = .int .i64 k ∧ out = .slice A' m c' ∧ Hid (Below w.heap.size w wr ∧ Blk wr w.heap.size 33 (repC r si sh) ∧ Ow (w.heap.size + 1) wr 3 1 A' m c' (cellsI ([r.lv, r.pl, r.sc, (si.n : Int)] ++ (r.ins.take k).map codeW)))) (fun _ i _ => si.n - (intOf i).toNat)
 case atStart => exact ⟨0, 4, _, 4, Nat.zero_le _, rfl, rfl, rfl, ba (ba (Below.refl _ _)), (Blk.new _ _ _).alloc _, Ow.of_blk (Blk.newAt _ _ _ _ (by simp)) rfl (by decide) (by simp)⟩
 case round =>
  obtain ⟨k, m, A', c', hk, hm, rfl, rfl, HQ⟩ := hrel
  obtain ⟨HB, KR, HOW⟩ := HQ.out
  replace HB := Lib.hid HB
  replace KR := Lib.hid KR
  replace HOW := Lib.hid HOW
  have HM := Lib.hid hm
  have hmb : m ≤ 1048580 := by omega
  clear HQ hm
  have cr := fun o => KR.out.cell o
  have fr := fun o => KR.out.frozen o
  have zr := KR.out.lt
  by_cases hlt : k < si.n
  ·obtain ⟨b, off, x, hA, hb, hx, h0, h1, h2⟩ := RdN.cells (HIN.out.below HB.out) hlt
   have HX := Lib.hid hx
   have cr3 : wr.cell? ⟨w.heap.size, 3, none⟩ = some (.slice si.a si.n si.c) := cr 3
   rw [hA] at cr3
   have HA := Lib.hid hA
   clear hx cr hA
   go_wp2_with fail
   refine (l12Code_any x _).mono ?_
   rintro e w1 ⟨rfl, hb1⟩
   replace HOW := Lib.hid (Ow.next HOW.out hb1)
   replace KR := Lib.hid (KR.out.next hb1)
   replace HB := Lib.hid (below_next HB.out hb1)
   clear hb1 cr3 fr zr h0 h1 h2
   obtain ⟨z, hz⟩ : ∃ z, codeW x = z := ⟨_, rfl⟩
   rw [hz]
   have HZX := Lib.hid hz
   clear hz
   have hzs := HB.out.size
   have hzl := KR.out.lt
   go_wp2_with (at_builtin; refine wpList_append_ow _ rfl (.tmp 22) (.tmp 29) _ rfl (w.heap.size + 1) 3 i0 _ 1 8 Tryz.underlying31 HI.out HZ.out HS.out HBY.out rfl (by omega) _ m c' _ rfl (HOW.out.alloc _) _ 1 1 (cellsI [z]) rfl (Src.blk (Blk.new _ _ _) rfl) (cellsI_one _) (by unfold maxLen; omega) (by omega) (by simp; omega) ?_; intro A2 c2 w5 hown5 hg5 _; have HO5 := Lib.hid hown5; have HG5 := Lib.hid hg5; clear hown5 hg5)
   have hrow := HOW.out.alloc (.cells #[.int .i64 z] 3)
   refine ⟨⟨k + 1, m + 1, A2, c2, by omega, by have := HM.out; omega, by go_num, rfl, ?_, ?_, ?_⟩, by simp [intOf]; omega⟩
   ·exact (hrow.grown HG5.out (HB.out.alloc HB.out.size _) (by omega) (by simp; omega))
   ·exact (KR.out.alloc _).frm (Frm.of_own (lo := w.heap.size + 1) (hi := (w1.alloc (.cells #[.int .i64 z] 3)).heap.size) (OwI.of hrow) HG5.out) (by omega)
   ·have he : cellsI ([r.lv, r.pl, r.sc, (si.n : Int)] ++ (r.ins.take (k + 1)).map codeW) = cellsI ([r.lv, r.pl, r.sc, (si.n : Int)] ++ (r.ins.take k).map codeW) ++ cellsI [z] := by
     rw [List.take_add_one, HX.out]
     simp [cellsI, HZX.out]
    rw [he]
    exact HO5.out
  ·have hkn : k = si.n := by omega
   subst hkn
   have HTK := Lib.hid (show r.ins.take si.n = r.ins from List.take_of_length_le (by rw [HIN.out.len]; exact Nat.le_refl _))
   have HLEN := Lib.hid HIN.out.len
   have hzs := HB.out.size
   have hzl := KR.out.lt
   have hsn := HH.out.len
   go_wp2_with (at_builtin; refine wpList_append_ow _ rfl (.tmp 31) (.tmp 33) _ rfl (w.heap.size + 1) 3 i0 _ 1 8 Tryz.underlying31 HI.out HZ.out HS.out HBY.out rfl (by omega) _ m c' _ rfl HOW.out sh.a sh.n sh.c (cellsI r.hs) rfl (Src.ints (HH.out.below HB.out)) (cellsI_one _) (by unfold maxLen; omega) (by omega) (by omega) ?_; intro A2 c2 w5 hown5 hg5 _; have HO5 := Lib.hid hown5; have HG5 := Lib.hid hg5; clear hown5 hg5)
   go_ret
   have hll : (listW r).length = m + sh.n := by
    have h1 := HM.out
    have h2 := HLEN.out
    simp [listW]
    omega
   refine ⟨A2, c2, by rw [hll]; rfl, ?_, HOW.out.grown HG5.out HB.out (by omega) (by omega)⟩
   have h5 := HO5.out
   rw [HTK.out, ← HLEN.out] at h5
   rw [hll]
   refine Ow.mono (B := w.heap.size + 1) ?_ (by omega)
   show Ow _ _ _ 1 _ _ _ (List.map (Value.int .i64) (_ ++ r.hs))
   rw [List.map_append]
   exact h5
end Go.Proofs.YtemnlheidghbmaaGreatDoor
namespace Go.Proofs.YtemnlheidghbmaaGreatDoor
open Go.RowKit Go.Sort
section
variable {P : Program} {ops : Array Oper} {Q : Exit → Act → World → Prop}
def topoB (ops : Array Oper) : Bool := (List.range ops.size).all fun i => ((ops[i]?).map fun o => o.after.all fun e => !Region.binds .any e || decide (e.on < i)).getD true
def left_ (n : Nat) (listed : Array Bool) : Nat := (List.range n).countP fun i => !listed.getD i true
theorem getD_set_self {listed : Array Bool} {i : Nat} (h : i < listed.size) (d : Bool) : (listed.setIfInBounds i true).getD i d = true := by
 simp [Array.getD_eq_getD_getElem?, h]
theorem getD_set_other {listed : Array Bool} {i j : Nat} (h : i ≠ j) (d : Bool) : (listed.setIfInBounds i true).getD j d = listed.getD j d := by
 simp [Array.getD_eq_getD_getElem?, Array.getElem?_setIfInBounds_ne h]
theorem getD_any {listed : Array Bool} {i : Nat} (h : i < listed.size) (d e : Bool) : listed.getD i d = listed.getD i e := by
 simp [Array.getD_eq_getD_getElem?, h]
theorem left_set (n i : Nat) (listed : Array Bool) (hn : n ≤ listed.size) (hi : i < n) (hl : listed.getD i true = false) : left_ n listed = left_ n (listed.setIfInBounds i true) + 1 := by
 induction n with
 | zero => omega
 | succ n ih =>
  unfold left_ at *
  rw [List.range_succ, List.countP_append, List.countP_append]
  by_cases h : i = n
  ·subst h
   have e1 : (List.range i).countP (fun j => !listed.getD j true) = (List.range i).countP (fun j => !(listed.setIfInBounds i true).getD j true) := by
    apply List.countP_congr
    intro j hj
    have := List.mem_range.1 hj
    rw [getD_set_other (by omega)]
   rw [e1]
   rw [List.countP_singleton, List.countP_singleton, hl, getD_set_self (show i < listed.size by omega) true]
   simp
  ·have e1 := ih (by omega) (by omega)
   rw [e1]
   have e2 : (listed.setIfInBounds i true).getD n true = listed.getD n true := getD_set_other h true
   simp only [List.countP_singleton, e2]
   omega
theorem left_zero {n : Nat} {listed : Array Bool} (h : left_ n listed = 0) : ∀ i, i < n → listed.getD i true = true := by
 intro i hi
 have := List.countP_eq_zero.1 h i (List.mem_range.2 hi)
 simpa using this
theorem ready_nil_all (ht : topoB ops = true) {listed : Array Bool} (hr : Region.ready .any ops listed = []) : ∀ i, i < ops.size → listed.getD i true = true := by
 intro i
 induction i using Nat.strongRecOn with
 | ind i ih =>
  intro hi
  cases hl : listed.getD i true with
  | true => rfl
  | false =>
   exfalso
   have hm : i ∈ Region.ready .any ops listed := by
    rw [mem_ready]
    refine ⟨hl, ops[i], Array.getElem?_eq_getElem hi, fun e he hbe => ?_⟩
    have h1 := List.all_eq_true.1 ht i (List.mem_range.2 hi)
    rw [Array.getElem?_eq_getElem hi] at h1
    simp only [Option.map_some, Option.getD_some] at h1
    have h2 : e.on < i := by
     rw [Array.all_eq_true] at h1
     obtain ⟨k, hk, rfl⟩ := Array.mem_iff_getElem.1 he
     simpa [hbe] using h1 k hk
    have h3 := ih e.on h2 (by omega)
    rcases Nat.lt_or_ge e.on listed.size with h4 | h4
    ·rw [getD_any h4 false true]; exact h3
    ·exfalso
     have : listed.getD i true = true := by simp [Array.getD_eq_getD_getElem?, Array.getElem?_eq_none (show listed.size ≤ i by omega)]
     rw [hl] at this
     cases this
   rw [hr] at hm
   cases hm
def Closed (ops : Array Oper) (listed : Array Bool) : Prop :=
 ∀ (i : Nat) (o : Oper), ops[i]? = some o → listed.getD i false = true → ∀ e ∈ o.after, Region.binds .any e = true → listed.getD e.on false = true
theorem Closed.set_ {listed : Array Bool} {i : Nat} {o : Oper} (h : Closed ops listed) (hs : listed.size = ops.size) (ho : ops[i]? = some o) (hd : ∀ e ∈ o.after, Region.binds .any e = true → listed.getD e.on false = true) : Closed ops (listed.setIfInBounds i true) := by
 have hi : i < listed.size := by rw [hs]; exact (Array.getElem?_eq_some_iff.1 ho).1
 have keep : ∀ j, listed.getD j false = true → (listed.setIfInBounds i true).getD j false = true := fun j hj => by
  by_cases e : i = j
  ·subst e; exact getD_set_self hi false
  ·rw [getD_set_other e]; exact hj
 intro j oj hoj hj e he hb
 by_cases hij : i = j
 ·subst hij
  rw [ho] at hoj
  injection hoj with hoj
  subst hoj
  exact keep _ (hd e he hb)
 ·rw [getD_set_other hij] at hj
  exact keep _ (h j oj hoj hj e he hb)
end
end Go.Proofs.YtemnlheidghbmaaGreatDoor
namespace Go.Proofs.YtemnlheidghbmaaGreatDoor
open Go.RowKit Go.Sort
def updV (s : Nat → Value) (i : Nat) (v : Value) : Nat → Value := fun j => if j = i then v else s j
section
variable {P : Program} {ops : Array Oper} {Q : Exit → Act → World → Prop}
def waits (o : Oper) (j : Nat) : Bool := o.after.any fun e => Region.binds .any e && e.on == j
theorem seq_of_head {g : Nat} : ∀ (f k : Nat) (listed listed' : Array Bool), Region.lexHead .any ops g f k listed = true → k + f ≤ listed.size → listed'.size = listed.size →
  (∀ j, k ≤ j → j < k + f → listed'.getD j true = true) → (∀ j, (j < k ∨ k + f ≤ j) → listed'.getD j true = listed.getD j true) → Region.seqB .any ops g (k + f) listed' = true := by
 intro f
 induction f with
 | zero =>
  intro k listed listed' h hk hs h1 h2
  have e : listed' = listed := by
   apply Array.ext hs
   intro i h3 h4
   have := h2 i (by omega)
   simpa [Array.getD_eq_getD_getElem?, h3, h4] using this
  rw [e]
  simpa [Region.lexHead] using h
 | succ f ih =>
  intro k listed listed' h hk hs h1 h2
  simp only [Region.lexHead, Bool.and_eq_true] at h
  rw [show k + (f + 1) = k + 1 + f by omega]
  refine ih (k + 1) _ listed' h.2 (by simp; omega) (by simpa using hs) (fun j a b => h1 j (by omega) (by omega)) (fun j hj => ?_)
  by_cases e : k = j
  ·subst e
   rw [getD_set_self (show k < listed.size by omega), h1 k (by omega) (by omega)]
  ·rw [getD_set_other e]
   exact h2 j (by omega)
theorem wpAny_grow {n : Nat} (ht : topoB ops = true) (hs : Region.sinkB .any ops n = true) (hc : Region.chainB .any ops n = true) (hn : n < ops.size)
  (hq : Region.lexHead .any ops (ops.size - n) n 0 (Array.replicate ops.size false) = true)
  (G : World → World → Prop) (J : Nat → World → Prop) (φ : Nat → Value → World → Prop) (mk : (Nat → Value) → Act)
  (mono : ∀ i v w w', G w w' → φ i v w → φ i v w')
  (step : ∀ (m : Nat) (s : Nat → Value) (w : World) (i : Nat) (o : Oper), m < n → i < n → ops[i]? = some o → J m w → (∀ j, waits o j = true → j < n → φ j (s j) w) →
   ∀ K : Act → World → Prop, (∀ v w', G w w' → J (m + 1) w' → φ i v w' → K (mk (updV s i v)) w') → if Region.wanted o (yielded ops (mk s).tmps) = true then Oper.wp P o (mk s) w K Q else K ((mk s).put o.dst undef) w)
  (tail : ∀ (s : Nat → Value) (w : World), J n w → (∀ j, j < n → φ j (s j) w) → wpList P ops Q (ops.toList.drop n) (mk s) w) :
  ∀ (f m : Nat) (listed : Array Bool) (s : Nat → Value) (w : World), HeadInv .any ops n listed → left_ n listed = f → m + f = n → J m w → (∀ j, j < n → listed.getD j false = true → φ j (s j) w) →
   wpAny P .any ops Q (f + (ops.size - n)) listed (mk s) w := by
 intro f
 induction f with
 | zero =>
  intro m listed s w inv hl hm hJ hφ
  have hall := left_zero hl
  rw [Nat.zero_add]
  have hseq : Region.seqB .any ops (ops.size - n) n listed = true := by
   have := seq_of_head (ops := ops) (g := ops.size - n) n 0 (Array.replicate ops.size false) listed hq (by simp; omega) (by simpa using inv.size) (fun j _ h => hall j (by omega)) (fun j h => by
    by_cases hj : j < ops.size
    ·rw [inv.tail j (by omega) hj]
     simp [Array.getD_eq_getD_getElem?, hj]
    ·have h3 : listed.size ≤ j := by rw [inv.size]; omega
     simp [Array.getD_eq_getD_getElem?, Array.getElem?_eq_none h3, hj])
   simpa using this
  have hlen : (ops.toList.drop n).length = ops.size - n := by simp
  have := wpAny_of_seq (md := .any) (Q' := Q) (P := P) (ops := ops) (ops.toList.drop n) n listed (mk s) w (fun j => by simp [List.getElem?_drop]) (by rw [hlen]; exact hseq) (tail s w (by rw [show n = m by omega]; exact hJ) (fun j hj => hφ j hj (by
   have := hall j hj
   have hjs : j < listed.size := by rw [inv.size]; omega
   rw [getD_any hjs false true]
   exact this)))
  rwa [hlen] at this
 | succ f ih =>
  intro m listed s w inv hl hm hJ hφ
  have hsz := inv.size
  have hex : ∃ i, i < n ∧ listed.getD i true = false := by
   apply Classical.byContradiction
   intro hno
   have h0 : left_ n listed = 0 := by
    unfold left_
    rw [List.countP_eq_zero]
    intro j hj
    have hjn := List.mem_range.1 hj
    cases h : listed.getD j true with
    | true => simp
    | false => exact absurd ⟨j, hjn, h⟩ hno
   omega
  obtain ⟨i0, hi0, hu0⟩ := hex
  rw [show f + 1 + (ops.size - n) = (f + (ops.size - n)) + 1 by omega]
  refine ⟨fun hr => ?_, fun i hi => ?_⟩
  ·have := ready_nil_all ht hr i0 (by omega)
   rw [hu0] at this
   cases this
  ·have hin : i < n := by
    by_cases h : i < n
    ·exact h
    ·exact absurd hi (tail_waits hs hc hn inv _ i0 rfl hi0 hu0 i (by omega))
   obtain ⟨h1, o, h2, h3⟩ := mem_ready.1 hi
   refine wpOp_step h2 fun K' hK => ?_
   refine step m s w i o (by omega) hin h2 hJ (fun j hw hj => ?_) K' (fun v w' hG hJ' hv => hK _ _ ?_)
   ·unfold waits at hw
    obtain ⟨e, he, hb⟩ := Array.any_eq_true'.1 hw
    simp only [Bool.and_eq_true, beq_iff_eq] at hb
    have := h3 e he hb.1
    rw [hb.2] at this
    exact hφ j hj this
   ·refine ih (m + 1) _ (updV s i v) w' (inv.set hi hin) ?_ (by omega) hJ' (fun j hj hlj => ?_)
    ·have := left_set n i listed (by omega) hin h1
     omega
    ·unfold updV
     by_cases e : j = i
     ·subst e; rw [if_pos rfl]; exact hv
     ·rw [if_neg e]
      rw [getD_set_other (fun h => e h.symm)] at hlj
      exact mono _ _ _ _ hG (hφ j hj hlj)
theorem wp_region_grow {id : Nat} {w : World} {l : List Oper} (n : Nat) (hm : P.follows .mixedOrders = true) (ht : topoB l.toArray = true) (hB : Region.lexTailB .any l.toArray n = true)
  (G : World → World → Prop) (J : Nat → World → Prop) (φ : Nat → Value → World → Prop) (mk : (Nat → Value) → Act) (s0 : Nat → Value)
  (mono : ∀ i v w w', G w w' → φ i v w → φ i v w')
  (start : J 0 w.drew)
  (step : ∀ (m : Nat) (s : Nat → Value) (w : World) (i : Nat) (o : Oper), m < n → i < n → l[i]? = some o → J m w → (∀ j, waits o j = true → j < n → φ j (s j) w) →
   ∀ K : Act → World → Prop, (∀ v w', G w w' → J (m + 1) w' → φ i v w' → K (mk (updV s i v)) w') → if Region.wanted o (yielded l.toArray (mk s).tmps) = true then Oper.wp P o (mk s) w K Q else K ((mk s).put o.dst undef) w)
  (tail : ∀ (s : Nat → Value) (w : World), J n w → (∀ j, j < n → φ j (s j) w) → wpList P l.toArray Q (l.drop n) (mk s) w) :
  (Code.region id l.toArray true).wp P Q (mk s0) w := by
 simp only [Region.lexTailB, Bool.and_eq_true, decide_eq_true_eq] at hB
 obtain ⟨⟨⟨⟨hsel, hn⟩, hs⟩, hc⟩, hlex⟩ := hB
 refine wp_region_any hm ?_
 have inv0 : HeadInv .any l.toArray n (Array.replicate l.toArray.size false) := by
  refine ⟨by simp, fun j oj _ hl => ?_, fun t _ hts => getD_in (by simpa using hts) (getD_replicate_false _ _)⟩
  rw [getD_replicate_false] at hl
  cases hl
 have hl0 : left_ n (Array.replicate l.toArray.size false) = n := by
  unfold left_
  have : (List.range n).countP (fun i => !(Array.replicate l.toArray.size false).getD i true) = (List.range n).countP (fun _ => true) := by
   apply List.countP_congr
   intro j hj
   have := List.mem_range.1 hj
   simp [Array.getD_eq_getD_getElem?, show j < l.length by simp at hn; omega]
  rw [this]
  simp
 have H := wpAny_grow (P := P) (Q := Q) ht hs hc hn hlex G J φ mk mono (fun m s w i o a b c => step m s w i o a b (by simpa using c)) (fun s w a b => by simpa using tail s w a b) n 0 _ s0 w.drew inv0 hl0 (by omega) start (fun j _ h => by rw [getD_replicate_false] at h; cases h)
 rw [show n + (l.toArray.size - n) = l.toArray.size by omega] at H
 exact H
end
end Go.Proofs.YtemnlheidghbmaaGreatDoor

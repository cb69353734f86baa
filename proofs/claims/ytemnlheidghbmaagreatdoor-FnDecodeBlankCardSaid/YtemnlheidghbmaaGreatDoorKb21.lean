/-
  Lemmas and contracts: Ik Ia Ib. No condition.
-/
import Derived.BigRegion
import Derived.Test.YtemnlheidghbmaaGreatDoorKb8
import Derived.Test.YtemnlheidghbmaaGreatDoorKb9
import Derived.Test.YtemnlheidghbmaaGreatDoorKb12
import Derived.Test.YtemnlheidghbmaaGreatDoorKb20
namespace Go.Proofs.YtemnlheidghbmaaGreatDoor
open Go.RowKit Go.Sort
end Go.Proofs.YtemnlheidghbmaaGreatDoor
namespace Go.Proofs.YtemnlheidghbmaaGreatDoor
open Go.RowKit Go.Sort
set_option maxRecDepth 100000 in
set_option maxHeartbeats 1000000 in
theorem implInputValid_any (x : Inp) (w : World) : Calls Tryz.prog 105 #[inV x] w fun e w' => e = .returned (.bool (inOk x)) ∧ Below w.heap.size w w' := by
 obtain ⟨s, p, z⟩ := x
 cases z
 ·go_enter Tryz.func105, Tryz.ntmps105
  go_wp2_with fail
  refine (inRange_any _ _ _ _).mono ?_
  rintro e w' ⟨rfl, rfl⟩
  cases h1 : inR s (-1) 1
  ·go_wp2_with fail
   go_ret
   exact ⟨ret_bool (by simp [inOk, h1]), by go_grown⟩
  ·go_wp2_with fail
   refine (inRange_any _ _ _ _).mono ?_
   rintro e w' ⟨rfl, rfl⟩
   go_wp2_with fail
   go_ret
   exact ⟨ret_bool (by simp [inOk, h1]), by go_grown⟩
 ·go_enter Tryz.func105, Tryz.ntmps105
  by_cases h3 : s = 0
  ·subst h3
   by_cases h4 : p = 0
   ·subst h4
    go_wp2_with fail
    go_ret
    exact ⟨ret_bool (by simp [inOk, inR]), by go_grown⟩
   ·have h4' : (p == 0) = false := by simpa using h4
    go_wp2_with fail
    go_ret
    exact ⟨ret_bool (by simp [inOk, h4]), by go_grown⟩
  ·have h3' : (s == 0) = false := by simpa using h3
   go_wp2_with fail
   go_ret
   exact ⟨ret_bool (by simp [inOk, h3]), by go_grown⟩
def codeI (x : Inp) : Int := if inOk x then codeW x else -1
set_option maxRecDepth 100000 in
set_option maxHeartbeats 1000000 in
theorem implInputCode_any (x : Inp) (w : World) : Calls Tryz.prog 61 #[inV x] w fun e w' => e = .returned (.int .i64 (codeI x)) ∧ Below w.heap.size w w' := by
 obtain ⟨s, p, z⟩ := x
 go_enter Tryz.func61, Tryz.ntmps61
 go_wp2_with fail
 refine (implInputValid_any ⟨s, p, z⟩ _).mono ?_
 rintro e w1 ⟨rfl, hb⟩
 have KR := Lib.hid ((Blk.new w 80 #[.int .i64 s, .int .i64 p, .bool z]).next hb)
 have HB := Lib.hid (ba hb)
 clear hb
 have cr := fun o => KR.out.cell o
 have fr := fun o => KR.out.frozen o
 have zr := KR.out.lt
 cases ho : inOk ⟨s, p, z⟩
 ·go_wp2_with fail
  go_ret
  exact ⟨ret_int (by simp [codeI, ho]), HB.out⟩
 ·cases z
  ·have HO := Lib.hid ho
   clear ho
   go_wp2_with fail
   go_ret
   exact ⟨ret_int (by simp [codeI, codeW, HO.out]), HB.out⟩
  ·have HO := Lib.hid ho
   clear ho
   go_wp2_with fail
   go_ret
   exact ⟨ret_int (by simp [codeI, codeW, HO.out]), HB.out⟩
set_option maxRecDepth 100000 in
set_option maxHeartbeats 1000000 in
theorem implInputOf_any (k : Int) (w : World) : Calls Tryz.prog 128 #[.int .i64 k] w fun e w' => e = .returned (.tuple #[inV (inOf k).1, .bool (inOf k).2]) ∧ Below w.heap.size w w' := by
 go_enter Tryz.func128, Tryz.ntmps128
 by_cases h9 : k = 9
 ·subst h9
  go_wp2_with fail
  refine bodyPost_ret (v := .tuple #[inV ⟨0, 0, true⟩, .bool true]) (by simp [results, Tryz.results128, go_sem]) rfl ⟨rfl, ?_⟩
  go_grown
 ·have h9' : (k == 9) = false := by simpa using h9
  go_wp2_with fail
  refine (inRange_any _ _ _ _).mono ?_
  rintro e w' ⟨rfl, rfl⟩
  cases h1 : inR k 0 8
  ·have hf : inOf k = (⟨0, 0, false⟩, false) := by
    have : inR k 0 9 = false := by simp [inR] at h1 ⊢; omega
    simp [inOf, this]
   have HF := Lib.hid hf
   clear hf
   go_wp2_with fail
   refine bodyPost_ret (v := .tuple #[inV ⟨0, 0, false⟩, .bool false]) (by simp [results, Tryz.results128, go_sem]) rfl ⟨by rw [HF.out], ?_⟩
   go_grown
  ·have hb : 0 ≤ k ∧ k ≤ 8 := by simpa [inR] using h1
   have hf : inOf k = (⟨k % 3 - 1, k / 3, false⟩, true) := by
    have : inR k 0 9 = true := by simp [inR]; omega
    simp [inOf, this, h9]
   obtain ⟨hb0, hb9⟩ := hb
   have HF := Lib.hid hf
   clear hf h1 h9
   go_wp2_with fail
   refine bodyPost_ret (v := .tuple #[inV ⟨k % 3 - 1, k / 3, false⟩, .bool true]) (by simp [results, Tryz.results128, go_sem]) rfl ⟨by rw [HF.out], ?_⟩
   go_grown
set_option maxHeartbeats 400000 in
theorem inputsOk1_any (x : Inp) (w : World) :
  Calls Tryz.prog 104 #[inV x] w fun e w' => e = .returned (.bool (!inOk x)) ∧ Below w.heap.size w w' := by
 obtain ⟨s, p, z⟩ := x
 go_enter Tryz.func104, Tryz.ntmps104
 go_wp2_with fail
 refine (implInputValid_any ⟨s, p, z⟩ _).mono ?_
 rintro e w1 ⟨rfl, hb1⟩
 have HB1 := Lib.hid (ba hb1)
 clear hb1
 go_wp2_with fail
 go_ret
 exact ⟨rfl, HB1.out⟩
set_option maxHeartbeats 2000000 in
theorem indexFuncN_any (A : Option Addr) (n c : Nat) (xs : List Inp) (w : World) (hr : RdN w A n xs) (hn : n ≤ 1099511627776) :
  Calls Tryz.prog 144 #[.slice A n c, .func (.func 104) #[] #[]] w fun e w' => ∃ v : Int, e = .returned (.int .i64 v) ∧ decide (0 ≤ v) = (!xs.all inOk) ∧ Below w.heap.size w w' := by
 have HR := Lib.hid hr; clear hr
 go_enter Tryz.func144, Tryz.ntmps144
 go_wp2
 go_loopw [8] (fun i wr => ∃ k : Nat, k ≤ n ∧ i = .int .i64 k ∧ Hid (Below w.heap.size w wr ∧ xs.all inOk = (xs.drop k).all inOk)) (fun i _ => n - (intOf i).toNat)
 case atStart => exact ⟨0, Nat.zero_le _, rfl, Below.refl _ _, rfl⟩
 case round =>
  obtain ⟨k, hk, rfl, HF⟩ := hrel
  by_cases hlt : k < n
  ·obtain ⟨b, off, x, hA, hb, hx, h0, h1, h2⟩ := RdN.cells (HR.out.below HF.out.1) hlt
   subst hA
   have HS := Lib.hid (all_dropB (p := inOk) hx)
   clear hx
   cases ho : inOk x
   ·have HO := Lib.hid ho
    have c1 := fun W => inputsOk1_any x W
    rw [ho] at c1
    have C1 := Lib.hid c1
    clear ho c1
    go_wp2_with (first | (go_at_call 104; refine (C1.out _).mono ?_; rintro e w' ⟨rfl, hb1⟩))
    go_ret
    exact ⟨_, rfl, by rw [HF.out.2, HS.out, HO.out]; simp, below_next HF.out.1 hb1⟩
   ·have HO := Lib.hid ho
    have c1 := fun W => inputsOk1_any x W
    rw [ho] at c1
    have C1 := Lib.hid c1
    clear ho c1
    go_wp2_with (first | (go_at_call 104; refine (C1.out _).mono ?_; rintro e w' ⟨rfl, hb1⟩))
    exact ⟨⟨k + 1, by omega, by go_num, below_next HF.out.1 hb1, by rw [HF.out.2, HS.out, HO.out]; rfl⟩, by simp [intOf]; omega⟩
  ·go_wp2
   go_ret
   exact ⟨_, rfl, by rw [HF.out.2, List.drop_of_length_le (by rw [HR.out.len]; omega)]; rfl, HF.out.1⟩
set_option maxHeartbeats 1000000 in
theorem containsFuncN_any (A : Option Addr) (n c : Nat) (xs : List Inp) (w : World) (hr : RdN w A n xs) (hn : n ≤ 1099511627776) :
  Calls Tryz.prog 103 #[.slice A n c, .func (.func 104) #[] #[]] w fun e w' => e = .returned (.bool (!xs.all inOk)) ∧ Below w.heap.size w w' := by
 have H1 := Lib.hid (indexFuncN_any A n c xs w hr hn)
 clear hr
 go_enter Tryz.func103, Tryz.ntmps103
 go_wp2_with fail
 refine H1.out.mono ?_
 rintro e w1 ⟨v, rfl, hv, hb1⟩
 have HV := Lib.hid hv
 clear hv
 go_wp2_with fail
 go_ret
 exact ⟨ret_bool HV.out, hb1⟩
set_option maxHeartbeats 1000000 in
theorem inputsOk_any (A : Option Addr) (n c : Nat) (xs : List Inp) (w : World) (hr : RdN w A n xs) (hn : n ≤ 1099511627776) :
  Calls Tryz.prog 51 #[.slice A n c] w fun e w' => e = .returned (.bool (insOk xs)) ∧ Below w.heap.size w w' := by
 have H1 := Lib.hid (containsFuncN_any A n c xs w hr hn)
 have HL := Lib.hid hr.len
 clear hr
 go_enter Tryz.func51, Tryz.ntmps51
 by_cases h6 : n ≤ 60
 ·have h6' : (n : Int) ≤ 60 := by omega
  go_wp2_with fail
  refine H1.out.mono ?_
  rintro e w1 ⟨rfl, hb1⟩
  go_wp2_with fail
  go_ret
  exact ⟨ret_bool (by simp [insOk, HL.out, h6']), hb1⟩
 ·have h6' : ¬ (n : Int) ≤ 60 := by omega
  go_wp2_with fail
  go_ret
  exact ⟨ret_bool (by simp [insOk, HL.out]; omega), by go_grown⟩
set_option maxHeartbeats 400000 in
theorem replayValid1_any (n : Int) (w : World) :
  Calls Tryz.prog 54 #[.int .i64 n] w fun e w' => e = .returned (.bool (!hashOk n)) ∧ w = w' := by
 go_enter Tryz.func54, Tryz.ntmps54
 go_wp2_with fail
 refine (isHash_any _ _).mono ?_
 rintro e w1 ⟨rfl, rfl⟩
 go_wp2_with fail
 go_ret
 exact ⟨rfl, rfl⟩
set_option maxHeartbeats 2000000 in
theorem repHs_index (A : Option Addr) (n c : Nat) (zs : List Int) (w : World) (hr : RdI .i64 w A n zs) (hn : n ≤ 1099511627776) :
  Calls Tryz.prog 106 #[.slice A n c, .func (.func 54) #[] #[]] w fun e w' => ∃ v : Int, e = .returned (.int .i64 v) ∧ decide (0 ≤ v) = (!zs.all hashOk) ∧ w = w' := by
 have HR := Lib.hid hr; clear hr
 go_enter Tryz.func106, Tryz.ntmps106
 go_wp2
 go_loop [8] (fun i => ∃ k : Nat, k ≤ n ∧ i = .int .i64 k ∧ Hid (zs.all hashOk = (zs.drop k).all hashOk)) (fun i => n - (intOf i).toNat)
 case atStart => exact ⟨0, Nat.zero_le _, rfl, rfl⟩
 case round =>
  obtain ⟨k, hk, rfl, HF⟩ := hrel
  by_cases hlt : k < n
  ·obtain ⟨b, off, x, hA, hb, hx, h0⟩ := HR.out.at_ hlt
   subst hA
   have HS := Lib.hid (all_drop (p := hashOk) hx)
   clear hx
   cases ho : hashOk x
   ·have HO := Lib.hid ho
    have c1 := fun W => replayValid1_any x W
    rw [ho] at c1
    have C1 := Lib.hid c1
    clear ho c1
    go_wp2_with (first | (go_at_call 54; refine (C1.out _).mono ?_; rintro e w' ⟨rfl, rfl⟩))
    go_ret
    exact ⟨_, rfl, by rw [HF.out, HS.out, HO.out]; simp, rfl⟩
   ·have HO := Lib.hid ho
    have c1 := fun W => replayValid1_any x W
    rw [ho] at c1
    have C1 := Lib.hid c1
    clear ho c1
    go_wp2_with (first | (go_at_call 54; refine (C1.out _).mono ?_; rintro e w' ⟨rfl, rfl⟩))
    go_round
    case rel => exact ⟨k + 1, by omega, by go_num, by show _ = _; rw [HF.out, HS.out, HO.out]; rfl⟩
    case measure => simp [intOf]; omega
  ·go_wp2
   go_ret
   exact ⟨_, rfl, by rw [HF.out, List.drop_of_length_le (by rw [HR.out.len]; omega)]; rfl, rfl⟩
set_option maxHeartbeats 1000000 in
theorem repHs_contains (A : Option Addr) (n c : Nat) (zs : List Int) (w : World) (hr : RdI .i64 w A n zs) (hn : n ≤ 1099511627776) :
  Calls Tryz.prog 53 #[.slice A n c, .func (.func 54) #[] #[]] w fun e w' => e = .returned (.bool (!zs.all hashOk)) ∧ w = w' := by
 have H1 := Lib.hid (repHs_index A n c zs w hr hn)
 clear hr
 go_enter Tryz.func53, Tryz.ntmps53
 go_wp2_with fail
 refine H1.out.mono ?_
 rintro e w1 ⟨v, rfl, hv, rfl⟩
 have HV := Lib.hid hv
 clear hv
 go_wp2_with fail
 go_ret
 exact ⟨ret_bool HV.out, rfl⟩
set_option maxRecDepth 100000 in
set_option maxHeartbeats 4000000 in
theorem implReplayValid_any (r : Rep) (si sh : Sl) (w : World) (hr : RdR w r si sh) :
  Calls Tryz.prog 16 #[repV r si sh] w fun e w' => e = .returned (.bool (repOk r)) ∧ Below w.heap.size w w' := by
 obtain ⟨hi, hh, ⟨_, hn1⟩, _, hn2⟩ := hr
 have HI := Lib.hid hi
 have HH := Lib.hid hh
 clear hi hh
 go_enter Tryz.func16, Tryz.ntmps16
 go_wp2_with fail
 refine (inRange_any _ _ _ _).mono ?_
 rintro e w1 ⟨rfl, rfl⟩
 have HB := Lib.hid ((Below.refl w.heap.size w).alloc (Nat.le_refl _) (.cells (repC r si sh) 33))
 cases h1 : inR r.lv 0 99
 ·go_wp2_with fail
  go_ret
  exact ⟨ret_bool (by simp [repOk, h1]), HB.out⟩
 ·go_wp2_with fail
  refine (inRange_any _ _ _ _).mono ?_
  rintro e w1 ⟨rfl, rfl⟩
  cases h2 : inR r.pl 0 9
  ·go_wp2_with fail
   go_ret
   exact ⟨ret_bool (by simp [repOk, h2]), HB.out⟩
  ·go_wp2_with fail
   refine (inRange_any _ _ _ _).mono ?_
   rintro e w1 ⟨rfl, rfl⟩
   cases h3 : inR r.sc 0 60
   ·go_wp2_with fail
    go_ret
    exact ⟨ret_bool (by simp [repOk, h3]), HB.out⟩
   ·go_wp2_with fail
    refine (inputsOk_any si.a si.n si.c r.ins _ (HI.out.below HB.out) (by omega)).mono ?_
    rintro e w2 ⟨rfl, hb⟩
    have KR := Lib.hid ((Blk.new w 33 (repC r si sh)).next hb)
    replace HB := Lib.hid (below_next HB.out hb)
    clear hb
    have cr := fun o => KR.out.cell o
    have fr := fun o => KR.out.frozen o
    have zr := KR.out.lt
    cases h4 : insOk r.ins
    ·go_wp2_with fail
     go_ret
     exact ⟨ret_bool (by simp [repOk, h4]), HB.out⟩
    ·by_cases h5 : (sh.n : Int) = (si.n : Int) / 5
     ·have h5' : ((sh.n : Int) == (si.n : Int) / 5) = true := by simpa using h5
      have H5 := Lib.hid (show (r.hs.length : Int) = (r.ins.length : Int) / 5 by rw [HH.out.len, HI.out.len]; exact h5)
      clear h5
      go_wp2_with fail
      refine (isHash_any _ _).mono ?_
      rintro e w3 ⟨rfl, rfl⟩
      cases h6 : hashOk r.tag
      ·go_wp2_with fail
       go_ret
       exact ⟨ret_bool (by simp [repOk, h6]), HB.out⟩
      ·go_wp2_with fail
       refine (repHs_contains sh.a sh.n sh.c r.hs _ (HH.out.below HB.out) (by omega)).mono ?_
       rintro e w3 ⟨rfl, rfl⟩
       go_wp2_with fail
       go_ret
       exact ⟨ret_bool (by simp [repOk, h1, h2, h3, h4, H5.out, h6]), HB.out⟩
     ·have h5' : ((sh.n : Int) == (si.n : Int) / 5) = false := by simpa using h5
      have H5 := Lib.hid (show ¬ (r.hs.length : Int) = (r.ins.length : Int) / 5 by rw [HH.out.len, HI.out.len]; exact h5)
      clear h5
      go_wp2_with fail
      go_ret
      exact ⟨ret_bool (by simp [repOk, H5.out]), HB.out⟩
end Go.Proofs.YtemnlheidghbmaaGreatDoor
namespace Go.Proofs.YtemnlheidghbmaaGreatDoor
open Go.RowKit Go.Sort
def ChainP (w : World) (lo : Nat) : Value → Nat → List Ent → Prop
 | p, _, [] => p = .pointer none
 | p, hi, x :: xs => ∃ b q, p = .pointer (some ⟨b, 0, none⟩) ∧ lo ≤ b ∧ b < hi ∧ Blk w b 164 #[.int .i64 x.1, .int .i64 x.2, q] ∧ ChainP w lo q b xs
theorem ChainP.next {w w' : World} {lo : Nat} (hb : Below w.heap.size w w') : ∀ {es : List Ent} {p : Value} {hi : Nat}, ChainP w lo p hi es → ChainP w' lo p hi es
 | [], _, _, h => h
 | _ :: _, _, _, ⟨b, q, h1, h2, h3, h4, h5⟩ => ⟨b, q, h1, h2, h3, h4.next hb, ChainP.next hb h5⟩
theorem ChainP.below {w w' : World} {lo B : Nat} (hb : Below B w w') : ∀ {es : List Ent} {p : Value} {hi : Nat}, hi ≤ B → ChainP w lo p hi es → ChainP w' lo p hi es
 | [], _, _, _, h => h
 | _ :: _, _, hi, hB, ⟨b, q, h1, h2, h3, h4, h5⟩ => ⟨b, q, h1, h2, h3, h4.below hb (by omega), ChainP.below hb (by omega) h5⟩
theorem ChainP.mono {w : World} {lo hi hi' : Nat} (hh : hi ≤ hi') : ∀ {es : List Ent} {p : Value}, ChainP w lo p hi es → ChainP w lo p hi' es
 | [], _, h => h
 | _ :: _, _, ⟨b, q, h1, h2, h3, h4, h5⟩ => ⟨b, q, h1, h2, by omega, h4, h5⟩
theorem chain_cons {w : World} {lo hi : Nat} {p : Value} {es : List Ent} (h : ChainP w lo p hi es) (hl : lo ≤ w.heap.size) (hh : hi ≤ w.heap.size) (a b : Int) :
  ChainP (w.alloc (.cells #[.int .i64 a, .int .i64 b, p] 164)) lo (.pointer (some ⟨w.heap.size, 0, none⟩)) (w.alloc (.cells #[.int .i64 a, .int .i64 b, p] 164)).heap.size ((a, b) :: es) :=
 ⟨w.heap.size, p, rfl, hl, by simp, Blk.new _ _ _, (h.next ((Below.refl _ _).alloc (Nat.le_refl _) _)).mono hh⟩
def ptrN : Value → Nat
 | .pointer (some a) => a.block + 1
 | _ => 0
theorem chain_num {w : World} {lo hi : Nat} {p : Value} : ∀ {es : List Ent}, ChainP w lo p hi es → ptrN p ≤ hi
 | [], h => by rw [show p = .pointer none from h]; exact Nat.zero_le _
 | _ :: _, ⟨b, q, h1, h2, h3, h4, h5⟩ => by rw [h1]; exact h3
theorem cellsE_put : ∀ (ds : List Ent) (k : Nat) (e : Ent), k < ds.length → ((cellsE ds).set (k * 2) (.int .i64 e.1)).set (k * 2 + 1) (.int .i64 e.2) = cellsE (ds.set k e)
 | [], _, _, h => by simp at h
 | x :: r, 0, e, _ => rfl
 |x :: r, k + 1, e, h => by
  have ih := cellsE_put r k e (by simpa using h)
  rw [show (k + 1) * 2 = k * 2 + 1 + 1 by omega]
  show Value.int .i64 x.1 :: Value.int .i64 x.2 :: ((cellsE r).set (k * 2) _).set (k * 2 + 1) _ = Value.int .i64 x.1 :: Value.int .i64 x.2 :: cellsE (r.set k e)
  rw [ih]
theorem Ow.put2 {B T n c g k : Nat} {w : World} {ds : List Ent} {a b : Int} (h : Ow B w T 2 (some ⟨g, 0, none⟩) n c (cellsE ds)) (hk : k < ds.length) :
  Ow B ((w.setCell ⟨g, k * 2, none⟩ (.int .i64 a)).setCell ⟨g, k * 2 + 1, none⟩ (.int .i64 b)) T 2 (some ⟨g, 0, none⟩) n c (cellsE (ds.set k (a, b))) := by
 have hl := cellsE_length ds
 rw [← cellsE_put ds k (a, b) hk]
 exact Ow.set_ (Ow.set_ h (by omega) _) (by simp; omega) _
theorem swap_at {es ds : List Ent} {n k j : Nat} {x y : Ent} (hn : es.length = n) (hl : ds.length = n) (hd : ∀ t, ds[t]? = if t < k ∨ n - k ≤ t then es.reverse[t]? else es[t]?) (hx : es[k]? = some x) (hy : es[j]? = some y) (hkj : k < j) (hj : j = n - 1 - k) :
  ∀ t, ((ds.set k y).set j x)[t]? = if t < k + 1 ∨ n - (k + 1) ≤ t then es.reverse[t]? else es[t]? := by
 intro t
 have hr : ∀ t, t < n → es.reverse[t]? = es[n - 1 - t]? := fun t ht => by rw [List.getElem?_reverse (by omega), hn]
 by_cases h1 : t = j
 ·subst h1
  rw [List.getElem?_set_self (by simp; omega), if_pos (by omega), hr _ (by omega), show n - 1 - t = k by omega, hx]
 ·rw [List.getElem?_set_ne (by omega)]
  by_cases h2 : t = k
  ·subst h2
   rw [List.getElem?_set_self (by omega), if_pos (by omega), hr _ (by omega), ← hj, hy]
  ·rw [List.getElem?_set_ne (by omega), hd t]
   by_cases h3 : t < k ∨ n - k ≤ t
   ·rw [if_pos h3, if_pos (by omega)]
   ·rw [if_neg h3, if_neg (by omega)]
theorem rev_done {es ds : List Ent} {n k : Nat} (hn : es.length = n) (hl : ds.length = n) (hd : ∀ t, ds[t]? = if t < k ∨ n - k ≤ t then es.reverse[t]? else es[t]?) (h : ¬ (k : Int) < (n : Int) - 1 - k) : ds = es.reverse := by
 apply List.ext_getElem?
 intro t
 rw [hd t]
 split
 ·rfl
 ·rw [List.getElem?_reverse (by omega), hn]
  congr 1
  omega
set_option maxRecDepth 1000000 in
set_option maxHeartbeats 4000000 in
theorem reverseP_any (b c : Nat) (es : List Ent) (B : Nat) (w : World) (hO : Ow B w 100 2 (some ⟨b, 0, none⟩) es.length c (cellsE es)) (hc : 0 < c) (hn : es.length ≤ 1048576) :
  Calls Tryz.prog 172 #[.slice (some ⟨b, 0, none⟩) es.length c] w fun e w' => e = .returned (.tuple #[]) ∧ Ow B w' 100 2 (some ⟨b, 0, none⟩) es.length c (cellsE es.reverse) ∧ Only b w w' := by
 obtain ⟨n, hln⟩ : ∃ n, es.length = n := ⟨_, rfl⟩
 rw [hln] at hO hn ⊢
 have HLN := Lib.hid hln
 have HO := Lib.hid hO
 clear hO hln
 go_enter Tryz.func172, Tryz.ntmps172
 go_wp2_with fail
 go_loopw [2, 3] (fun i j wr => ∃ (k : Nat), i = .int .i64 k ∧ j = .int .i64 ((n : Int) - 1 - k) ∧ k ≤ n ∧ Hid (∃ ds : List Ent, Ow B wr 100 2 (some ⟨b, 0, none⟩) n c (cellsE ds) ∧ Only b w wr ∧ ds.length = n ∧ ∀ t, ds[t]? = if t < k ∨ n - k ≤ t then es.reverse[t]? else es[t]?)) (fun i _ _ => n - (intOf i).toNat)
 case atStart => exact ⟨0, rfl, by go_num, Nat.zero_le _, es, HO.out, Only.refl _ _, HLN.out, fun t => by
  have hl := HLN.out
  by_cases ht : t < 0 ∨ n - 0 ≤ t
  ·rw [if_pos ht, List.getElem?_eq_none (by omega), List.getElem?_eq_none (by simp only [List.length_reverse]; omega)]
  ·rw [if_neg ht]⟩
 case round =>
  obtain ⟨k, rfl, rfl, hk, HQ⟩ := hrel
  obtain ⟨ds, hO, hOnly, hdl, hds⟩ := HQ.out
  by_cases hlt : (k : Int) < (n : Int) - 1 - k
  ·obtain ⟨j, hj⟩ : ∃ j : Nat, (n : Int) - 1 - k = j := ⟨n - 1 - k, by omega⟩
   have HJ := Lib.hid hj
   rw [hj] at hlt ⊢
   have hkj : k < j := by omega
   have hjn : j < n := by omega
   obtain ⟨x, hx⟩ : ∃ x, ds[k]? = some x := ⟨ds[k]'(by omega), List.getElem?_eq_getElem _⟩
   obtain ⟨y, hy⟩ : ∃ y, ds[j]? = some y := ⟨ds[j]'(by omega), List.getElem?_eq_getElem _⟩
   obtain ⟨g1, o1, e1, hA1, hg1, he1, hc1, hc2⟩ := hO.rdE.at_ (k := k) (by omega)
   obtain ⟨g2, o2, e2, hA2, hg2, he2, hc3, hc4⟩ := hO.rdE.at_ (k := j) (by omega)
   rw [hx] at he1
   rw [hy] at he2
   injection he1 with he1
   injection he2 with he2
   injection hA1 with hA1
   injection hA2 with hA2
   injection hA1 with hA1 hA1'
   injection hA2 with hA2 hA2'
   subst hA1 hA1' hA2 hA2' he1 he2
   obtain ⟨x1, x2⟩ := x
   obtain ⟨y1, y2⟩ := y
   simp only [Nat.zero_add] at hc1 hc2 hc3 hc4
   obtain ⟨g, cur, hg, hBg, hbg, _, _, _, _⟩ := hO.blk hc
   injection hg with hg
   injection hg with hg
   subst hg
   have f1 := hbg.frozen (k * 2)
   have f2 := hbg.frozen (k * 2 + 1)
   have f3 := hbg.frozen (j * 2)
   have f4 := hbg.frozen (j * 2 + 1)
   have HX := Lib.hid hx
   have HY := Lib.hid hy
   have HOO := Lib.hid hO
   have HON := Lib.hid hOnly
   have HDS := Lib.hid hds
   have HDL := Lib.hid hdl
   clear hx hy hO hOnly hds hdl hbg HQ hj
   go_wp2_with fail
   go_region
   go_wp2_with fail
   refine ⟨⟨k + 1, by go_num, by have := HJ.out; congr 1; omega, by omega, (ds.set k (y1, y2)).set j (x1, x2), ?_, ?_, by simp [HDL.out], ?_⟩, by simp [intOf]; omega⟩
   ·refine Ow.put2 (Ow.put2 HOO.out (by rw [HDL.out]; omega)) (by simp [HDL.out]; omega)
   ·refine (fun {w'} (h : Only b w w') => (⟨h.os, h.tape, h.output, h.size, h.block⟩ : Only b w w'.drew)) ?_
    exact (((HON.out.set_ (p := ⟨b, k * 2, none⟩) (.inl rfl) _).set_ (p := ⟨b, k * 2 + 1, none⟩) (.inl rfl) _).set_ (p := ⟨b, j * 2, none⟩) (.inl rfl) _).set_ (p := ⟨b, j * 2 + 1, none⟩) (.inl rfl) _
   ·have hjj := HJ.out
    have hj2 : j = n - 1 - k := by omega
    have hx0 : es[k]? = some (x1, x2) := by rw [← HX.out, HDS.out k, if_neg (by omega)]
    have hy0 : es[j]? = some (y1, y2) := by rw [← HY.out, HDS.out j, if_neg (by omega)]
    exact swap_at HLN.out HDL.out HDS.out hx0 hy0 hkj hj2
  ·have HEQ := Lib.hid (rev_done HLN.out hdl hds (by omega))
   have HOO := Lib.hid hO
   have HON := Lib.hid hOnly
   clear hO hOnly hdl hds HQ
   go_wp2_with fail
   go_end0
   exact ⟨rfl, by rw [← HEQ.out]; exact HOO.out, HON.out⟩
set_option maxHeartbeats 1000000 in
theorem reverse0_any (A : Option Addr) (c : Nat) (w : World) :
  Calls Tryz.prog 172 #[.slice A 0 c] w fun e w' => e = .returned (.tuple #[]) ∧ w = w' := by
 go_enter Tryz.func172, Tryz.ntmps172
 go_wp2_with fail
 go_loopw [2, 3] (fun i j wr => i = .int .i64 0 ∧ j = .int .i64 (-1) ∧ w = wr) (fun _ _ _ => 0)
 case atStart => exact ⟨rfl, rfl, rfl⟩
 case round =>
  obtain ⟨rfl, rfl, rfl⟩ := hrel
  go_wp2_with fail
  go_end0
  exact ⟨rfl, rfl⟩
set_option maxRecDepth 1000000 in
set_option maxHeartbeats 4000000 in
theorem parts_any (p : Value) (lo hi : Nat) (es : List Ent) (w : World) (hp : ChainP w lo p hi es) (hn : es.length ≤ 1048576) :
  Calls Tryz.prog 122 #[p] w fun e w' => ∃ A m c, e = .returned (.slice A m c) ∧ Ow w.heap.size w' 100 2 A m c (cellsE es.reverse) ∧ m = es.length ∧ Below w.heap.size w w' := by
 obtain ⟨i0, hi0, hy0, hy1, hy2⟩ := info_parts infoP
 have HI := Lib.hid hi0
 have HZ := Lib.hid hy0
 have HS := Lib.hid hy1
 have HBY := Lib.hid hy2
 clear hi0 hy0 hy1 hy2
 have HP := Lib.hid hp
 clear hp
 go_enter Tryz.func122, Tryz.ntmps122
 go_wp2_with fail
 go_loopw [0, 3] (fun p out wr => ∃ (k : Nat) (q : Value) (A' : Option Addr) (c' : Nat), q = p ∧ out = .slice A' k c' ∧ Hid (k ≤ es.length ∧ Below w.heap.size w wr ∧ Ow w.heap.size wr 100 2 A' k c' (cellsE (es.take k)) ∧ ∃ hi', ChainP w lo q hi' (es.drop k))) (fun p _ _ => ptrN p)
 case atStart => exact ⟨0, p, none, 0, rfl, rfl, Nat.zero_le _, Below.refl _ _, Ow.bare _ _ _ _ _, hi, HP.out⟩
 case round =>
  obtain ⟨k, q, A', c', rfl, rfl, HQ⟩ := hrel
  obtain ⟨hk, hB, hO, hi', hC⟩ := HQ.out
  rcases Nat.lt_or_ge k es.length with hlt | hge
  ·obtain ⟨x, hx⟩ : ∃ x, es[k]? = some x := ⟨es[k], List.getElem?_eq_getElem hlt⟩
   rw [List.drop_eq_getElem_cons hlt] at hC
   have hxe : es[k] = x := by rw [List.getElem?_eq_getElem hlt] at hx; injection hx
   rw [hxe] at hC
   obtain ⟨b, q', rfl, h2, h3, h4, h5⟩ := hC
   have KR0 := Lib.hid h4
   have KR := Lib.hid (h4.next hB)
   have HB := Lib.hid hB
   have HOW := Lib.hid hO
   have HC := Lib.hid h5
   have HX := Lib.hid hx
   have HNUM := Lib.hid (chain_num h5)
   clear hB hO h2 h3 h4 h5 hx hxe HQ
   obtain ⟨x1, x2⟩ := x
   have cn := fun o => KR.out.cell o
   have fn := fun o => KR.out.frozen o
   have zn := KR.out.lt
   have hzs := HB.out.size
   have hlen := HOW.out.len
   go_wp2_with (at_builtin; refine wpList_append_ow _ rfl (.tmp 10) (.tmp 15) _ rfl w.heap.size 100 i0 _ 2 16 Tryz.underlying97 HI.out HZ.out HS.out HBY.out rfl (by omega) _ k c' _ rfl (HOW.out.alloc _) _ 1 1 (cellsE [(x1, x2)]) rfl (Src.blk (Blk.new _ _ _) rfl) (cellsE_one _) (by unfold maxLen; omega) (by omega) (by simp; omega) ?_; intro A2 c2 w5 hown5 hg5 _; have HO5 := Lib.hid hown5; have HB5 := Lib.hid ((HOW.out.alloc (.cells #[.int .i64 x1, .int .i64 x2] 100)).grown hg5 (HB.out.alloc HB.out.size _) (Nat.le_refl _) (by simp; omega)); clear hown5 hg5; have k5 := (KR0.out.next HB5.out).cell 2; have k6 := (KR0.out.next HB5.out).frozen 2; have k7 := (KR0.out.next HB5.out).lt)
   exact ⟨⟨k + 1, q', A2, c2, rfl, rfl, by omega, HB5.out, by rw [List.take_add_one, HX.out, Option.toList_some, cellsE_append]; exact HO5.out, b, HC.out⟩, by have := HNUM.out; show ptrN q' < b + 1; omega⟩
  ·have hke : k = es.length := by omega
   subst hke
   rw [List.drop_length] at hC
   have hq : q = .pointer none := hC
   subst hq
   rw [List.take_length] at hO
   have HB := Lib.hid hB
   have HOW := Lib.hid hO
   clear hB hO hC HQ
   rcases Nat.eq_zero_or_pos es.length with h0 | h0
   ·rw [h0]
    have HR := Lib.hid (reverse0_any A' c' wr)
    have HE := Lib.hid (show es.reverse = [] by rw [List.eq_nil_of_length_eq_zero h0]; rfl)
    have HE0 := Lib.hid (show es = [] from List.eq_nil_of_length_eq_zero h0)
    clear h0 hge
    go_wp2_with fail
    refine HR.out.mono ?_
    rintro e w1 ⟨rfl, rfl⟩
    go_wp2_with fail
    go_ret
    exact ⟨_, _, _, rfl, by have h := HOW.out; rw [HE0.out] at h; rw [HE.out]; exact h, by rw [HE0.out]; rfl, HB.out⟩
   ·have hcc : 0 < c' := Nat.lt_of_lt_of_le h0 HOW.out.le
    obtain ⟨g, cur, rfl, hBg, _⟩ := HOW.out.blk hcc
    have HR := Lib.hid (reverseP_any g c' es w.heap.size wr HOW.out hcc hn)
    go_wp2_with fail
    refine HR.out.mono ?_
    rintro e w1 ⟨rfl, hO1, hon⟩
    have HO1 := Lib.hid hO1
    have HON := Lib.hid hon
    clear hO1 hon
    go_wp2_with fail
    go_ret
    exact ⟨_, _, _, rfl, HO1.out, rfl, HB.out.trans (HON.out.below hBg HB.out.size)⟩
def stepR (rs : List Ent) (c : Int) : List Ent :=
 match rs with
 | [] => [(c, 1)]
 | e :: r => if e.1 = c then (e.1, wrap64 (e.2 + 1)) :: r else (c, 1) :: e :: r
theorem partStep_rev (rs : List Ent) (c : Int) : (partStep rs.reverse c).reverse = stepR rs c := by
 cases rs with
 | nil => rfl
 | cons e r =>
  unfold partStep stepR
  simp only [List.reverse_cons, List.length_append, List.length_reverse, List.length_cons, List.length_nil, Nat.zero_add, Nat.add_sub_cancel]
  rw [List.getElem?_append_right (by simp)]
  simp only [List.length_reverse, Nat.sub_self, List.getElem?_cons_zero]
  split
  ·rw [List.set_append_right _ _ (by simp)]
   simp
  ·simp
theorem stepR_len (rs : List Ent) (c : Int) : (stepR rs c).length ≤ rs.length + 1 := by
 unfold stepR
 split
 ·simp
 ·split <;> simp
def partsR (xs : List Inp) : List Ent := (partsW xs).reverse
theorem partsR_succ {xs : List Inp} {k : Nat} {x : Inp} (h : xs[k]? = some x) : partsR (xs.take (k + 1)) = stepR (partsR (xs.take k)) (codeW x) := by
 unfold partsR
 rw [partsW_succ h, ← partStep_rev, List.reverse_reverse]
def partsI (xs : List Inp) : List Ent := if insOk xs then partsW xs else []
theorem insOk_at {xs : List Inp} (h : insOk xs = true) {k : Nat} {x : Inp} (hx : xs[k]? = some x) : inOk x = true := by
 simp only [insOk, Bool.and_eq_true, List.all_eq_true] at h
 exact h.1 x (List.mem_of_getElem? hx)
set_option maxRecDepth 1000000 in
set_option maxHeartbeats 4000000 in
theorem implReplayParts_any (A : Option Addr) (n c : Nat) (xs : List Inp) (w : World) (hr : RdN w A n xs) (hn : n ≤ 1048576) :
  Calls Tryz.prog 71 #[.slice A n c] w fun e w' => ∃ A' m c', e = .returned (.slice A' m c') ∧ Ow w.heap.size w' 100 2 A' m c' (cellsE (partsI xs)) ∧ m ≤ n ∧ Below w.heap.size w w' := by
 have HR := Lib.hid hr
 clear hr
 go_enter Tryz.func71, Tryz.ntmps71
 go_wp2_with fail
 refine (inputsOk_any A n c xs w HR.out (by omega)).mono ?_
 rintro e w1 ⟨rfl, hb1⟩
 cases ho : insOk xs
 ·have HE := Lib.hid (show partsI xs = [] by simp [partsI, ho])
  have HB := Lib.hid hb1
  clear ho hb1
  go_wp2_with fail
  go_ret
  exact ⟨none, 0, 0, rfl, by rw [HE.out]; exact Ow.bare _ _ _ _ _, Nat.zero_le _, HB.out⟩
 ·have HE := Lib.hid (show partsI xs = partsW xs by simp [partsI, ho])
  have HOK := Lib.hid ho
  have HB1 := Lib.hid hb1
  clear ho hb1
  go_wp2_with fail
  go_loopw [3, 12] (fun p i wr => ∃ (k : Nat) (q : Value), q = p ∧ i = .int .i64 k ∧ k ≤ n ∧ Hid (Below w.heap.size w wr ∧ ChainP wr w.heap.size q wr.heap.size (partsR (xs.take k)) ∧ (partsR (xs.take k)).length ≤ k)) (fun _ i _ => n - (intOf i).toNat)
  case atStart => exact ⟨0, _, rfl, rfl, Nat.zero_le _, HB1.out, rfl, Nat.le_refl _⟩
  case round =>
   obtain ⟨k, q, rfl, rfl, hk, HQ⟩ := hrel
   obtain ⟨hB, hC, hL⟩ := HQ.out
   by_cases hlt : k < n
   ·obtain ⟨b, off, x, hA, hb, hx, h0, h1, h2⟩ := RdN.cells (HR.out.below hB) hlt
    subst hA
    have HST := Lib.hid (partsR_succ hx)
    have hxo := insOk_at HOK.out hx
    have HB := Lib.hid hB
    have HLE := Lib.hid hL
    obtain ⟨rs, hrs⟩ : ∃ rs, partsR (xs.take k) = rs := ⟨_, rfl⟩
    rw [hrs] at hC HST HLE
    obtain ⟨s, p, z⟩ := x
    have CD := Lib.hid (fun W => implInputCode_any ⟨s, p, z⟩ W)
    obtain ⟨cd, hcd⟩ : ∃ cd, codeW ⟨s, p, z⟩ = cd := ⟨_, rfl⟩
    rw [codeI, if_pos hxo] at CD
    rw [hcd] at CD HST
    clear hB hx hL hrs hcd hxo HQ
    cases rs with
    | nil =>
     have hq : q = .pointer none := hC
     subst hq
     clear hC
     go_wp2_with fail
     refine (CD.out _).mono ?_
     rintro e w2 ⟨rfl, hb2⟩
     have HB2 := Lib.hid (below_next (HB.out.alloc HB.out.size _) hb2)
     clear hb2
     go_wp2_with fail
     refine ⟨⟨k + 1, _, rfl, by go_num, by omega, HB2.out.alloc HB2.out.size _, ?_, ?_⟩, by simp [intOf]; omega⟩
     ·rw [HST.out]
      exact chain_cons (es := []) (hi := 0) rfl HB2.out.size (Nat.zero_le _) cd 1
     ·rw [HST.out]
      have := stepR_len [] cd
      simp only [List.length_nil] at this
      omega
    | cons e r =>
     have HC := Lib.hid (hC.next ((Below.refl wr.heap.size wr).alloc (Nat.le_refl _) (.cells #[.int .i64 s, .int .i64 p, .bool z] 80)))
     obtain ⟨b1, q', rfl, hb1, hb2, hb3, hb4⟩ := hC
     have hbb := hb3.lt
     clear hb2 hb3 hb4
     obtain ⟨e1, e2⟩ := e
     go_wp2_with fail
     refine (CD.out _).mono ?_
     rintro e w2 ⟨rfl, hbn⟩
     have HB2 := Lib.hid (below_next (HB.out.alloc HB.out.size _) hbn)
     have HC2 := Lib.hid (ChainP.next hbn HC.out)
     have hz2 : wr.heap.size < w2.heap.size := by have h := hbn.size; simp at h; omega
     obtain ⟨b2, q2, hq2, hl2, hh2, KN, hch⟩ := HC2.out
     injection hq2 with hq2
     injection hq2 with hq2
     injection hq2 with hq2
     subst hq2
     have KR := Lib.hid KN
     have HCH := Lib.hid hch
     clear hbn KN hch hh2
     have cn := fun o => KR.out.cell o
     have fn := fun o => KR.out.frozen o
     have zn := KR.out.lt
     by_cases heq : e1 = cd
     ·subst heq
      have HST2 := Lib.hid (show partsR (xs.take (k + 1)) = (e1, wrap64 (e2 + 1)) :: r by rw [HST.out]; simp [stepR])
      go_wp2_with fail
      refine ⟨⟨k + 1, _, rfl, by go_num, by omega, HB2.out.setCell (p := ⟨b1, 1, none⟩) hl2 _, ?_, ?_⟩, by simp [intOf]; omega⟩
      ·rw [HST2.out]
       refine ⟨b1, q2, rfl, hl2, by simp [World.setCell]; omega, KR.out.set_ 1 _, ?_⟩
       exact ChainP.below ((Below.refl b1 w2).setCell (p := ⟨b1, 1, none⟩) (Nat.le_refl _) _) (Nat.le_refl _) HCH.out
      ·rw [HST2.out]
       have := HLE.out
       simp only [List.length_cons] at this ⊢
       omega
     ·have heq' : (e1 == cd) = false := by simpa using heq
      have HST2 := Lib.hid (show partsR (xs.take (k + 1)) = (cd, 1) :: (e1, e2) :: r by rw [HST.out]; simp [stepR, heq])
      clear heq
      go_wp2_with fail
      refine ⟨⟨k + 1, _, rfl, by go_num, by omega, HB2.out.alloc HB2.out.size _, ?_, ?_⟩, by simp [intOf]; omega⟩
      ·rw [HST2.out]
       exact chain_cons HC2.out HB2.out.size (by omega) cd 1
      ·rw [HST2.out]
       have := HLE.out
       simp only [List.length_cons] at this ⊢
       omega
   ·have hkn : k = n := by omega
    subst hkn
    rw [List.take_of_length_le (by rw [HR.out.len]; exact Nat.le_refl _)] at hC hL
    have HB := Lib.hid hB
    have HPA := Lib.hid (parts_any q w.heap.size wr.heap.size (partsR xs) wr hC (by omega))
    have HL := Lib.hid hL
    clear hB hC hL HQ
    go_wp2_with fail
    refine HPA.out.mono ?_
    rintro e w2 ⟨A', m, c', rfl, hO, hm, hb⟩
    have HO := Lib.hid hO
    have HM := Lib.hid hm
    have HB2 := Lib.hid (below_next HB.out hb)
    clear hO hm hb
    go_wp2_with fail
    go_ret
    refine ⟨A', m, c', rfl, ?_, by rw [HM.out]; exact HL.out, HB2.out⟩
    have h := HO.out
    rw [show (partsR xs).reverse = partsI xs by rw [HE.out, partsR, List.reverse_reverse]] at h
    exact h.mono HB.out.size
end Go.Proofs.YtemnlheidghbmaaGreatDoor

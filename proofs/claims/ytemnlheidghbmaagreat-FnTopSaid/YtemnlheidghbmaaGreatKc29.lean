/-
  Lemmas and contracts: Em Lp Et. No condition.
-/
import Derived.Test.YtemnlheidghbmaaGreatKc13
import Derived.Test.YtemnlheidghbmaaGreatKc14
import Derived.Test.YtemnlheidghbmaaGreatKc22
import Derived.Test.YtemnlheidghbmaaGreatKc23
import Derived.Test.YtemnlheidghbmaaGreatKc28
namespace Go.Proofs.YtemnlheidghbmaaGreat
open Go.RowKit Go.Sort
noncomputable def subS (S : Svc) (s : ByteArray) : Svc × Int :=
 if validS S then
  if (decW s).2 then
   if (verS S (decW s).1).1 = 0 then
    match S.ts[(verS S (decW s).1).2.toNat]? with
    | some tr => accS S (decW s).1 (verS S (decW s).1).2.toNat tr
    | none => (S, 0)
   else (S, (verS S (decW s).1).1)
  else (S, 1)
 else (⟨[], [], []⟩, -1)
theorem ver_found {S : Svc} {r : Rep} (h : (verS S r).1 = 0) : ∃ (i : Nat) (tr : Trk), (verS S r).2 = i ∧ S.ts[i]? = some tr := by
 unfold verS at h ⊢
 split at h
 ·cases h
 ·rename_i i hi
  split at h
  ·cases h
  ·rename_i t ht
   exact ⟨i, t, rfl, ht⟩
set_option maxRecDepth 100000 in
set_option maxHeartbeats 8000000 in
theorem specServiceSubmit_any (t k g : Sl) (S : Svc) (s : ByteArray) (w : World) (hr : RdS w t k g S) (hs : s.size ≤ 1048576) :
  Calls Tryz.prog 52 #[svV t k g, .string s] w (CntPost w.heap.size (subS S s) w) := by
 have HRS := Lib.hid hr
 clear hr
 go_enter Tryz.func52, Tryz.ntmps52
 go_upto_region 1 with (fail)
 refine into_world (fun W => Below w.heap.size w W ∧ W.heap.size = w.heap.size + 2 ∧ Blk W w.heap.size 26 #[.slice t.a t.n t.c, .slice k.a k.n k.c, .slice g.a g.n g.c] ∧ Blk W (w.heap.size + 1) 26 #[.slice none 0 0, .slice none 0 0, .slice none 0 0]) ⟨by go_grown, by simp, (Blk.new _ _ _).alloc _, Blk.newAt _ _ _ _ (by simp)⟩ ?_
 rintro W ⟨hbw, hwz, hka, hkr⟩
 have HB := Lib.hid hbw
 have HKA := Lib.hid hka
 have HKR := Lib.hid hkr
 clear hbw hka hkr
 have ca := fun o => HKA.out.cell o
 have fa := fun o => HKA.out.frozen o
 have za := HKA.out.lt
 go_wp2_with fail
 refine (specServiceValid_any _ _ _ S _ (HRS.out.below HB.out)).mono ?_
 rintro e w1 ⟨rfl, hb⟩
 have hs1 := hb.size
 replace HKA := Lib.hid (HKA.out.next hb)
 replace HKR := Lib.hid (HKR.out.next hb)
 replace HB := Lib.hid (below_next HB.out hb)
 clear hb ca fa za
 cases hv : validS S
 ·have HACC := Lib.hid (show subS S s = (⟨[], [], []⟩, -1) by simp [subS, hv])
  clear hv
  have cr := fun o => HKR.out.cell o
  have fr := fun o => HKR.out.frozen o
  have zr := HKR.out.lt
  go_wp2_with fail
  refine bodyPost_ret (v := .tuple #[svV ⟨none, 0, 0⟩ ⟨none, 0, 0⟩ ⟨none, 0, 0⟩, .int .i64 (-1)]) (by simp [results, Tryz.results52, go_sem, cr]) rfl ?_
  rw [HACC.out]
  refine ⟨⟨none, 0, 0⟩, ⟨none, 0, 0⟩, ⟨none, 0, 0⟩, rfl, OwS.bare _ _ _ _ _ _, ?_⟩
  iterate 3 (refine Below.setCell ?_ (by simp) _)
  exact HB.out
 have HV := Lib.hid hv
 clear hv
 go_wp2_with fail
 refine (specReplayDecode_any s _ hs).mono ?_
 obtain ⟨r, ok, hdec⟩ : ∃ r ok, decW s = (r, ok) := ⟨_, _, rfl⟩
 have HDEC := Lib.hid hdec
 rw [hdec]
 clear hdec
 rintro e w2 ⟨si, sh, rfl, horep, hb⟩
 have HOR := Lib.hid horep
 have hs2 := hb.size
 replace HKA := Lib.hid (HKA.out.next hb)
 replace HKR := Lib.hid (HKR.out.next hb)
 replace HB := Lib.hid (below_next HB.out hb)
 clear hb horep
 obtain ⟨sia, sin, sic⟩ := si
 obtain ⟨sha, shn, shc⟩ := sh
 go_upto_region 4 with (fail)
 refine into_world (fun Y => Below w2.heap.size w2 Y ∧ Y.heap.size = w2.heap.size + 1 ∧ Blk Y w2.heap.size 82 (repC r ⟨sia, sin, sic⟩ ⟨sha, shn, shc⟩)) ⟨by go_grown, by simp, Blk.new _ _ _⟩ ?_
 rintro Y ⟨hb, hzY, hkq⟩
 have HKQ := Lib.hid hkq
 replace HKA := Lib.hid (HKA.out.next hb)
 replace HKR := Lib.hid (HKR.out.next hb)
 have HORY := Lib.hid (HOR.out.next hb)
 replace HB := Lib.hid (below_next HB.out hb)
 clear hb hkq HOR
 have ca := fun o => HKA.out.cell o
 have fa := fun o => HKA.out.frozen o
 have za := HKA.out.lt
 cases ok
 ·have HACC := Lib.hid (show subS S s = (S, 1) by simp [subS, HV.out, HDEC.out])
  go_wp2_with fail
  refine (l41Copy_any _ _ _ S _ (HRS.out.below HB.out)).mono ?_
  rintro e w9 ⟨t2, k2, g2, rfl, ho2, hb⟩
  replace HKR := Lib.hid (HKR.out.next hb)
  have hs9 := HB.out.size
  replace HB := Lib.hid (below_next HB.out hb)
  clear hb ca fa za
  have cr := fun o => HKR.out.cell o
  have fr := fun o => HKR.out.frozen o
  have zr := HKR.out.lt
  go_wp2_with fail
  refine bodyPost_ret (v := .tuple #[svV t2 k2 g2, .int .i64 1]) (by simp [results, Tryz.results52, go_sem, cr]) rfl ?_
  rw [HACC.out]
  refine cnt_ret (q := w.heap.size + 1) ho2 HB.out (by omega) (by omega) (Nat.le_refl _) ?_
  iterate 3 (refine Frm.set_ ?_ (by simp) (by simp) _)
  exact Frm.refl _ _ _
 have HOK := Lib.hid (show repOk r = true by have := decW_ok (s := s) (by rw [HDEC.out]); rwa [HDEC.out] at this)
 have cq := fun o => HKQ.out.cell o
 have fq := fun o => HKQ.out.frozen o
 have zq := HKQ.out.lt
 go_wp2_with fail
 refine (l41Verdict_any _ _ _ S r ⟨sia, sin, sic⟩ ⟨sha, shn, shc⟩ _ (HRS.out.below HB.out) HORY.out.rd HV.out HOK.out).mono ?_
 obtain ⟨vd, kk, hver⟩ : ∃ a b, verS S r = (a, b) := ⟨_, _, rfl⟩
 have HVER := Lib.hid hver
 rw [hver]
 clear hver
 rintro e w4 ⟨rfl, hb⟩
 have hs4 := hb.size
 replace HKA := Lib.hid (HKA.out.next hb)
 replace HKR := Lib.hid (HKR.out.next hb)
 replace HKQ := Lib.hid (HKQ.out.next hb)
 have HOR4 := Lib.hid (HORY.out.next hb)
 replace HB := Lib.hid (below_next HB.out hb)
 clear hb ca fa za cq fq zq HORY
 have ca := fun o => HKA.out.cell o
 have fa := fun o => HKA.out.frozen o
 have za := HKA.out.lt
 have cq := fun o => HKQ.out.cell o
 have fq := fun o => HKQ.out.frozen o
 have zq := HKQ.out.lt
 by_cases h0 : vd = 0
 rotate_left
 ·have HACC := Lib.hid (show subS S s = (S, vd) by simp [subS, HV.out, HDEC.out, HVER.out, h0])
  have h0' : (vd == 0) = false := by simpa using h0
  have h0n : (vd != 0) = true := by simpa using h0
  clear h0
  go_wp2_with fail
  refine (l41Copy_any _ _ _ S _ (HRS.out.below HB.out)).mono ?_
  rintro e w9 ⟨t2, k2, g2, rfl, ho2, hb⟩
  replace HKR := Lib.hid (HKR.out.next hb)
  have hs9 := HB.out.size
  replace HB := Lib.hid (below_next HB.out hb)
  clear hb ca fa za
  have cr := fun o => HKR.out.cell o
  have fr := fun o => HKR.out.frozen o
  have zr := HKR.out.lt
  go_wp2_with fail
  refine bodyPost_ret (v := .tuple #[svV t2 k2 g2, .int .i64 vd]) (by simp [results, Tryz.results52, go_sem, cr]) rfl ?_
  rw [HACC.out]
  refine cnt_ret (q := w.heap.size + 1) ho2 HB.out (by omega) (by omega) (Nat.le_refl _) ?_
  iterate 3 (refine Frm.set_ ?_ (by simp) (by simp) _)
  exact Frm.refl _ _ _
 subst h0
 obtain ⟨i, tr, hki, htr⟩ := ver_found (S := S) (r := r) (by rw [HVER.out])
 rw [HVER.out] at hki
 simp only at hki
 subst hki
 have HTR := Lib.hid htr
 have HACC := Lib.hid (show subS S s = accS S r i tr by simp [subS, HV.out, HDEC.out, HVER.out, htr])
 clear htr
 go_wp2_with fail
 refine (l41Accept_any _ _ _ S r ⟨sia, sin, sic⟩ ⟨sha, shn, shc⟩ i tr _ (HRS.out.below HB.out) HOR4.out.rd HV.out HOK.out HTR.out).mono ?_
 obtain ⟨S', v', hacc⟩ : ∃ a b, accS S r i tr = (a, b) := ⟨_, _, rfl⟩
 have HAC2 := Lib.hid (show subS S s = (S', v') by rw [HACC.out, hacc])
 rw [hacc]
 clear hacc HACC
 rintro e w9 ⟨t2, k2, g2, rfl, ho2, hb⟩
 replace HKR := Lib.hid (HKR.out.next hb)
 have hs9 := HB.out.size
 replace HB := Lib.hid (below_next HB.out hb)
 clear hb ca fa za cq fq zq
 have cr := fun o => HKR.out.cell o
 have fr := fun o => HKR.out.frozen o
 have zr := HKR.out.lt
 go_wp2_with fail
 refine bodyPost_ret (v := .tuple #[svV t2 k2 g2, .int .i64 v']) (by simp [results, Tryz.results52, go_sem, cr]) rfl ?_
 rw [HAC2.out]
 refine cnt_ret (q := w.heap.size + 1) ho2 HB.out (by omega) (by omega) (Nat.le_refl _) ?_
 iterate 3 (refine Frm.set_ ?_ (by simp) (by simp) _)
 exact Frm.refl _ _ _
end Go.Proofs.YtemnlheidghbmaaGreat
namespace Go.Proofs.YtemnlheidghbmaaGreat
open Go.RowKit Go.Sort
def placeOf (ts : List Trk) (id : Int) : Nat := (ts.takeWhile fun t => decide (t.l.id < id)).length
def levelS (S : Svc) (l : Lvl) : Svc × Bool :=
 if validS S && levelOk l then (if (S.ts.findIdx? (hasId l.id)).isSome || decide (4 ≤ S.ts.length) then (S, false)
  else (⟨S.ts.take (placeOf S.ts l.id) ++ ⟨l, []⟩ :: S.ts.drop (placeOf S.ts l.id), S.keys, S.tags⟩, true)) else (⟨[], [], []⟩, false)
theorem levelS_bad {S : Svc} {l : Lvl} (h : (validS S && levelOk l) = false) : levelS S l = (⟨[], [], []⟩, false) := by simp [levelS, h]
theorem levelS_known {S : Svc} {l : Lvl} {i : Nat} (h1 : validS S = true) (h2 : levelOk l = true) (h : S.ts.findIdx? (hasId l.id) = some i) : levelS S l = (S, false) := by simp [levelS, h1, h2, h]
theorem levelS_full {S : Svc} {l : Lvl} (h1 : validS S = true) (h2 : levelOk l = true) (h : 4 ≤ S.ts.length) : levelS S l = (S, false) := by simp [levelS, h1, h2, h]
theorem levelS_done {S : Svc} {l : Lvl} {i : Nat} (h1 : validS S = true) (h2 : levelOk l = true) (h : S.ts.findIdx? (hasId l.id) = none) (h4 : S.ts.length < 4) (hp : placeOf S.ts l.id = i) : levelS S l = (⟨S.ts.take i ++ ⟨l, []⟩ :: S.ts.drop i, S.keys, S.tags⟩, true) := by
 have h5 : ¬ 4 ≤ S.ts.length := by omega
 simp [levelS, h1, h2, h, hp, h5]
theorem place_at : ∀ (ts : List Trk) (id : Int) (i : Nat), i ≤ ts.length → (∀ j t, j < i → ts[j]? = some t → t.l.id < id) → (∀ t, ts[i]? = some t → ¬ t.l.id < id) → placeOf ts id = i
 | [], _, i, hi, _, _ => by simp at hi; subst hi; rfl
 |t :: ts, id, 0, _, _, h2 => by
  have := h2 t rfl
  simp [placeOf, this]
 |t :: ts, id, i + 1, hi, h1, h2 => by
  have h := h1 0 t (Nat.succ_pos _) rfl
  have := place_at ts id i (by simpa using hi) (fun j u hj hu => h1 (j + 1) u (by omega) (by simpa using hu)) (fun u hu => h2 u (by simpa using hu))
  unfold placeOf at this ⊢
  rw [List.takeWhile_cons, if_pos (by simpa using h), List.length_cons, this]
theorem level_id {l : Lvl} (h : levelOk l = true) : 0 ≤ l.id ∧ l.id ≤ 99 := by
 unfold levelOk at h
 simp only [Bool.and_eq_true] at h
 have h2 := h.1.1.1.1.1.1.1.1.1
 simpa [inR] using h2
theorem search_place {S : Svc} {xs : List Row} {id : Int} {i : Nat} (h : validS S = true) (hxs : xs.map (·.2) = S.ts) (he : EndAt xs id i) (h1 : 0 ≤ id) (h2 : id ≤ 99) : placeOf S.ts id = i := by
 obtain ⟨e1, e2, e3⟩ := he
 have hl : xs.length = S.ts.length := by rw [← hxs, List.length_map]
 have hget : ∀ (j : Nat) (x : Row), xs[j]? = some x → S.ts[j]? = some x.2 := fun j x hx => by rw [← hxs, List.getElem?_map, hx]; rfl
 refine place_at _ _ _ (by omega) (fun j t hj ht => ?_) (fun t ht hlt => ?_)
 ·rcases e2 with e2 | ⟨x, hx, hn⟩
  ·omega
  ·have hr := valid_id h (hget _ _ hx)
   rw [wrap_small hr.1 hr.2 h1 h2] at hn
   rcases Nat.lt_or_ge j (i - 1) with hlt | hge
   ·have := valid_lt h (i - 1) j t _ hlt ht (hget _ _ hx)
    omega
   ·obtain rfl : j = i - 1 := by omega
    have h3 := hget _ _ hx
    rw [ht] at h3
    injection h3 with h3
    rw [h3]; omega
 ·rcases e3 with e3 | e3
  ·have := (List.getElem?_eq_some_iff.1 ht).1
   omega
  ·have hi : i < xs.length := by have := (List.getElem?_eq_some_iff.1 ht).1; omega
   have h3 := hget _ _ (List.getElem?_eq_getElem hi)
   rw [ht] at h3
   injection h3 with h3
   have hr := valid_id h ht
   refine e3 ⟨_, List.getElem?_eq_getElem hi, ?_⟩
   rw [← h3, wrap_small hr.1 hr.2 h1 h2]
   omega
theorem perm_nodup {A B Y : List Nat} (h : ((A ++ B) ++ Y).Nodup) : (A ++ (Y ++ B)).Nodup := by
 rw [List.append_assoc] at h
 exact (List.Perm.append_left A List.perm_append_comm).nodup_iff.1 h
theorem OwTs.insert {lo m hi n c c' k : Nat} {A A' : Option Addr} {w w' : World} {xs : List Row} {y : Row} (hT : OwTs lo m w ⟨A, n, c⟩ xs) (hy : OwT m hi w y) (hnd : (blkOf y.1.w ++ blkOf y.1.g).Nodup) (hlm : lo ≤ m) (hmh : m ≤ hi) (hw : hi ≤ w'.heap.size) (hA : 0 < c' → ∀ g, A'.map (·.block) = some g → g < w'.heap.size)
  (hO : Ow lo w' 44 12 A' (n + 1) c' ((cellsT xs).take (k * 12) ++ encT y ++ (cellsT xs).drop (k * 12))) (hg : w.grownBy w' (ownB A c)) (hn : n < 1048576) : OwTs lo w'.heap.size w' ⟨A', n + 1, c'⟩ (xs.take k ++ y :: xs.drop k) := by
 have r1 : OwR lo m w' xs := hT.rows.apart hT.1.ow hg
 have r2 : OwR m hi w' [y] := OwR.apart ⟨fun z hz => by
  obtain rfl : z = y := List.mem_singleton.1 hz
  exact hy, by rw [boxBlks_one]; exact hnd, by rw [entBlks_one]; exact blkOf_nodup _⟩ hT.1.ow hg
 have r := (r1.app r2 hlm hmh).mono (lo' := lo) (Nat.le_refl _) hw
 have hb := r.box
 have he := r.ent
 rw [← List.take_append_drop k xs, boxBlks_append, boxBlks_append] at hb
 rw [← List.take_append_drop k xs, entBlks_append, entBlks_append] at he
 refine OwTs.mk_ ⟨?_, hA⟩ ⟨fun z hz => ?_, ?_, ?_⟩ (by show n + 1 ≤ 1048576; omega)
 ·show Ow lo _ _ 12 _ _ _ (cellsX encT (xs.take k ++ y :: xs.drop k))
  rw [cellsX_append, cellsX_cons, ← List.append_assoc, ← cellsX_take encT_len, ← cellsX_drop encT_len]
  exact hO
 ·refine r.own z ?_
  rcases List.mem_append.1 hz with hz | hz
  ·exact List.mem_append_left _ (List.mem_of_mem_take hz)
  ·rcases List.mem_cons.1 hz with rfl | hz
   ·simp
   ·exact List.mem_append_left _ (List.mem_of_mem_drop hz)
 ·rw [show y :: xs.drop k = [y] ++ xs.drop k from rfl, boxBlks_append, boxBlks_append]
  exact perm_nodup hb
 ·rw [show y :: xs.drop k = [y] ++ xs.drop k from rfl, entBlks_append, entBlks_append]
  exact perm_nodup he
end Go.Proofs.YtemnlheidghbmaaGreat
namespace Go.Proofs.YtemnlheidghbmaaGreat
open Go.RowKit Go.Sort
structure Kp (q r : Nat) (a b : World) : Prop where
 size : a.heap.size ≤ b.heap.size
 block : ∀ i, i < a.heap.size → i ≠ q → i ≠ r → i ≠ r + 1 → b.heap[i]? = a.heap[i]?
section
variable {q r : Nat} {a b c : World}
theorem Kp.refl (q r : Nat) (a : World) : Kp q r a a := ⟨Nat.le_refl _, fun _ _ _ _ _ => rfl⟩
theorem Kp.trans (h : Kp q r a b) (k : Kp q r b c) : Kp q r a c := ⟨Nat.le_trans h.size k.size, fun i hi h1 h2 h3 => (k.block i (Nat.lt_of_lt_of_le hi h.size) h1 h2 h3).trans (h.block i hi h1 h2 h3)⟩
theorem Kp.of_below (h : Below a.heap.size a b) (q r : Nat) : Kp q r a b := ⟨h.size, fun i hi _ _ _ => h.block i hi⟩
theorem Kp.of_only (h : Only q a b) (r : Nat) : Kp q r a b := ⟨h.size, fun i hi h1 _ _ => h.block i hi (by intro e; injection e with e; exact h1 e)⟩
theorem Kp.of_only2 (h : Only r a b) (q : Nat) : Kp q r a b := ⟨h.size, fun i hi _ h1 _ => h.block i hi (by intro e; injection e with e; exact h1 e)⟩
theorem Kp.of_only3 (h : Only (r + 1) a b) (q : Nat) : Kp q r a b := ⟨h.size, fun i hi _ _ h1 => h.block i hi (by intro e; injection e with e; exact h1 e)⟩
end
def DS (q r : Nat) (w : World) (t k g : Sl) (S : Svc) : Prop := ∀ X, Kp q r w X → RdS X t k g S
section
variable {q r lo hi : Nat} {w w' : World} {t k g : Sl} {S : Svc}
theorem DS.rd (h : DS q r w t k g S) : RdS w t k g S := h w (Kp.refl _ _ _)
theorem DS.step (h : DS q r w t k g S) (ho : Kp q r w w') : DS q r w' t k g S := fun X hX => h X (ho.trans hX)
theorem DS.next (h : DS q r w t k g S) (hb : Below w.heap.size w w') : DS q r w' t k g S := h.step (Kp.of_below hb q r)
theorem DS.only (h : DS q r w t k g S) (ho : Only q w w') : DS q r w' t k g S := h.step (Kp.of_only ho r)
theorem OwS.keepB (h : OwS lo hi w t k g S) (hk : ∀ i, lo ≤ i → i < w.heap.size → w'.heap[i]? = w.heap[i]?) : OwS lo hi w' t k g S := by
 obtain ⟨⟨xs, e1, r1, r2, r3, r4, r5⟩, e3, e4, e5⟩ := h
 have key : ∀ {T sz n c : Nat} {A : Option Addr} {vs : List Value}, OwI lo hi w T sz A n c vs → OwI lo hi w' T sz A n c vs := fun h => h.keep fun x hx hc => hk x (h.lt hx hc).1 (h.lt hx hc).2.2
 exact ⟨⟨xs, e1, key r1, fun x hx => by
  obtain ⟨⟨q1, q2, q3⟩, q4, q5⟩ := r2 x hx
  exact ⟨⟨key q1, key q2, q3⟩, key q4, q5⟩, r3, r4, r5⟩, key e3, key e4, e5⟩
theorem OwS.only (h : OwS lo hi w t k g S) (ho : Only q w w') (hq : q < lo) : OwS lo hi w' t k g S := h.frm (Frm.of_only ho (Nat.le_refl q) (Nat.lt_succ_self q)) (.inr hq)
theorem DS.of (h : OwS lo hi w t k g S) (hq : q < lo) (hr : r + 1 < lo) : DS q r w t k g S := fun _ hX => (h.keepB fun i h1 h2 => hX.block i h2 (by omega) (by omega) (by omega)).rd
theorem Ow.apartT {B B' T T' sz sz' n n' c c' : Nat} {A A' : Option Addr} {vs vs' : List Value} (h : Ow B w T sz A n c vs) (k : Ow B' w T' sz' A' n' c' vs') (hne : T ≠ T') (hg : w.grownBy w' (ownB A' c')) : Ow B w' T sz A n c vs :=
 (OwI.apart (OwI.of h) k hne hg).1
theorem OwS.apart {B T' sz n c : Nat} {A : Option Addr} {vs : List Value} (h : OwS lo hi w t k g S) (b : Ow B w T' sz A n c vs) (h1 : 31 ≠ T') (h2 : 68 ≠ T') (h3 : 44 ≠ T') (h4 : 3 ≠ T') (hg : w.grownBy w' (ownB A c)) : OwS lo hi w' t k g S := by
 obtain ⟨⟨xs, e1, r1, r2, r3, r4, r5⟩, e3, e4, e5⟩ := h
 exact ⟨⟨xs, e1, OwI.apart r1 b h3 hg, fun x hx => by
  obtain ⟨⟨q1, q2, q3⟩, q4, q5⟩ := r2 x hx
  exact ⟨⟨OwI.apart q1 b h1 hg, OwI.apart q2 b h1 hg, q3⟩, OwI.apart q4 b h2 hg, q5⟩, r3, r4, r5⟩, OwI.apart e3 b h4 hg, OwI.apart e4 b h4 hg, e5⟩
end
abbrev LvR := Lvl × Sl × Sl
def encV (x : LvR) : List Value := (lvlC x.1 x.2.1 x.2.2).toList
theorem encV_len (x : LvR) : (encV x).length = 11 := rfl
theorem encV_one : ∀ x, ∀ u ∈ encV x, u.oneCell' = true := by
 intro x u hu
 simp [encV] at hu
 rcases hu with rfl | rfl | rfl | rfl | rfl | rfl | rfl | rfl | rfl | rfl | rfl <;> rfl
abbrev cellsV : List LvR → List Value := cellsX encV
theorem infoV : (Tryz.prog.info? 33).map (fun i => (i.zero, i.size, i.bytes)) = some (some (.agg #[.int .i64 0, .int .i64 0, .int .i64 0, .int .i64 0, .slice none 0 0, .slice none 0 0, .int .i64 0, .int .i64 0, .int .i64 0, .int .i64 0, .int .i64 0]), 11, 120) := by kernel_rfl
def OwV (B : Nat) (w : World) (A : Option Addr) (n c : Nat) (xs : List LvR) : Prop := Ow B w 33 11 A n c (cellsV xs) ∧ ∀ x ∈ xs, OwLv B w x.1 x.2.1 x.2.2
section
variable {B q n c : Nat} {w w' : World} {A : Option Addr} {xs : List LvR} {l : Lvl} {ws gs : Sl}
theorem OwLv.apart {B' T' sz : Nat} {vs : List Value} (h : OwLv B w l ws gs) (b : Ow B' w T' sz A n c vs) (hne : 31 ≠ T') (hg : w.grownBy w' (ownB A c)) : OwLv B w' l ws gs :=
 ⟨Ow.apartT h.wl b hne hg, Ow.apartT h.gt b hne hg, h.wn, h.gn, h.dj⟩
theorem OwV.next (h : OwV B w A n c xs) (hb : Below w.heap.size w w') : OwV B w' A n c xs := ⟨h.1.next hb, fun x hx => (h.2 x hx).next hb⟩
theorem OwV.only (h : OwV B w A n c xs) (ho : Only q w w') (hq : q < B) : OwV B w' A n c xs := ⟨h.1.onlyG ho hq, fun x hx => (h.2 x hx).only ho hq⟩
theorem OwV.onlyT {o T' : Nat} {cs : Array Value} (h : OwV B w A n c xs) (k : Blk w o T' cs) (h1 : 31 ≠ T') (h2 : 33 ≠ T') (ho : Only o w w') : OwV B w' A n c xs := ⟨h.1.onlyT k h2 ho, fun x hx => (h.2 x hx).onlyT k h1 ho⟩
theorem OwV.nil (B : Nat) (w : World) (A : Option Addr) : OwV B w A 0 0 [] := ⟨Ow.bare _ _ _ _ _, fun x hx => by cases hx⟩
theorem OwV.push {A' : Option Addr} {n' c' : Nat} {x : LvR} (h : OwV B w A n c xs) (hx : OwLv B w x.1 x.2.1 x.2.2) (ho : Ow B w' 33 11 A' n' c' (cellsV xs ++ cellsV [x])) (hg : w.grownBy w' (ownB A c)) : OwV B w' A' n' c' (xs ++ [x]) := by
 refine ⟨by show Ow _ _ _ _ _ _ _ (cellsX encV (xs ++ [x])); rw [cellsX_append]; exact ho, fun y hy => ?_⟩
 rcases List.mem_append.1 hy with hy | hy
 ·exact (h.2 y hy).apart h.1 (by decide) hg
 ·rw [List.mem_singleton.1 hy]
  exact hx.apart h.1 (by decide) hg
theorem OwV.len (h : OwV B w A n c xs) : xs.length = n := (h.1.rd encV_len (by omega)).len
theorem OwV.at_ (h : OwV B w A n c xs) {k : Nat} (hk : k < n) : ∃ (b : Nat) (x : LvR), A = some ⟨b, 0, none⟩ ∧ b < w.heap.size ∧ OwLv B w x.1 x.2.1 x.2.2 ∧ w.rangeAt b (k * 11) (lvlC x.1 x.2.1 x.2.2).toList := by
 obtain ⟨b, off, x, hA, hb, hx, hc⟩ := (h.1.rd encV_len (by omega)).at_ hk
 obtain ⟨g, _, hg, _⟩ := h.1.blk (Nat.lt_of_lt_of_le (show 0 < n by omega) h.1.le)
 rw [hA] at hg
 injection hg with hg
 injection hg with hg1 hg2
 subst hg1
 subst hg2
 refine ⟨b, x, hA, hb, h.2 x (List.mem_of_getElem? hx), fun j v hv => ?_⟩
 have := hc j v hv
 rwa [Nat.zero_add] at this
end
def idsOk (S : Svc) : Prop := S.ts.length ≤ 4 ∧ S.tags.length ≤ 12 ∧ ∀ t ∈ S.ts, 0 ≤ t.l.id ∧ t.l.id ≤ 99
theorem idsOk_nil {ks : List Int} : idsOk ⟨[], ks, []⟩ := ⟨by simp, by simp, fun t ht => by cases ht⟩
theorem idsOk_new (zs : List Int) : idsOk (newS zs).1 := by unfold newS; split <;> exact idsOk_nil
theorem idsOk_level {S : Svc} (h : idsOk S) (l : Lvl) : idsOk (levelS S l).1 := by
 unfold levelS
 split
 ·rename_i hv
  simp only [Bool.and_eq_true] at hv
  split
  ·exact h
  ·rename_i hn
   simp only [Bool.or_eq_true, decide_eq_true_eq, not_or] at hn
   refine ⟨?_, h.2.1, fun t ht => ?_⟩
   ·simp only [List.length_append, List.length_cons, List.length_take, List.length_drop]
    omega
   simp only [List.mem_append, List.mem_cons] at ht
   rcases ht with ht | rfl | ht
   ·exact h.2.2 t (List.mem_of_mem_take ht)
   ·exact level_id hv.2
   ·exact h.2.2 t (List.mem_of_mem_drop ht)
 ·exact idsOk_nil
theorem idsOk_acc {S : Svc} (h : idsOk S) (r : Rep) (i : Nat) (tr : Trk) (ht : S.ts[i]? = some tr) : idsOk (accS S r i tr).1 := by
 have key : ∀ es : List Ent, ∀ t ∈ S.ts.set i ⟨tr.l, es⟩, 0 ≤ t.l.id ∧ t.l.id ≤ 99 := fun es t hm => by
  rcases List.mem_or_eq_of_mem_set hm with hm | rfl
  ·exact h.2.2 t hm
  ·exact h.2.2 tr (List.mem_of_getElem? ht)
 unfold accS
 repeat' split
 all_goals first | exact h | exact ⟨by simpa using h.1, by simp; omega, key _⟩
theorem idsOk_sub {S : Svc} (h : idsOk S) (s : ByteArray) : idsOk (subS S s).1 := by
 unfold subS
 repeat' split
 all_goals first | exact h | exact idsOk_nil | exact idsOk_acc h _ _ _ (by assumption)
theorem partStep_len (ps : List Ent) (k : Int) : (partStep ps k).length ≤ ps.length + 1 := by
 unfold partStep
 split <;> (try split) <;> simp
theorem partsW_len (xs : List Inp) : (partsW xs).length ≤ xs.length := by
 have : ∀ (ys : List Inp) (ps : List Ent), (ys.foldl (fun ps x => partStep ps (codeW x)) ps).length ≤ ps.length + ys.length := by
  intro ys
  induction ys with
  | nil => intro ps; simp
  | cons y r ih =>
   intro ps
   have h1 := ih (partStep ps (codeW y))
   have h2 := partStep_len ps (codeW y)
   simp only [List.foldl_cons, List.length_cons]
   omega
 have := this xs []
 simpa [partsW] using this
theorem textW_small (r : Rep) : (textW r).size ≤ 2000 := by
 unfold textW
 split
 ·rename_i h
  obtain ⟨⟨a1, a2⟩, ⟨b1, b2⟩, ⟨c1, c2⟩, ⟨d1, d2⟩, h5, h6, h7, h8⟩ := repOk_facts h
  have hp := parts_bd r.ins h6 (by omega)
  have hpl : (partsW r.ins).length ≤ r.ins.length := partsW_len r.ins
  have f1 : (numsW [r.lv, r.pl, r.sc]).size ≤ 8 * 3 := numsW_size (by intro z hz; simp at hz; omega)
  have f2 : (numsW (flatP (partsW r.ins))).size ≤ 8 * (flatP (partsW r.ins)).length := numsW_size (by
   intro z hz
   simp only [flatP, List.mem_flatMap] at hz
   obtain ⟨e, he, hz⟩ := hz
   have := hp e he
   simp at hz
   omega)
  rw [flatP_len] at f2
  have f3 : (numsW r.hs).size ≤ 8 * r.hs.length := numsW_size (fun z hz => by have := h5 z hz; omega)
  have f4 : (numsW [r.tag]).size ≤ 8 * 1 := numsW_size (by intro z hz; simp at hz; omega)
  have e0 : sReplay.size = 6 := rfl
  have e1 : sInputs.size = 7 := rfl
  have e2 : sHashes.size = 7 := rfl
  have e3 : sTag.size = 4 := rfl
  have e4 : sEnd.size = 1 := rfl
  simp only [encW, ByteArray.size_append]
  omega
 ·simp
end Go.Proofs.YtemnlheidghbmaaGreat

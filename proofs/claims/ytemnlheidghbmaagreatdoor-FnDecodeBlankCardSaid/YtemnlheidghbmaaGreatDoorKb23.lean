/-
  Lemmas and contracts: Ic. No condition.
-/
import Derived.Test.YtemnlheidghbmaaGreatDoorKb8
import Derived.Test.YtemnlheidghbmaaGreatDoorKb13
import Derived.Test.YtemnlheidghbmaaGreatDoorKb21
import Derived.Test.YtemnlheidghbmaaGreatDoorKb22
namespace Go.Proofs.YtemnlheidghbmaaGreatDoor
open Go.RowKit Go.Sort
structure Gds (w : World) : Prop where
 tab : Lib.TabIs Tryz.prog w "internal/strconv.uint64pow10" .u64 Lib.pow10Tab
 most : ∃ m, w.cell? ⟨9, 0, none⟩ = some (.int .i64 m)
 syn : ∃ te pe, w.cell? ⟨10, 0, none⟩ = some (.iface te pe)
 rng : ∃ te pe, w.cell? ⟨11, 0, none⟩ = some (.iface te pe)
theorem tab_kept {w w' : World} {n : String} {k : IntKind} {zs : List Int} (h : Lib.TabIs Tryz.prog w n k zs) (hb : Below w.heap.size w w') : Lib.TabIs Tryz.prog w' n k zs := by
 unfold Lib.TabIs World.var? at h ⊢
 cases hg : Tryz.prog.globalNamed n with
 | none => rw [hg] at h; cases h
 | some g =>
  rw [hg] at h
  simp only [Option.bind_some] at h ⊢
  have hlt : g < w.heap.size := by
   rcases Nat.lt_or_ge g w.heap.size with h1 | h1
   ·exact h1
   ·rw [Array.getElem?_eq_none h1] at h; cases h
  rw [hb.block g hlt]
  exact h
theorem Gds.next {w w' : World} (h : Gds w) (hb : Below w.heap.size w w') : Gds w' := by
 obtain ⟨h1, ⟨m, h2⟩, ⟨t3, p3, h3⟩, ⟨t4, p4, h4⟩⟩ := h
 have c : ∀ (b : Nat) (v : Value), w.cell? ⟨b, 0, none⟩ = some v → w'.cell? ⟨b, 0, none⟩ = some v := fun b v hv => by
  rw [hb.cell (p := ⟨b, 0, none⟩) (World.block_lt_of_cell? _ _ hv)]; exact hv
 exact ⟨tab_kept h1 hb, ⟨m, c _ _ h2⟩, ⟨t3, p3, c _ _ h3⟩, ⟨t4, p4, c _ _ h4⟩⟩
theorem digB_eq (d : Nat) (h : d < 10) : digB d = ⟨#[UInt8.ofNat (48 + d)]⟩ := by
 have : ∀ d : Fin 10, digB d.1 = ⟨#[UInt8.ofNat (48 + d.1)]⟩ := by decide
 exact this ⟨d, h⟩
theorem decN_digits (n : Nat) : (⟨(Lib.decDigits n).toArray⟩ : ByteArray) = decN n := by
 induction n using Nat.strongRecOn with
 | ind n ih =>
  by_cases h : n < 10
  ·rw [Lib.decDigits, dif_pos h, decN_small h, digB_eq n h]
  ·rw [Lib.decDigits, dif_neg h, decN_big h, ← ih (n / 10) (by omega), digB_eq _ (Nat.mod_lt _ (by decide))]
   ext1
   simp
theorem itoa_any (m : Nat) (hm : m ≤ 1152921504606846976) (w : World) (hg : Gds w) :
  Calls Tryz.prog 123 #[.int .i64 m] w fun e w' => e = .returned (.string (decN m)) ∧ Below w.heap.size w w' := by
 refine (Tryz.strconv_Itoa m (by omega) (by omega) w hg.tab).mono ?_
 rintro e w' ⟨rfl, k, os, rfl⟩
 refine ⟨?_, ⟨rfl, rfl, rfl, by simp [Sort.grow, World.drewN], fun j hj => by simp [Sort.grow, World.drewN, Array.getElem?_append, hj]⟩⟩
 rw [← decN_digits]
 simp [Lib.itoa, show ¬ (m : Int) < 0 by omega]
def lnW (word : ByteArray) (zs : List Int) : ByteArray := word ++ numsW zs ++ (⟨#[10]⟩ : ByteArray)
theorem lnW_size {word : ByteArray} {zs : List Int} (h : ∀ z ∈ zs, Small z) : (lnW word zs).size ≤ word.size + 8 * zs.length + 1 := by
 have := numsW_size h
 unfold lnW
 simp only [ByteArray.size_append]
 have h4 : (⟨#[10]⟩ : ByteArray).size = 1 := rfl
 omega
set_option maxRecDepth 100000 in
set_option maxHeartbeats 2000000 in
theorem numbersLine_any (word : ByteArray) (A : Option Addr) (n c : Nat) (zs : List Int) (w : World) (hg : Gds w) (hw : word.size ≤ 1048576) (hr : RdI .i64 w A n zs) (hn : n ≤ 1048576) (hz : ∀ z ∈ zs, Small z) :
  Calls Tryz.prog 72 #[.string word, .slice A n c] w fun e w' => e = .returned (.string (lnW word zs)) ∧ Below w.heap.size w w' := by
 have HR := Lib.hid hr
 have HZ := Lib.hid hz
 have HG := Lib.hid hg
 clear hr hz hg
 go_enter Tryz.func72, Tryz.ntmps72
 go_wp2_with fail
 go_loopw [0, 9] (fun out i wr => ∃ (k : Nat) (a : ByteArray), k ≤ n ∧ i = .int .i64 k ∧ out = .string a ∧ a.size ≤ word.size + 8 * k ∧ Hid (a = word ++ numsW (zs.take k) ∧ Below w.heap.size w wr)) (fun _ i _ => n - (intOf i).toNat)
 case atStart => exact ⟨0, _, Nat.zero_le _, rfl, rfl, Nat.le_refl _, by show word = word ++ ByteArray.empty; simp, Below.refl _ _⟩
 case round =>
  obtain ⟨k, a, hk, rfl, rfl, hsz, HQ⟩ := hrel
  obtain ⟨HA, HB⟩ := HQ.out
  replace HA := Lib.hid HA
  replace HB := Lib.hid HB
  clear HQ
  by_cases hlt : k < n
  ·obtain ⟨b, off, z, hA, hb, hzk, hc⟩ := (HR.out.below HB.out).at_ hlt
   subst hA
   have hbd := HZ.out z (List.mem_of_getElem? hzk)
   obtain ⟨m, rfl⟩ := Int.eq_ofNat_of_zero_le hbd.1
   have HS := Lib.hid (numsW_succ hzk)
   have hbd2 := hbd.2
   have h3 := decN_len 6 m (by omega)
   have h4 : (⟨#[32]⟩ : ByteArray).size = 1 := rfl
   clear hzk hbd
   go_wp2_with fail
   refine (itoa_any m (by omega) _ (HG.out.next HB.out)).mono ?_
   rintro e w1 ⟨rfl, hb1⟩
   replace HB := Lib.hid (below_next HB.out hb1)
   clear hb1 hc
   go_wp2_with fail
   exact ⟨⟨k + 1, _, by omega, by go_num, rfl, by simp only [ByteArray.size_append]; omega, by rw [← HS.out, HA.out]; simp only [ByteArray.append_assoc]; rfl, HB.out⟩, by simp [intOf]; omega⟩
  ·have hkn : k = n := by omega
   subst hkn
   have HTK := Lib.hid (show zs.take k = zs from List.take_of_length_le (by rw [HR.out.len]; exact Nat.le_refl _))
   have h4 : (⟨#[10]⟩ : ByteArray).size = 1 := rfl
   go_wp2_with fail
   go_ret
   exact ⟨by rw [HA.out, HTK.out]; rfl, HB.out⟩
theorem encW_lines (r : Rep) : encW r = lnW ⟨#[114, 101, 112, 108, 97, 121]⟩ [r.lv, r.pl, r.sc] ++ lnW ⟨#[105, 110, 112, 117, 116, 115]⟩ (flatP (partsW r.ins)) ++ lnW ⟨#[104, 97, 115, 104, 101, 115]⟩ r.hs ++ lnW ⟨#[116, 97, 103]⟩ [r.tag] := by
 unfold encW lnW
 rw [show sInputs = (⟨#[10]⟩ : ByteArray) ++ ⟨#[105, 110, 112, 117, 116, 115]⟩ from rfl, show sHashes = (⟨#[10]⟩ : ByteArray) ++ ⟨#[104, 97, 115, 104, 101, 115]⟩ from rfl, show sTag = (⟨#[10]⟩ : ByteArray) ++ ⟨#[116, 97, 103]⟩ from rfl]
 simp only [ByteArray.append_assoc]
 rfl
set_option maxRecDepth 100000 in
set_option maxHeartbeats 4000000 in
theorem implReplayEncode_any (r : Rep) (si sh : Sl) (w : World) (hg : Gds w) (hr : RdR w r si sh) :
  Calls Tryz.prog 29 #[repV r si sh] w fun e w' => e = .returned (.string (textW r)) ∧ Below w.heap.size w w' := by
 obtain ⟨i0, hi0, hy0, hy1, hy2⟩ := info_parts infoZ
 have HI := Lib.hid hi0
 have HZ := Lib.hid hy0
 have HS := Lib.hid hy1
 have HBY := Lib.hid hy2
 clear hi0 hy0 hy1 hy2
 have HR := Lib.hid hr
 have HG := Lib.hid hg
 clear hr hg
 go_enter Tryz.func29, Tryz.ntmps29
 go_wp2_with fail
 refine (implReplayValid_any r si sh _ (HR.out.below (ba (Below.refl _ _)))).mono ?_
 rintro e w1 ⟨rfl, hb⟩
 have KR := Lib.hid ((Blk.new w 33 (repC r si sh)).next hb)
 have HB := Lib.hid (ba hb)
 clear hb
 have cr := fun o => KR.out.cell o
 have fr := fun o => KR.out.frozen o
 have zr := KR.out.lt
 cases ho : repOk r
 ·have HO := Lib.hid (show textW r = ByteArray.empty by simp [textW, ho])
  clear ho
  go_wp2_with fail
  go_ret
  exact ⟨by rw [HO.out]; rfl, HB.out⟩
 ·have HO := Lib.hid (show textW r = encW r by simp [textW, ho])
  have HF := Lib.hid (repOk_facts ho)
  clear ho
  go_wp2_with fail
  obtain ⟨HRI, HRH, hsi, hsh⟩ := HR.out
  refine (implReplayParts_any si.a si.n si.c r.ins _ (HRI.below HB.out) hsi.2).mono ?_
  rintro e w2 ⟨Ap, m, cp, rfl, hO, hm, hb⟩
  have hpi : partsI r.ins = partsW r.ins := by
   obtain ⟨f1, f2, f3, f4, f5, f6, f7, f8⟩ := HF.out
   have : insOk r.ins = true := by simp only [insOk, Bool.and_eq_true, List.all_eq_true, decide_eq_true_eq]; exact ⟨f6, by omega⟩
   simp [partsI, this]
  rw [hpi] at hO
  replace KR := Lib.hid (KR.out.next hb)
  have HB := Lib.hid (below_next HB.out hb)
  have HP := Lib.hid hO.rdE
  have HPL := Lib.hid (show (partsW r.ins).length = m from hO.rdE.len)
  have HM := Lib.hid (show m ≤ 60 by have h := HF.out.2.2.2.2.2.2.1; have h2 := HRI.len; omega)
  clear hO hb hpi cr fr zr hm
  go_wp2_with fail
  go_loopw [3, 13] (fun out i wr => ∃ (k m2 : Nat) (A' : Option Addr) (c' : Nat), k ≤ m ∧ m2 = 2 * k ∧ i = .int .i64 k ∧ out = .slice A' m2 c' ∧ Hid (Below w.heap.size w wr ∧ w2.heap.size ≤ wr.heap.size ∧ Blk wr w.heap.size 33 (repC r si sh) ∧ RdE wr Ap m (partsW r.ins) ∧ Ow w2.heap.size wr 3 1 A' m2 c' (cellsI (flatP ((partsW r.ins).take k))))) (fun _ i _ => m - (intOf i).toNat)
  case atStart => exact ⟨0, 0, _, 0, Nat.zero_le _, rfl, rfl, rfl, HB.out, Nat.le_refl _, KR.out, HP.out, Ow.bare _ _ _ _ _⟩
  case round =>
   obtain ⟨k, m2, A', c', hk, hm2, rfl, rfl, HQ⟩ := hrel
   obtain ⟨HB2, HWZ, KR2, HP2, HOW⟩ := HQ.out
   replace HB2 := Lib.hid HB2
   replace HWZ := Lib.hid HWZ
   replace KR2 := Lib.hid KR2
   replace HP2 := Lib.hid HP2
   replace HOW := Lib.hid HOW
   have HM2 := Lib.hid hm2
   have hmb : m2 ≤ 2097152 := by have := HM.out; omega
   clear HQ hm2
   by_cases hlt : k < m
   ·obtain ⟨g, off, e, hA2, hg, he, hc1, hc2⟩ := HP2.out.at_ hlt
    subst hA2
    have hg1 : g < w2.heap.size := by
     obtain ⟨b', off', _, h1, h2, _⟩ := HP.out.at_ hlt
     injection h1 with h1
     injection h1 with h1
     rw [h1]
     exact h2
    have HFS := Lib.hid (flatP_succ he)
    clear he
    obtain ⟨e1, e2⟩ := e
    have hwz := HWZ.out
    have hm60 := HM.out
    go_wp2_with (at_builtin; refine wpList_append_ow _ rfl (.tmp 17) (.tmp 22) _ rfl w2.heap.size 3 i0 _ 1 8 Tryz.underlying31 HI.out HZ.out HS.out HBY.out rfl (by omega) _ m2 c' _ rfl ((HOW.out.alloc _).alloc _) _ 2 2 (cellsI [e1, e2]) rfl (Src.blk (Blk.newAt _ _ _ _ (by simp)) rfl) (cellsI_one _) (by unfold maxLen; omega) (by omega) (by simp; omega) ?_; intro A2 c2 w5 hown5 hg5 _; have HO5 := Lib.hid hown5; have HG5 := Lib.hid hg5; clear hown5 hg5)
    have hrow := (HOW.out.alloc (.cells #[.int .i64 e1, .int .i64 e2] 100)).alloc (.cells #[.int .i64 e1, .int .i64 e2] 3)
    have HAL := Lib.hid (((Below.refl wr.heap.size wr).alloc (Nat.le_refl _) (.cells #[.int .i64 e1, .int .i64 e2] 100)).alloc (by simp) (.cells #[.int .i64 e1, .int .i64 e2] 3))
    have hfr : Frm w2.heap.size _ _ w5 := Frm.of_own (OwI.of hrow) HG5.out
    have hzk := KR2.out.lt
    have hsz := HB.out.size
    have hzb := KR.out.lt
    refine ⟨⟨k + 1, m2 + 2, A2, c2, by omega, by have := HM2.out; omega, by go_num, rfl, ?_, ?_, ?_, ?_, ?_⟩, by simp [intOf]; omega⟩
    ·exact hrow.grown HG5.out (HB2.out.trans (HAL.out.mono HB2.out.size)) HB.out.size (by simp; omega)
    ·have := HG5.out.size; simp at this; omega
    ·exact ((KR2.out.alloc _).alloc _).frm hfr (.inl hzb)
    ·refine (HP2.out.below HAL.out).keep hfr.size ?_
     intro ad had o
     injection had with had
     subst had
     exact hfr.cell (by simp; omega) (.inl hg1) o
    ·rw [HFS.out]
     have := HO5.out
     show Ow _ _ _ 1 _ _ _ (List.map (Value.int .i64) (_ ++ [e1, e2]))
     rw [List.map_append]
     exact this
   ·have hkm : k = m := by omega
    subst hkm
    have HLI := Lib.hid (show RdI .i64 wr A' m2 (flatP (partsW r.ins)) by
     have h1 := HOW.out.rdI
     rw [List.take_of_length_le (by rw [HPL.out]; exact Nat.le_refl _)] at h1
     exact h1)
    obtain ⟨f1, f2, f3, f4, f5, f6, f7, f8⟩ := HF.out
    have HHR := Lib.hid (HRH.below HB2.out)
    have hm2b : m2 ≤ 120 := by have h1 := HM2.out; have h2 := HM.out; omega
    have HN1 := Lib.hid (show ∀ z ∈ [r.lv, r.pl, r.sc], Small z by
     intro z hz
     simp at hz
     unfold Small
     rcases hz with rfl | rfl | rfl <;> omega)
    have HN4 := Lib.hid (show ∀ z ∈ [r.tag], Small z by
     intro z hz
     unfold Small
     rw [List.mem_singleton.1 hz]
     omega)
    have HN3 := Lib.hid (show ∀ z ∈ r.hs, Small z by
     intro z hz
     have := f5 z hz
     unfold Small
     omega)
    have HN2 := Lib.hid (show ∀ z ∈ flatP (partsW r.ins), Small z by
     intro z hz
     simp only [flatP, List.mem_flatMap] at hz
     obtain ⟨e, he, hz⟩ := hz
     have := parts_bd r.ins f6 (by omega) e he
     simp at hz
     unfold Small
     rcases hz with rfl | rfl <;> omega)
    have hl3 : r.hs.length = sh.n := HRH.len
    have hi3 : r.ins.length = si.n := HRI.len
    have hn3 : sh.n ≤ 12 := by omega
    have HHS := Lib.hid hn3
    have z1 : (lnW ⟨#[114, 101, 112, 108, 97, 121]⟩ [r.lv, r.pl, r.sc]).size ≤ 6 + 8 * 3 + 1 := lnW_size HN1.out
    have z2 : (lnW ⟨#[105, 110, 112, 117, 116, 115]⟩ (flatP (partsW r.ins))).size ≤ 6 + 8 * m2 + 1 := by rw [← HLI.out.len]; exact lnW_size HN2.out
    have z3 : (lnW ⟨#[104, 97, 115, 104, 101, 115]⟩ r.hs).size ≤ 6 + 8 * r.hs.length + 1 := lnW_size HN3.out
    have z4 : (lnW ⟨#[116, 97, 103]⟩ [r.tag]).size ≤ 3 + 8 * 1 + 1 := lnW_size HN4.out
    have HE := Lib.hid (encW_lines r)
    obtain ⟨B1, e1⟩ : ∃ B, lnW ⟨#[114, 101, 112, 108, 97, 121]⟩ [r.lv, r.pl, r.sc] = B := ⟨_, rfl⟩
    obtain ⟨B2, e2⟩ : ∃ B, lnW ⟨#[105, 110, 112, 117, 116, 115]⟩ (flatP (partsW r.ins)) = B := ⟨_, rfl⟩
    obtain ⟨B3, e3⟩ : ∃ B, lnW ⟨#[104, 97, 115, 104, 101, 115]⟩ r.hs = B := ⟨_, rfl⟩
    obtain ⟨B4, e4⟩ : ∃ B, lnW ⟨#[116, 97, 103]⟩ [r.tag] = B := ⟨_, rfl⟩
    rw [e1, e2, e3, e4] at HE
    rw [e1] at z1
    rw [e2] at z2
    rw [e3] at z3
    rw [e4] at z4
    have EB1 := Lib.hid e1
    have EB2 := Lib.hid e2
    have EB3 := Lib.hid e3
    have EB4 := Lib.hid e4
    obtain ⟨T1, t1⟩ : ∃ T, B1 ++ B2 = T := ⟨_, rfl⟩
    have y1 : T1.size = B1.size + B2.size := by rw [← t1, ByteArray.size_append]
    have x1 : ¬ 9223372036854775807 < B1.size + B2.size := by omega
    obtain ⟨T2, t2⟩ : ∃ T, T1 ++ B3 = T := ⟨_, rfl⟩
    have y2 : T2.size = T1.size + B3.size := by rw [← t2, ByteArray.size_append]
    have x2 : ¬ 9223372036854775807 < T1.size + B3.size := by omega
    obtain ⟨T3, t3⟩ : ∃ T, T2 ++ B4 = T := ⟨_, rfl⟩
    have x3 : ¬ 9223372036854775807 < T2.size + B4.size := by omega
    replace HE := Lib.hid (show encW r = T3 by rw [HE.out, t1, t2, t3])
    clear e1 e2 e3 e4 hl3 hi3 y1 y2 z1 z2 z3 z4 f1 f2 f3 f4 f5 f6 f7 f8
    have HGW := Lib.hid (HG.out.next HB2.out)
    go_upto_region 9 with (fail)
    refine wp_region_grow 20 (by kernel_rfl) (by kernel_rfl) (by kernel_rfl) (fun a b => Below a.heap.size a b) (fun mq w' => Below wr.heap.size wr w') (fun iq v w' => match iq with | 0 => (v = .pointer (some ⟨w.heap.size, 0, none⟩)) | 1 => (v = .int .i64 r.lv) | 2 => (v = .pointer (some ⟨w.heap.size, 1, none⟩)) | 3 => (v = .int .i64 r.pl) | 4 => (v = .pointer (some ⟨w.heap.size, 2, none⟩)) | 5 => (v = .int .i64 r.sc) | 6 => (∃ g2, v = .slice (some ⟨g2, 0, none⟩) 3 3 ∧ Blk w' g2 3 #[.int .i64 r.lv, .int .i64 r.pl, .int .i64 r.sc]) | 7 => (v = .string B1) | 8 => (v = .slice A' m2 c') | 9 => (v = .string B2) | 10 => (v = .string T1) | 11 => (v = .pointer (some ⟨w.heap.size, 4, none⟩)) | 12 => (v = .slice sh.a sh.n sh.c) | 13 => (v = .string B3) | 14 => (v = .string T2) | 15 => (v = .pointer (some ⟨w.heap.size, 5, none⟩)) | 16 => (v = .int .i64 r.tag) | 17 => (∃ g2, v = .slice (some ⟨g2, 0, none⟩) 1 1 ∧ Blk w' g2 3 #[.int .i64 r.tag]) | 18 => (v = .string B4) | 19 => (v = .string T3) | _ => True) (fun sq => { tmps := #[repV r si sh, .pointer (some ⟨w.heap.size, 0, none⟩), .string { data := #[] }, .slice A' m2 c', undef, u5, .agg #[.int .i64 r.lv, .int .i64 r.pl, .int .i64 r.sc, .slice si.a si.n si.c, .slice sh.a sh.n sh.c, .int .i64 r.tag], .bool true, .bool false, .pointer (some ⟨w.heap.size, 3, none⟩), .slice si.a si.n si.c, .slice Ap k cp, .int .i64 (k : Int), .int .i64 (k : Int), .bool false, u15, u16, u17, u18, u19, u20, u21, u22, u23, u24, sq 0, sq 1, sq 2, sq 3, sq 4, sq 5, sq 6, sq 7, sq 8, sq 9, sq 10, sq 11, sq 12, sq 13, sq 14, sq 15, sq 16, sq 17, sq 18, sq 19], defers := [] }) (fun _ => undef) ?_ ?_ ?_ ?_
    ·rintro iq v a b hg h
     match iq, h with
     | 0, h => exact h
     | 1, h => exact h
     | 2, h => exact h
     | 3, h => exact h
     | 4, h => exact h
     | 5, h => exact h
     | 6, h => exact (by obtain ⟨g2, rfl, h2⟩ := h; exact ⟨g2, rfl, h2.next hg⟩)
     | 7, h => exact h
     | 8, h => exact h
     | 9, h => exact h
     | 10, h => exact h
     | 11, h => exact h
     | 12, h => exact h
     | 13, h => exact h
     | 14, h => exact h
     | 15, h => exact h
     | 16, h => exact h
     | 17, h => exact (by obtain ⟨g2, rfl, h2⟩ := h; exact ⟨g2, rfl, h2.next hg⟩)
     | 18, h => exact h
     | 19, h => exact h
     | (kq + 20), _ => exact trivial
    ·exact ⟨rfl, rfl, rfl, Nat.le_refl _, fun _ _ => rfl⟩
    ·intro mq sq w' iq oq hmq hiq hoq hJ hd Kq hK
     have hiq' : iq = 0 ∨ iq = 1 ∨ iq = 2 ∨ iq = 3 ∨ iq = 4 ∨ iq = 5 ∨ iq = 6 ∨ iq = 7 ∨ iq = 8 ∨ iq = 9 ∨ iq = 10 ∨ iq = 11 ∨ iq = 12 ∨ iq = 13 ∨ iq = 14 ∨ iq = 15 ∨ iq = 16 ∨ iq = 17 ∨ iq = 18 ∨ iq = 19 := by omega
     rcases hiq' with rfl | rfl | rfl | rfl | rfl | rfl | rfl | rfl | rfl | rfl | rfl | rfl | rfl | rfl | rfl | rfl | rfl | rfl | rfl | rfl
     ·cases (show some _ = some oq from hoq)
      have hK' := hK
      simp only [updV, Nat.reduceEqDiff, ↓reduceIte] at hK'
      clear hK hd
      generalize sq 0 = x0 at *
      generalize sq 1 = x1 at *
      generalize sq 2 = x2 at *
      generalize sq 3 = x3 at *
      generalize sq 4 = x4 at *
      generalize sq 5 = x5 at *
      generalize sq 6 = x6 at *
      generalize sq 7 = x7 at *
      generalize sq 8 = x8 at *
      generalize sq 9 = x9 at *
      generalize sq 10 = x10 at *
      generalize sq 11 = x11 at *
      generalize sq 12 = x12 at *
      generalize sq 13 = x13 at *
      generalize sq 14 = x14 at *
      generalize sq 15 = x15 at *
      generalize sq 16 = x16 at *
      generalize sq 17 = x17 at *
      generalize sq 18 = x18 at *
      generalize sq 19 = x19 at *
      go_simp
      exact hK' _ _ (Below.refl _ _) hJ rfl
     ·cases (show some _ = some oq from hoq)
      have d0 := hd 0 (by kernel_rfl) (by decide)
      have hK' := hK
      simp only [updV, Nat.reduceEqDiff, ↓reduceIte] at hK'
      clear hK hd
      generalize sq 0 = x0 at *
      generalize sq 1 = x1 at *
      generalize sq 2 = x2 at *
      generalize sq 3 = x3 at *
      generalize sq 4 = x4 at *
      generalize sq 5 = x5 at *
      generalize sq 6 = x6 at *
      generalize sq 7 = x7 at *
      generalize sq 8 = x8 at *
      generalize sq 9 = x9 at *
      generalize sq 10 = x10 at *
      generalize sq 11 = x11 at *
      generalize sq 12 = x12 at *
      generalize sq 13 = x13 at *
      generalize sq 14 = x14 at *
      generalize sq 15 = x15 at *
      generalize sq 16 = x16 at *
      generalize sq 17 = x17 at *
      generalize sq 18 = x18 at *
      generalize sq 19 = x19 at *
      obtain rfl := d0
      have hcc := (KR2.out.next hJ).cell 0
      go_simp
      exact hK' _ _ (Below.refl _ _) hJ rfl
     ·cases (show some _ = some oq from hoq)
      have hK' := hK
      simp only [updV, Nat.reduceEqDiff, ↓reduceIte] at hK'
      clear hK hd
      generalize sq 0 = x0 at *
      generalize sq 1 = x1 at *
      generalize sq 2 = x2 at *
      generalize sq 3 = x3 at *
      generalize sq 4 = x4 at *
      generalize sq 5 = x5 at *
      generalize sq 6 = x6 at *
      generalize sq 7 = x7 at *
      generalize sq 8 = x8 at *
      generalize sq 9 = x9 at *
      generalize sq 10 = x10 at *
      generalize sq 11 = x11 at *
      generalize sq 12 = x12 at *
      generalize sq 13 = x13 at *
      generalize sq 14 = x14 at *
      generalize sq 15 = x15 at *
      generalize sq 16 = x16 at *
      generalize sq 17 = x17 at *
      generalize sq 18 = x18 at *
      generalize sq 19 = x19 at *
      go_simp
      exact hK' _ _ (Below.refl _ _) hJ rfl
     ·cases (show some _ = some oq from hoq)
      have d2 := hd 2 (by kernel_rfl) (by decide)
      have hK' := hK
      simp only [updV, Nat.reduceEqDiff, ↓reduceIte] at hK'
      clear hK hd
      generalize sq 0 = x0 at *
      generalize sq 1 = x1 at *
      generalize sq 2 = x2 at *
      generalize sq 3 = x3 at *
      generalize sq 4 = x4 at *
      generalize sq 5 = x5 at *
      generalize sq 6 = x6 at *
      generalize sq 7 = x7 at *
      generalize sq 8 = x8 at *
      generalize sq 9 = x9 at *
      generalize sq 10 = x10 at *
      generalize sq 11 = x11 at *
      generalize sq 12 = x12 at *
      generalize sq 13 = x13 at *
      generalize sq 14 = x14 at *
      generalize sq 15 = x15 at *
      generalize sq 16 = x16 at *
      generalize sq 17 = x17 at *
      generalize sq 18 = x18 at *
      generalize sq 19 = x19 at *
      obtain rfl := d2
      have hcc := (KR2.out.next hJ).cell 1
      go_simp
      exact hK' _ _ (Below.refl _ _) hJ rfl
     ·cases (show some _ = some oq from hoq)
      have hK' := hK
      simp only [updV, Nat.reduceEqDiff, ↓reduceIte] at hK'
      clear hK hd
      generalize sq 0 = x0 at *
      generalize sq 1 = x1 at *
      generalize sq 2 = x2 at *
      generalize sq 3 = x3 at *
      generalize sq 4 = x4 at *
      generalize sq 5 = x5 at *
      generalize sq 6 = x6 at *
      generalize sq 7 = x7 at *
      generalize sq 8 = x8 at *
      generalize sq 9 = x9 at *
      generalize sq 10 = x10 at *
      generalize sq 11 = x11 at *
      generalize sq 12 = x12 at *
      generalize sq 13 = x13 at *
      generalize sq 14 = x14 at *
      generalize sq 15 = x15 at *
      generalize sq 16 = x16 at *
      generalize sq 17 = x17 at *
      generalize sq 18 = x18 at *
      generalize sq 19 = x19 at *
      go_simp
      exact hK' _ _ (Below.refl _ _) hJ rfl
     ·cases (show some _ = some oq from hoq)
      have d4 := hd 4 (by kernel_rfl) (by decide)
      have hK' := hK
      simp only [updV, Nat.reduceEqDiff, ↓reduceIte] at hK'
      clear hK hd
      generalize sq 0 = x0 at *
      generalize sq 1 = x1 at *
      generalize sq 2 = x2 at *
      generalize sq 3 = x3 at *
      generalize sq 4 = x4 at *
      generalize sq 5 = x5 at *
      generalize sq 6 = x6 at *
      generalize sq 7 = x7 at *
      generalize sq 8 = x8 at *
      generalize sq 9 = x9 at *
      generalize sq 10 = x10 at *
      generalize sq 11 = x11 at *
      generalize sq 12 = x12 at *
      generalize sq 13 = x13 at *
      generalize sq 14 = x14 at *
      generalize sq 15 = x15 at *
      generalize sq 16 = x16 at *
      generalize sq 17 = x17 at *
      generalize sq 18 = x18 at *
      generalize sq 19 = x19 at *
      obtain rfl := d4
      have hcc := (KR2.out.next hJ).cell 2
      go_simp
      exact hK' _ _ (Below.refl _ _) hJ rfl
     ·cases (show some _ = some oq from hoq)
      have d1 := hd 1 (by kernel_rfl) (by decide)
      have d3 := hd 3 (by kernel_rfl) (by decide)
      have d5 := hd 5 (by kernel_rfl) (by decide)
      have hK' := hK
      simp only [updV, Nat.reduceEqDiff, ↓reduceIte] at hK'
      clear hK hd
      generalize sq 0 = x0 at *
      generalize sq 1 = x1 at *
      generalize sq 2 = x2 at *
      generalize sq 3 = x3 at *
      generalize sq 4 = x4 at *
      generalize sq 5 = x5 at *
      generalize sq 6 = x6 at *
      generalize sq 7 = x7 at *
      generalize sq 8 = x8 at *
      generalize sq 9 = x9 at *
      generalize sq 10 = x10 at *
      generalize sq 11 = x11 at *
      generalize sq 12 = x12 at *
      generalize sq 13 = x13 at *
      generalize sq 14 = x14 at *
      generalize sq 15 = x15 at *
      generalize sq 16 = x16 at *
      generalize sq 17 = x17 at *
      generalize sq 18 = x18 at *
      generalize sq 19 = x19 at *
      obtain rfl := d1
      obtain rfl := d3
      obtain rfl := d5
      go_simp
      exact hK' _ _ (ba (Below.refl _ _)) (hJ.alloc hJ.size _) ⟨_, rfl, Blk.new _ _ _⟩
     ·cases (show some _ = some oq from hoq)
      have d6 := hd 6 (by kernel_rfl) (by decide)
      have hK' := hK
      simp only [updV, Nat.reduceEqDiff, ↓reduceIte] at hK'
      clear hK hd
      generalize sq 0 = x0 at *
      generalize sq 1 = x1 at *
      generalize sq 2 = x2 at *
      generalize sq 3 = x3 at *
      generalize sq 4 = x4 at *
      generalize sq 5 = x5 at *
      generalize sq 6 = x6 at *
      generalize sq 7 = x7 at *
      generalize sq 8 = x8 at *
      generalize sq 9 = x9 at *
      generalize sq 10 = x10 at *
      generalize sq 11 = x11 at *
      generalize sq 12 = x12 at *
      generalize sq 13 = x13 at *
      generalize sq 14 = x14 at *
      generalize sq 15 = x15 at *
      generalize sq 16 = x16 at *
      generalize sq 17 = x17 at *
      generalize sq 18 = x18 at *
      generalize sq 19 = x19 at *
      obtain ⟨g2, rfl, hg2⟩ := d6
      go_simp
      refine (numbersLine_any ⟨#[114, 101, 112, 108, 97, 121]⟩ (some ⟨g2, 0, none⟩) 3 3 [r.lv, r.pl, r.sc] w' (HGW.out.next hJ) (by decide) (RdI.blk hg2) (by omega) HN1.out).mono ?_
      rintro e w2 ⟨rfl, hb⟩
      rw [EB1.out]
      exact hK' _ _ hb (below_next hJ hb) rfl
     ·cases (show some _ = some oq from hoq)
      have hK' := hK
      simp only [updV, Nat.reduceEqDiff, ↓reduceIte] at hK'
      clear hK hd
      generalize sq 0 = x0 at *
      generalize sq 1 = x1 at *
      generalize sq 2 = x2 at *
      generalize sq 3 = x3 at *
      generalize sq 4 = x4 at *
      generalize sq 5 = x5 at *
      generalize sq 6 = x6 at *
      generalize sq 7 = x7 at *
      generalize sq 8 = x8 at *
      generalize sq 9 = x9 at *
      generalize sq 10 = x10 at *
      generalize sq 11 = x11 at *
      generalize sq 12 = x12 at *
      generalize sq 13 = x13 at *
      generalize sq 14 = x14 at *
      generalize sq 15 = x15 at *
      generalize sq 16 = x16 at *
      generalize sq 17 = x17 at *
      generalize sq 18 = x18 at *
      generalize sq 19 = x19 at *
      go_simp
      exact hK' _ _ (Below.refl _ _) hJ rfl
     ·cases (show some _ = some oq from hoq)
      have d8 := hd 8 (by kernel_rfl) (by decide)
      have hK' := hK
      simp only [updV, Nat.reduceEqDiff, ↓reduceIte] at hK'
      clear hK hd
      generalize sq 0 = x0 at *
      generalize sq 1 = x1 at *
      generalize sq 2 = x2 at *
      generalize sq 3 = x3 at *
      generalize sq 4 = x4 at *
      generalize sq 5 = x5 at *
      generalize sq 6 = x6 at *
      generalize sq 7 = x7 at *
      generalize sq 8 = x8 at *
      generalize sq 9 = x9 at *
      generalize sq 10 = x10 at *
      generalize sq 11 = x11 at *
      generalize sq 12 = x12 at *
      generalize sq 13 = x13 at *
      generalize sq 14 = x14 at *
      generalize sq 15 = x15 at *
      generalize sq 16 = x16 at *
      generalize sq 17 = x17 at *
      generalize sq 18 = x18 at *
      generalize sq 19 = x19 at *
      obtain rfl := d8
      go_simp
      refine (numbersLine_any ⟨#[105, 110, 112, 117, 116, 115]⟩ A' m2 c' (flatP (partsW r.ins)) w' (HGW.out.next hJ) (by decide) (RdI.below HLI.out hJ) (by omega) HN2.out).mono ?_
      rintro e w2 ⟨rfl, hb⟩
      rw [EB2.out]
      exact hK' _ _ hb (below_next hJ hb) rfl
     ·cases (show some _ = some oq from hoq)
      have d7 := hd 7 (by kernel_rfl) (by decide)
      have d9 := hd 9 (by kernel_rfl) (by decide)
      have hK' := hK
      simp only [updV, Nat.reduceEqDiff, ↓reduceIte] at hK'
      clear hK hd
      generalize sq 0 = x0 at *
      generalize sq 1 = x1 at *
      generalize sq 2 = x2 at *
      generalize sq 3 = x3 at *
      generalize sq 4 = x4 at *
      generalize sq 5 = x5 at *
      generalize sq 6 = x6 at *
      generalize sq 7 = x7 at *
      generalize sq 8 = x8 at *
      generalize sq 9 = x9 at *
      generalize sq 10 = x10 at *
      generalize sq 11 = x11 at *
      generalize sq 12 = x12 at *
      generalize sq 13 = x13 at *
      generalize sq 14 = x14 at *
      generalize sq 15 = x15 at *
      generalize sq 16 = x16 at *
      generalize sq 17 = x17 at *
      generalize sq 18 = x18 at *
      generalize sq 19 = x19 at *
      obtain rfl := d7
      obtain rfl := d9
      go_simp
      exact hK' _ _ (Below.refl _ _) hJ rfl
     ·cases (show some _ = some oq from hoq)
      have hK' := hK
      simp only [updV, Nat.reduceEqDiff, ↓reduceIte] at hK'
      clear hK hd
      generalize sq 0 = x0 at *
      generalize sq 1 = x1 at *
      generalize sq 2 = x2 at *
      generalize sq 3 = x3 at *
      generalize sq 4 = x4 at *
      generalize sq 5 = x5 at *
      generalize sq 6 = x6 at *
      generalize sq 7 = x7 at *
      generalize sq 8 = x8 at *
      generalize sq 9 = x9 at *
      generalize sq 10 = x10 at *
      generalize sq 11 = x11 at *
      generalize sq 12 = x12 at *
      generalize sq 13 = x13 at *
      generalize sq 14 = x14 at *
      generalize sq 15 = x15 at *
      generalize sq 16 = x16 at *
      generalize sq 17 = x17 at *
      generalize sq 18 = x18 at *
      generalize sq 19 = x19 at *
      go_simp
      exact hK' _ _ (Below.refl _ _) hJ rfl
     ·cases (show some _ = some oq from hoq)
      have d11 := hd 11 (by kernel_rfl) (by decide)
      have hK' := hK
      simp only [updV, Nat.reduceEqDiff, ↓reduceIte] at hK'
      clear hK hd
      generalize sq 0 = x0 at *
      generalize sq 1 = x1 at *
      generalize sq 2 = x2 at *
      generalize sq 3 = x3 at *
      generalize sq 4 = x4 at *
      generalize sq 5 = x5 at *
      generalize sq 6 = x6 at *
      generalize sq 7 = x7 at *
      generalize sq 8 = x8 at *
      generalize sq 9 = x9 at *
      generalize sq 10 = x10 at *
      generalize sq 11 = x11 at *
      generalize sq 12 = x12 at *
      generalize sq 13 = x13 at *
      generalize sq 14 = x14 at *
      generalize sq 15 = x15 at *
      generalize sq 16 = x16 at *
      generalize sq 17 = x17 at *
      generalize sq 18 = x18 at *
      generalize sq 19 = x19 at *
      obtain rfl := d11
      have hcc := (KR2.out.next hJ).cell 4
      go_simp
      exact hK' _ _ (Below.refl _ _) hJ rfl
     ·cases (show some _ = some oq from hoq)
      have d12 := hd 12 (by kernel_rfl) (by decide)
      have hK' := hK
      simp only [updV, Nat.reduceEqDiff, ↓reduceIte] at hK'
      clear hK hd
      generalize sq 0 = x0 at *
      generalize sq 1 = x1 at *
      generalize sq 2 = x2 at *
      generalize sq 3 = x3 at *
      generalize sq 4 = x4 at *
      generalize sq 5 = x5 at *
      generalize sq 6 = x6 at *
      generalize sq 7 = x7 at *
      generalize sq 8 = x8 at *
      generalize sq 9 = x9 at *
      generalize sq 10 = x10 at *
      generalize sq 11 = x11 at *
      generalize sq 12 = x12 at *
      generalize sq 13 = x13 at *
      generalize sq 14 = x14 at *
      generalize sq 15 = x15 at *
      generalize sq 16 = x16 at *
      generalize sq 17 = x17 at *
      generalize sq 18 = x18 at *
      generalize sq 19 = x19 at *
      obtain rfl := d12
      go_simp
      refine (numbersLine_any ⟨#[104, 97, 115, 104, 101, 115]⟩ sh.a sh.n sh.c r.hs w' (HGW.out.next hJ) (by decide) (HHR.out.below hJ) (by have := HHS.out; omega) HN3.out).mono ?_
      rintro e w2 ⟨rfl, hb⟩
      rw [EB3.out]
      exact hK' _ _ hb (below_next hJ hb) rfl
     ·cases (show some _ = some oq from hoq)
      have d10 := hd 10 (by kernel_rfl) (by decide)
      have d13 := hd 13 (by kernel_rfl) (by decide)
      have hK' := hK
      simp only [updV, Nat.reduceEqDiff, ↓reduceIte] at hK'
      clear hK hd
      generalize sq 0 = x0 at *
      generalize sq 1 = x1 at *
      generalize sq 2 = x2 at *
      generalize sq 3 = x3 at *
      generalize sq 4 = x4 at *
      generalize sq 5 = x5 at *
      generalize sq 6 = x6 at *
      generalize sq 7 = x7 at *
      generalize sq 8 = x8 at *
      generalize sq 9 = x9 at *
      generalize sq 10 = x10 at *
      generalize sq 11 = x11 at *
      generalize sq 12 = x12 at *
      generalize sq 13 = x13 at *
      generalize sq 14 = x14 at *
      generalize sq 15 = x15 at *
      generalize sq 16 = x16 at *
      generalize sq 17 = x17 at *
      generalize sq 18 = x18 at *
      generalize sq 19 = x19 at *
      obtain rfl := d10
      obtain rfl := d13
      go_simp
      exact hK' _ _ (Below.refl _ _) hJ rfl
     ·cases (show some _ = some oq from hoq)
      have hK' := hK
      simp only [updV, Nat.reduceEqDiff, ↓reduceIte] at hK'
      clear hK hd
      generalize sq 0 = x0 at *
      generalize sq 1 = x1 at *
      generalize sq 2 = x2 at *
      generalize sq 3 = x3 at *
      generalize sq 4 = x4 at *
      generalize sq 5 = x5 at *
      generalize sq 6 = x6 at *
      generalize sq 7 = x7 at *
      generalize sq 8 = x8 at *
      generalize sq 9 = x9 at *
      generalize sq 10 = x10 at *
      generalize sq 11 = x11 at *
      generalize sq 12 = x12 at *
      generalize sq 13 = x13 at *
      generalize sq 14 = x14 at *
      generalize sq 15 = x15 at *
      generalize sq 16 = x16 at *
      generalize sq 17 = x17 at *
      generalize sq 18 = x18 at *
      generalize sq 19 = x19 at *
      go_simp
      exact hK' _ _ (Below.refl _ _) hJ rfl
     ·cases (show some _ = some oq from hoq)
      have d15 := hd 15 (by kernel_rfl) (by decide)
      have hK' := hK
      simp only [updV, Nat.reduceEqDiff, ↓reduceIte] at hK'
      clear hK hd
      generalize sq 0 = x0 at *
      generalize sq 1 = x1 at *
      generalize sq 2 = x2 at *
      generalize sq 3 = x3 at *
      generalize sq 4 = x4 at *
      generalize sq 5 = x5 at *
      generalize sq 6 = x6 at *
      generalize sq 7 = x7 at *
      generalize sq 8 = x8 at *
      generalize sq 9 = x9 at *
      generalize sq 10 = x10 at *
      generalize sq 11 = x11 at *
      generalize sq 12 = x12 at *
      generalize sq 13 = x13 at *
      generalize sq 14 = x14 at *
      generalize sq 15 = x15 at *
      generalize sq 16 = x16 at *
      generalize sq 17 = x17 at *
      generalize sq 18 = x18 at *
      generalize sq 19 = x19 at *
      obtain rfl := d15
      have hcc := (KR2.out.next hJ).cell 5
      go_simp
      exact hK' _ _ (Below.refl _ _) hJ rfl
     ·cases (show some _ = some oq from hoq)
      have d16 := hd 16 (by kernel_rfl) (by decide)
      have hK' := hK
      simp only [updV, Nat.reduceEqDiff, ↓reduceIte] at hK'
      clear hK hd
      generalize sq 0 = x0 at *
      generalize sq 1 = x1 at *
      generalize sq 2 = x2 at *
      generalize sq 3 = x3 at *
      generalize sq 4 = x4 at *
      generalize sq 5 = x5 at *
      generalize sq 6 = x6 at *
      generalize sq 7 = x7 at *
      generalize sq 8 = x8 at *
      generalize sq 9 = x9 at *
      generalize sq 10 = x10 at *
      generalize sq 11 = x11 at *
      generalize sq 12 = x12 at *
      generalize sq 13 = x13 at *
      generalize sq 14 = x14 at *
      generalize sq 15 = x15 at *
      generalize sq 16 = x16 at *
      generalize sq 17 = x17 at *
      generalize sq 18 = x18 at *
      generalize sq 19 = x19 at *
      obtain rfl := d16
      go_simp
      exact hK' _ _ (ba (Below.refl _ _)) (hJ.alloc hJ.size _) ⟨_, rfl, Blk.new _ _ _⟩
     ·cases (show some _ = some oq from hoq)
      have d17 := hd 17 (by kernel_rfl) (by decide)
      have hK' := hK
      simp only [updV, Nat.reduceEqDiff, ↓reduceIte] at hK'
      clear hK hd
      generalize sq 0 = x0 at *
      generalize sq 1 = x1 at *
      generalize sq 2 = x2 at *
      generalize sq 3 = x3 at *
      generalize sq 4 = x4 at *
      generalize sq 5 = x5 at *
      generalize sq 6 = x6 at *
      generalize sq 7 = x7 at *
      generalize sq 8 = x8 at *
      generalize sq 9 = x9 at *
      generalize sq 10 = x10 at *
      generalize sq 11 = x11 at *
      generalize sq 12 = x12 at *
      generalize sq 13 = x13 at *
      generalize sq 14 = x14 at *
      generalize sq 15 = x15 at *
      generalize sq 16 = x16 at *
      generalize sq 17 = x17 at *
      generalize sq 18 = x18 at *
      generalize sq 19 = x19 at *
      obtain ⟨g2, rfl, hg2⟩ := d17
      go_simp
      refine (numbersLine_any ⟨#[116, 97, 103]⟩ (some ⟨g2, 0, none⟩) 1 1 [r.tag] w' (HGW.out.next hJ) (by decide) (RdI.blk hg2) (by omega) HN4.out).mono ?_
      rintro e w2 ⟨rfl, hb⟩
      rw [EB4.out]
      exact hK' _ _ hb (below_next hJ hb) rfl
     ·cases (show some _ = some oq from hoq)
      have d14 := hd 14 (by kernel_rfl) (by decide)
      have d18 := hd 18 (by kernel_rfl) (by decide)
      have hK' := hK
      simp only [updV, Nat.reduceEqDiff, ↓reduceIte] at hK'
      clear hK hd
      generalize sq 0 = x0 at *
      generalize sq 1 = x1 at *
      generalize sq 2 = x2 at *
      generalize sq 3 = x3 at *
      generalize sq 4 = x4 at *
      generalize sq 5 = x5 at *
      generalize sq 6 = x6 at *
      generalize sq 7 = x7 at *
      generalize sq 8 = x8 at *
      generalize sq 9 = x9 at *
      generalize sq 10 = x10 at *
      generalize sq 11 = x11 at *
      generalize sq 12 = x12 at *
      generalize sq 13 = x13 at *
      generalize sq 14 = x14 at *
      generalize sq 15 = x15 at *
      generalize sq 16 = x16 at *
      generalize sq 17 = x17 at *
      generalize sq 18 = x18 at *
      generalize sq 19 = x19 at *
      obtain rfl := d14
      obtain rfl := d18
      go_simp
      exact hK' _ _ (Below.refl _ _) hJ rfl
    ·intro sq w' hJ hφ
     simp only [List.drop_succ_cons, List.drop_zero]
     have d19 := hφ 19 (by decide)
     clear hφ
     generalize sq 0 = x0 at *
     generalize sq 1 = x1 at *
     generalize sq 2 = x2 at *
     generalize sq 3 = x3 at *
     generalize sq 4 = x4 at *
     generalize sq 5 = x5 at *
     generalize sq 6 = x6 at *
     generalize sq 7 = x7 at *
     generalize sq 8 = x8 at *
     generalize sq 9 = x9 at *
     generalize sq 10 = x10 at *
     generalize sq 11 = x11 at *
     generalize sq 12 = x12 at *
     generalize sq 13 = x13 at *
     generalize sq 14 = x14 at *
     generalize sq 15 = x15 at *
     generalize sq 16 = x16 at *
     generalize sq 17 = x17 at *
     generalize sq 18 = x18 at *
     generalize sq 19 = x19 at *
     obtain rfl := d19
     have hb := HB2.out.trans (hJ.mono (show w.heap.size ≤ wr.heap.size from HB2.out.size))
     have HBF := Lib.hid hb
     clear hJ hb
     go_wp2_with fail
     go_ret
     exact ⟨by rw [HO.out, HE.out]; rfl, HBF.out⟩
end Go.Proofs.YtemnlheidghbmaaGreatDoor

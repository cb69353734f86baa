/-
  FnServiceLevel returns true for every code, and nothing that was there is written. No condition.
-/
import Derived.Test.YtemnlheidghbmaaGreatKc2
import Derived.Test.YtemnlheidghbmaaGreatKc13
import Derived.Test.YtemnlheidghbmaaGreatKc22
import Derived.Test.YtemnlheidghbmaaGreatKc33
import Derived.Test.YtemnlheidghbmaaGreatKc37
import Derived.Test.YtemnlheidghbmaaGreatKc38
namespace Go.Proofs.YtemnlheidghbmaaGreat.fnServiceLevel
open Go.RowKit Go.ChangeShapes Go.WideShapes Go.ChangeAt
set_option linter.unusedVariables false
set_option maxRecDepth 100000 in
set_option maxHeartbeats 8000000 in
theorem walk (a0 : Option Addr) (len0 cap0 : Nat) (z0 : List Int) (w : World) (w0 : BytesIn w a0 len0 cap0 z0) :
  Calls Tryz.prog 4 #[.slice a0 len0 cap0] w fun e w' => e = .returned (.bool true) ∧ Below w.heap.size w w' := by
 have hz := w0.bd
 obtain ⟨hr, hlc, hcm, _⟩ := w0
 by_cases hsz : (1048576 : Int) < len0
 ·clear hr hlc hcm hz
  go_enter Tryz.func4, Tryz.ntmps4
  go_wp2
  go_ret
  exact ⟨rfl, Below.refl _ _⟩
 have H1 := Lib.hid (drawServiceLevel_any a0 len0 cap0 z0 w ⟨hr, hz, hlc, hcm⟩)
 clear hr hlc hcm hz
 go_enter Tryz.func4, Tryz.ntmps4
 go_wp2_with fail
 refine H1.out.mono ?_
 rintro e w1 ⟨t, k, g, S, l, ws, gs, rfl, hrd, hrl, hb1⟩
 go_upto_region 4 with (fail)
 refine into_world (fun Y => Below w.heap.size w Y ∧ Blk Y w1.heap.size 26 (svC t k g) ∧ Blk Y (w1.heap.size + 1) 33 (lvlC l ws gs) ∧ RdS Y t k g S ∧ RdL Y l ws gs) ⟨below_next hb1 (ba (ba (Below.refl _ _))), (Blk.new _ _ _).alloc _, Blk.newAt _ _ _ _ (by simp), hrd.below (ba (ba (Below.refl _ _))), hrl.below (ba (ba (Below.refl _ _)))⟩ ?_
 clear hrd hrl hb1
 rintro Y ⟨hB, hKS, hKL, hrd, hrl⟩
 have HB := Lib.hid hB
 have KS := Lib.hid hKS
 have KL := Lib.hid hKL
 have HR := Lib.hid hrd
 have HL := Lib.hid hrl
 clear hB hKS hKL hrd hrl
 have cs := fun o => KS.out.cell o
 have fs := fun o => KS.out.frozen o
 have zs := KS.out.lt
 have cl := fun o => KL.out.cell o
 have fl := fun o => KL.out.frozen o
 have zl := KL.out.lt
 go_wp2_with fail
 refine (implServiceLevel_any t k g S l ws gs _ HR.out HL.out).mono ?_
 obtain ⟨S2, ok, hlv⟩ : ∃ a b, levelS S l = (a, b) := ⟨_, _, rfl⟩
 have HLV := Lib.hid hlv
 rw [hlv]
 clear hlv
 rintro e w2 ⟨t2, k2, g2, rfl, ho2, hb⟩
 replace KS := Lib.hid (KS.out.next hb)
 replace HR := Lib.hid (HR.out.below hb)
 replace HB := Lib.hid (below_next HB.out hb)
 replace KL := Lib.hid (KL.out.next hb)
 replace HL := Lib.hid (HL.out.below hb)
 clear hb cs fs zs cl fl zl
 go_upto_region 5 with (fail)
 have hW : Below w2.heap.size w2 (w2.alloc (.cells (svC t2 k2 g2) 26)) := ba (Below.refl _ _)
 have KS2 := Lib.hid (Blk.new w2 26 (svC t2 k2 g2))
 have HR2 := Lib.hid (ho2.rd.below hW)
 replace KS := Lib.hid (KS.out.next hW)
 replace HR := Lib.hid (HR.out.below hW)
 replace HB := Lib.hid (below_next HB.out hW)
 replace KL := Lib.hid (KL.out.next hW)
 replace HL := Lib.hid (HL.out.below hW)
 clear hW ho2
 have cs := fun o => KS.out.cell o
 have fs := fun o => KS.out.frozen o
 have zs := KS.out.lt
 have cl := fun o => KL.out.cell o
 have fl := fun o => KL.out.frozen o
 have zl := KL.out.lt
 go_wp2_with fail
 refine (specServiceLevel_any t k g S l ws gs _ HR.out HL.out).mono ?_
 rw [HLV.out]
 rintro e w3 ⟨t3, k3, g3, rfl, ho3, hb⟩
 replace KS := Lib.hid (KS.out.next hb)
 replace HR := Lib.hid (HR.out.below hb)
 replace HB := Lib.hid (below_next HB.out hb)
 replace KL := Lib.hid (KL.out.next hb)
 replace HL := Lib.hid (HL.out.below hb)
 replace KS2 := Lib.hid (KS2.out.next hb)
 replace HR2 := Lib.hid (HR2.out.below hb)
 clear hb cs fs zs cl fl zl
 go_upto_region 6 with (fail)
 have hW : Below w3.heap.size w3 (w3.alloc (.cells (svC t3 k3 g3) 26)) := ba (Below.refl _ _)
 have KS3 := Lib.hid (Blk.new w3 26 (svC t3 k3 g3))
 have HR3 := Lib.hid (ho3.rd.below hW)
 replace KS := Lib.hid (KS.out.next hW)
 replace HR := Lib.hid (HR.out.below hW)
 replace HB := Lib.hid (below_next HB.out hW)
 replace KL := Lib.hid (KL.out.next hW)
 replace HL := Lib.hid (HL.out.below hW)
 replace KS2 := Lib.hid (KS2.out.next hW)
 replace HR2 := Lib.hid (HR2.out.below hW)
 clear hW ho3
 cases ok
 ·have ca := fun o => KS2.out.cell o
  have fa := fun o => KS2.out.frozen o
  have za := KS2.out.lt
  have cb := fun o => KS3.out.cell o
  have fb := fun o => KS3.out.frozen o
  have zb := KS3.out.lt
  go_wp2_with fail
  refine (sameService_same _ _ _ _ _ _ S2 _ HR2.out HR3.out).mono ?_
  rintro e w4 ⟨rfl, hb⟩
  replace KS := Lib.hid (KS.out.next hb)
  replace HR := Lib.hid (HR.out.below hb)
  replace HB := Lib.hid (below_next HB.out hb)
  replace KL := Lib.hid (KL.out.next hb)
  replace HL := Lib.hid (HL.out.below hb)
  replace KS2 := Lib.hid (KS2.out.next hb)
  replace HR2 := Lib.hid (HR2.out.below hb)
  replace KS3 := Lib.hid (KS3.out.next hb)
  replace HR3 := Lib.hid (HR3.out.below hb)
  clear hb ca fa za cb fb zb
  have ca := fun o => KS2.out.cell o
  have fa := fun o => KS2.out.frozen o
  have za := KS2.out.lt
  have cb := fun o => KS3.out.cell o
  have fb := fun o => KS3.out.frozen o
  have zb := KS3.out.lt
  go_wp2_with fail
  refine (sameService_same _ _ _ _ _ _ S2 _ HR2.out HR3.out).mono ?_
  rintro e w5 ⟨rfl, hb⟩
  have hbb := below_next HB.out hb
  clear hb ca fa za cb fb zb
  go_wp2_with fail
  go_ret
  exact ⟨rfl, hbb⟩
 have ca := fun o => KS2.out.cell o
 have fa := fun o => KS2.out.frozen o
 have za := KS2.out.lt
 have cb := fun o => KS3.out.cell o
 have fb := fun o => KS3.out.frozen o
 have zb := KS3.out.lt
 go_wp2_with fail
 refine (sameService_same _ _ _ _ _ _ S2 _ HR2.out HR3.out).mono ?_
 rintro e w4 ⟨rfl, hb⟩
 replace KS := Lib.hid (KS.out.next hb)
 replace HR := Lib.hid (HR.out.below hb)
 replace HB := Lib.hid (below_next HB.out hb)
 replace KL := Lib.hid (KL.out.next hb)
 replace HL := Lib.hid (HL.out.below hb)
 replace KS2 := Lib.hid (KS2.out.next hb)
 replace HR2 := Lib.hid (HR2.out.below hb)
 replace KS3 := Lib.hid (KS3.out.next hb)
 replace HR3 := Lib.hid (HR3.out.below hb)
 clear hb ca fa za cb fb zb
 have HDN := Lib.hid (level_done HLV.out)
 have hid := level_id HDN.out.2.2.1
 have ca := fun o => KS2.out.cell o
 have fa := fun o => KS2.out.frozen o
 have za := KS2.out.lt
 have cl := fun o => KL.out.cell o
 have fl := fun o => KL.out.frozen o
 have zl := KL.out.lt
 go_wp2_with fail
 refine (implServiceTop_any t2 k2 g2 S2 l.id _ HR2.out (by omega) (by omega)).mono ?_
 rw [(level_top HLV.out).1]
 rintro e w6 ⟨A6, c6, rfl, _, hb⟩
 replace KS := Lib.hid (KS.out.next hb)
 replace HR := Lib.hid (HR.out.below hb)
 replace HB := Lib.hid (below_next HB.out hb)
 replace KL := Lib.hid (KL.out.next hb)
 replace HL := Lib.hid (HL.out.below hb)
 replace KS2 := Lib.hid (KS2.out.next hb)
 replace HR2 := Lib.hid (HR2.out.below hb)
 replace KS3 := Lib.hid (KS3.out.next hb)
 replace HR3 := Lib.hid (HR3.out.below hb)
 clear hb ca fa za cl fl zl hid
 obtain ⟨⟨xs, hxs, hts⟩, _, _, ⟨_, hn1⟩, _⟩ := HR.out
 have hr2 := HR2.out
 obtain ⟨⟨ys, hys, hus⟩, _⟩ := hr2
 have hlen : t2.n = t.n + 1 := by
  have h1 := hts.1.len
  have h2 := hus.1.len
  have h3 := congrArg List.length hxs
  have h4 := congrArg List.length hys
  have h5 := HDN.out.2.2.2.1
  simp only [List.length_map] at h3 h4
  omega
 have htn : t.n ≤ 4 := by
  have h1 := hts.1.len
  have h3 := congrArg List.length hxs
  have h5 := (validS_of HDN.out.1).2.1
  simp only [List.length_map] at h3
  omega
 have HLN := Lib.hid (show ((t2.n : Int) == (t.n : Int) + 1) = true by rw [hlen]; simp)
 have HX := Lib.hid hxs
 have HT := Lib.hid hts
 clear hxs hts hys hus hlen
 have HKS := Lib.hid KS.out
 have HKS2 := Lib.hid KS2.out
 have HW2 := Lib.hid HR2.out
 have HB6 := Lib.hid HB.out
 clear HB HR HR2 HR3 KS3 KS KS2 KL HL
 have cs := fun o => HKS.out.cell o
 have fs := fun o => HKS.out.frozen o
 have zs := HKS.out.lt
 go_wp2_with fail
 clear cs fs zs
 go_loopg [11] t.n (fun gg i wr => ∃ (j : Nat), j ≤ t.n ∧ t.n - j ≤ gg ∧ i = .int .i64 j ∧ Hid (Below w6.heap.size w6 wr))
 case atStart => exact ⟨0, Nat.zero_le _, by omega, rfl, Below.refl _ _⟩
 case round =>
  obtain ⟨j, hj, hgg, rfl, HH⟩ := hrel
  have KS := Lib.hid (HKS.out.next HH.out)
  have KS2 := Lib.hid (HKS2.out.next HH.out)
  have cs := fun o => KS.out.cell o
  have fs := fun o => KS.out.frozen o
  have zs := KS.out.lt
  have ca := fun o => KS2.out.cell o
  have fa := fun o => KS2.out.frozen o
  have za := KS2.out.lt
  by_cases hlt : j < t.n
  rotate_left
  ·have HW := Lib.hid (HW2.out.below HH.out)
   have HB7 := Lib.hid (below_next HB6.out HH.out)
   go_upto_region 15 with (fail)
   clear hgg hj hlt
   go_wp2_with fail
   refine (implServiceValid_any _ _ _ S2 _ HW.out).mono ?_
   rw [HDN.out.2.1]
   rintro e w7 ⟨rfl, hb⟩
   replace KS := Lib.hid (KS.out.next hb)
   replace KS2 := Lib.hid (KS2.out.next hb)
   have hbb := below_next HB7.out hb
   clear hb cs fs zs ca fa za
   have cs := fun o => KS.out.cell o
   have fs := fun o => KS.out.frozen o
   have zs := KS.out.lt
   have ca := fun o => KS2.out.cell o
   have fa := fun o => KS2.out.frozen o
   have za := KS2.out.lt
   have hln := HLN.out
   go_wp2_with fail
   go_ret
   exact ⟨rfl, hbb⟩
  obtain ⟨b, off, x, hA, hbb, hx, hrx, e0, _, _, _, _, _, _, _, _, _, _, e11⟩ := RdTs.cells (HT.out.below HH.out) hlt
  have hsx : S.ts[j]? = some x.2 := by rw [← HX.out, List.getElem?_map, hx]; rfl
  have hidx := valid_id HDN.out.1 hsx
  have HTP := Lib.hid ((level_top HLV.out).2 x.2 (List.mem_of_getElem? hsx))
  have HRX := Lib.hid hrx.2.1
  have hnx : x.1.b.n ≤ 1048576 := hrx.2.2.2
  have c0 : wr.cell? ⟨w1.heap.size, 0, none⟩ = some (.slice (some ⟨b, off, none⟩) t.n t.c) := by rw [← hA]; exact KS.out.cell 0
  have C0 := Lib.hid c0
  have E0 := Lib.hid e0
  have E11 := Lib.hid e11
  clear hA hx hrx hsx cs ca e11 e0
  go_upto_region 12 with (fail)
  go_cut [12, 13] (fun sa sb wx => ∃ (A : Option Addr) (cc : Nat), sa = .slice A x.2.b.length cc ∧ sb = .bool true ∧ Hid (Below wr.heap.size wr wx ∧ RdE wx A x.2.b.length x.2.b))
  case first =>
   refine wp_region_grow 13 (by kernel_rfl) (by kernel_rfl) (by kernel_rfl) (fun a b => Below a.heap.size a b) (fun mq w' => Below wr.heap.size wr w') (fun iq v w' => match iq with | 0 => (v = svV t2 k2 g2) | 1 => (v = .pointer (some ⟨w1.heap.size, 0, none⟩)) | 2 => (v = .slice (some ⟨b, off, none⟩) t.n t.c) | 3 => (v = .int .i64 j) | 4 => (v = .pointer (some ⟨b, off + j * 12, none⟩)) | 5 => (v = .pointer (some ⟨b, off + j * 12, none⟩)) | 6 => (v = .pointer (some ⟨b, off + j * 12, none⟩)) | 7 => (v = .int .i64 x.2.l.id) | 8 => (∃ (A : Option Addr) (cc : Nat), v = .tuple #[.slice A x.2.b.length cc, .bool true] ∧ RdE w' A x.2.b.length x.2.b) | 9 => (∃ (A : Option Addr) (cc : Nat), v = .tuple #[.slice A x.2.b.length cc, .bool true] ∧ RdE w' A x.2.b.length x.2.b) | 10 => (∃ (A : Option Addr) (cc : Nat), v = .slice A x.2.b.length cc ∧ RdE w' A x.2.b.length x.2.b) | 11 => (v = .bool true) | 12 => (∃ (A : Option Addr) (cc : Nat), v = .slice A x.2.b.length cc ∧ RdE w' A x.2.b.length x.2.b) | _ => True) (fun sq => { tmps := #[Value.slice a0 len0 cap0, undef, u2, Value.pointer (some (⟨w1.heap.size, 0, none⟩ : Addr)), Value.pointer (some (⟨w1.heap.size + 1, 0, none⟩ : Addr)), Value.pointer (some (⟨w2.heap.size, 0, none⟩ : Addr)), Value.bool true, Value.pointer (some (⟨w3.heap.size, 0, none⟩ : Addr)), Value.bool true, Value.slice A6 0 c6, Value.bool true, Value.int .i64 (j : Int), sq 12, u13, Value.slice a0 len0 cap0, Value.int .i64 (len0 : Int), Value.bool false, Value.tuple #[svV t k g, lvlV l ws gs], Value.slice a0 len0 cap0, Value.tuple #[svV t k g, lvlV l ws gs], svV t k g, lvlV l ws gs, Value.tuple #[svV t2 k2 g2, Value.bool true], Value.agg #[Value.slice t.a t.n t.c, Value.slice k.a k.n k.c, Value.slice g.a g.n g.c], lvlV l ws gs, Value.tuple #[svV t2 k2 g2, Value.bool true], svV t2 k2 g2, Value.bool true, Value.tuple #[svV t3 k3 g3, Value.bool true], Value.agg #[Value.slice t.a t.n t.c, Value.slice k.a k.n k.c, Value.slice g.a g.n g.c], lvlV l ws gs, Value.tuple #[svV t3 k3 g3, Value.bool true], svV t3 k3 g3, Value.bool true, Value.bool true, Value.bool true, Value.bool false, Value.bool false, Value.agg #[Value.slice t2.a t2.n t2.c, Value.slice k2.a k2.n k2.c, Value.slice g2.a g2.n g2.c], Value.agg #[Value.slice t3.a t3.n t3.c, Value.slice k3.a k3.n k3.c, Value.slice g3.a g3.n g3.c], Value.bool true, Value.bool false, Value.bool false, Value.bool false, Value.bool true, Value.bool false, Value.bool false, undef, undef, undef, undef, undef, undef, undef, undef, Value.tuple #[Value.slice A6 0 c6, Value.bool true], Value.agg #[Value.slice t2.a t2.n t2.c, Value.slice k2.a k2.n k2.c, Value.slice g2.a g2.n g2.c], Value.pointer (some (⟨w1.heap.size + 1, 0, none⟩ : Addr)), Value.int .i64 l.id, Value.tuple #[Value.slice A6 0 c6, Value.bool true], Value.slice A6 0 c6, Value.bool true, Value.int .i64 (j : Int), Value.pointer (some (⟨w1.heap.size, 0, none⟩ : Addr)), Value.slice (some (⟨b, off, none⟩ : Addr)) t.n t.c, Value.int .i64 (t.n : Int), Value.bool true, u67, u68, sq 9, sq 0, sq 1, sq 2, sq 3, sq 4, sq 5, sq 6, sq 7, sq 8, sq 10, sq 11, u81, u82, u83, u84, u85, u86, u87, u88, u89, u90, u91, u92, u93, undef, undef, undef, undef, undef, undef, undef, undef, undef, undef, undef, undef, undef, undef, undef, undef, undef, undef, undef, undef], defers := [] }) (fun j => match j with | 0 => u70 | 1 => u71 | 2 => u72 | 3 => u73 | 4 => u74 | 5 => u75 | 6 => u76 | 7 => u77 | 8 => u78 | 9 => u69 | 10 => u79 | 11 => u80 | 12 => u12 | _ => undef) ?_ ?_ ?_ ?_
   ·rintro iq v a b hg h
    match iq, h with
    | 0, h => exact h
    | 1, h => exact h
    | 2, h => exact h
    | 3, h => exact h
    | 4, h => exact h
    | 5, h => exact h
    | 6, h => exact h
    | 7, h => exact h
    | 8, h => exact (by obtain ⟨A, cc, rfl, h1⟩ := h; exact ⟨A, cc, rfl, h1.below hg⟩)
    | 9, h => exact (by obtain ⟨A, cc, rfl, h1⟩ := h; exact ⟨A, cc, rfl, h1.below hg⟩)
    | 10, h => exact (by obtain ⟨A, cc, rfl, h1⟩ := h; exact ⟨A, cc, rfl, h1.below hg⟩)
    | 11, h => exact h
    | 12, h => exact (by obtain ⟨A, cc, rfl, h1⟩ := h; exact ⟨A, cc, rfl, h1.below hg⟩)
    | (kq + 13), _ => exact trivial
   ·exact ⟨rfl, rfl, rfl, Nat.le_refl _, fun _ _ => rfl⟩
   ·intro mq sq w' iq oq hmq hiq hoq hJ hd Kq hK
    have hiq' : iq = 0 ∨ iq = 1 ∨ iq = 2 ∨ iq = 3 ∨ iq = 4 ∨ iq = 5 ∨ iq = 6 ∨ iq = 7 ∨ iq = 8 ∨ iq = 9 ∨ iq = 10 ∨ iq = 11 ∨ iq = 12 := by omega
    rcases hiq' with rfl | rfl | rfl | rfl | rfl | rfl | rfl | rfl | rfl | rfl | rfl | rfl | rfl
    ·cases (show some _ = some oq from hoq)
     have hK' := hK
     simp only [updV, Nat.reduceEqDiff, ↓reduceIte] at hK'
     clear hK hd
     generalize sq 0 = x0 at *
     generalize sq 1 = x1 at *
     generalize sq 2 = x2 at *
     generalize sq 3 = x3 at *
     generalize sq 4 = x4 at *
     generalize sq 5 = x5 at *
     generalize sq 6 = x6 at *
     generalize sq 7 = x7 at *
     generalize sq 8 = x8 at *
     generalize sq 9 = x9 at *
     generalize sq 10 = x10 at *
     generalize sq 11 = x11 at *
     generalize sq 12 = x12 at *
     have hcc := fun o => (KS2.out.next hJ).cell o
     go_simp
     exact hK' _ _ (Below.refl _ _) hJ rfl
    ·cases (show some _ = some oq from hoq)
     have hK' := hK
     simp only [updV, Nat.reduceEqDiff, ↓reduceIte] at hK'
     clear hK hd
     generalize sq 0 = x0 at *
     generalize sq 1 = x1 at *
     generalize sq 2 = x2 at *
     generalize sq 3 = x3 at *
     generalize sq 4 = x4 at *
     generalize sq 5 = x5 at *
     generalize sq 6 = x6 at *
     generalize sq 7 = x7 at *
     generalize sq 8 = x8 at *
     generalize sq 9 = x9 at *
     generalize sq 10 = x10 at *
     generalize sq 11 = x11 at *
     generalize sq 12 = x12 at *
     go_simp
     exact hK' _ _ (Below.refl _ _) hJ rfl
    ·cases (show some _ = some oq from hoq)
     have d1 := hd 1 (by kernel_rfl) (by decide)
     have hK' := hK
     simp only [updV, Nat.reduceEqDiff, ↓reduceIte] at hK'
     clear hK hd
     generalize sq 0 = x0 at *
     generalize sq 1 = x1 at *
     generalize sq 2 = x2 at *
     generalize sq 3 = x3 at *
     generalize sq 4 = x4 at *
     generalize sq 5 = x5 at *
     generalize sq 6 = x6 at *
     generalize sq 7 = x7 at *
     generalize sq 8 = x8 at *
     generalize sq 9 = x9 at *
     generalize sq 10 = x10 at *
     generalize sq 11 = x11 at *
     generalize sq 12 = x12 at *
     obtain rfl := d1
     have hcc := ((bcell hJ).1 _ _ (by have := KS.out.lt; omega)).trans C0.out
     go_simp
     exact hK' _ _ (Below.refl _ _) hJ rfl
    ·cases (show some _ = some oq from hoq)
     have hK' := hK
     simp only [updV, Nat.reduceEqDiff, ↓reduceIte] at hK'
     clear hK hd
     generalize sq 0 = x0 at *
     generalize sq 1 = x1 at *
     generalize sq 2 = x2 at *
     generalize sq 3 = x3 at *
     generalize sq 4 = x4 at *
     generalize sq 5 = x5 at *
     generalize sq 6 = x6 at *
     generalize sq 7 = x7 at *
     generalize sq 8 = x8 at *
     generalize sq 9 = x9 at *
     generalize sq 10 = x10 at *
     generalize sq 11 = x11 at *
     generalize sq 12 = x12 at *
     go_simp
     exact hK' _ _ (Below.refl _ _) hJ rfl
    ·cases (show some _ = some oq from hoq)
     have d2 := hd 2 (by kernel_rfl) (by decide)
     have d3 := hd 3 (by kernel_rfl) (by decide)
     have hK' := hK
     simp only [updV, Nat.reduceEqDiff, ↓reduceIte] at hK'
     clear hK hd
     generalize sq 0 = x0 at *
     generalize sq 1 = x1 at *
     generalize sq 2 = x2 at *
     generalize sq 3 = x3 at *
     generalize sq 4 = x4 at *
     generalize sq 5 = x5 at *
     generalize sq 6 = x6 at *
     generalize sq 7 = x7 at *
     generalize sq 8 = x8 at *
     generalize sq 9 = x9 at *
     generalize sq 10 = x10 at *
     generalize sq 11 = x11 at *
     generalize sq 12 = x12 at *
     obtain rfl := d2
     obtain rfl := d3
     go_simp
     exact hK' _ _ (Below.refl _ _) hJ rfl
    ·cases (show some _ = some oq from hoq)
     have d4 := hd 4 (by kernel_rfl) (by decide)
     have hK' := hK
     simp only [updV, Nat.reduceEqDiff, ↓reduceIte] at hK'
     clear hK hd
     generalize sq 0 = x0 at *
     generalize sq 1 = x1 at *
     generalize sq 2 = x2 at *
     generalize sq 3 = x3 at *
     generalize sq 4 = x4 at *
     generalize sq 5 = x5 at *
     generalize sq 6 = x6 at *
     generalize sq 7 = x7 at *
     generalize sq 8 = x8 at *
     generalize sq 9 = x9 at *
     generalize sq 10 = x10 at *
     generalize sq 11 = x11 at *
     generalize sq 12 = x12 at *
     obtain rfl := d4
     go_simp
     exact hK' _ _ (Below.refl _ _) hJ rfl
    ·cases (show some _ = some oq from hoq)
     have d5 := hd 5 (by kernel_rfl) (by decide)
     have hK' := hK
     simp only [updV, Nat.reduceEqDiff, ↓reduceIte] at hK'
     clear hK hd
     generalize sq 0 = x0 at *
     generalize sq 1 = x1 at *
     generalize sq 2 = x2 at *
     generalize sq 3 = x3 at *
     generalize sq 4 = x4 at *
     generalize sq 5 = x5 at *
     generalize sq 6 = x6 at *
     generalize sq 7 = x7 at *
     generalize sq 8 = x8 at *
     generalize sq 9 = x9 at *
     generalize sq 10 = x10 at *
     generalize sq 11 = x11 at *
     generalize sq 12 = x12 at *
     obtain rfl := d5
     go_simp
     exact hK' _ _ (Below.refl _ _) hJ rfl
    ·cases (show some _ = some oq from hoq)
     have d6 := hd 6 (by kernel_rfl) (by decide)
     have hK' := hK
     simp only [updV, Nat.reduceEqDiff, ↓reduceIte] at hK'
     clear hK hd
     generalize sq 0 = x0 at *
     generalize sq 1 = x1 at *
     generalize sq 2 = x2 at *
     generalize sq 3 = x3 at *
     generalize sq 4 = x4 at *
     generalize sq 5 = x5 at *
     generalize sq 6 = x6 at *
     generalize sq 7 = x7 at *
     generalize sq 8 = x8 at *
     generalize sq 9 = x9 at *
     generalize sq 10 = x10 at *
     generalize sq 11 = x11 at *
     generalize sq 12 = x12 at *
     obtain rfl := d6
     have hcc := ((bcell hJ).1 _ _ hbb).trans E0.out
     go_simp
     exact hK' _ _ (Below.refl _ _) hJ rfl
    ·cases (show some _ = some oq from hoq)
     have d0 := hd 0 (by kernel_rfl) (by decide)
     have d7 := hd 7 (by kernel_rfl) (by decide)
     have hK' := hK
     simp only [updV, Nat.reduceEqDiff, ↓reduceIte] at hK'
     clear hK hd
     generalize sq 0 = x0 at *
     generalize sq 1 = x1 at *
     generalize sq 2 = x2 at *
     generalize sq 3 = x3 at *
     generalize sq 4 = x4 at *
     generalize sq 5 = x5 at *
     generalize sq 6 = x6 at *
     generalize sq 7 = x7 at *
     generalize sq 8 = x8 at *
     generalize sq 9 = x9 at *
     generalize sq 10 = x10 at *
     generalize sq 11 = x11 at *
     generalize sq 12 = x12 at *
     obtain rfl := d0
     obtain rfl := d7
     go_simp
     have hct := implServiceTop_any t2 k2 g2 S2 x.2.l.id w' ((HW2.out.below HH.out).below hJ) (by omega) (by omega)
     rw [HTP.out] at hct
     refine hct.mono ?_
     rintro e9 w9 ⟨A9, c9, rfl, ho9, hb9⟩
     exact hK' _ _ hb9 (below_next hJ hb9) ⟨A9, c9, rfl, ho9.rdE⟩
    ·cases (show some _ = some oq from hoq)
     have d8 := hd 8 (by kernel_rfl) (by decide)
     have hK' := hK
     simp only [updV, Nat.reduceEqDiff, ↓reduceIte] at hK'
     clear hK hd
     generalize sq 0 = x0 at *
     generalize sq 1 = x1 at *
     generalize sq 2 = x2 at *
     generalize sq 3 = x3 at *
     generalize sq 4 = x4 at *
     generalize sq 5 = x5 at *
     generalize sq 6 = x6 at *
     generalize sq 7 = x7 at *
     generalize sq 8 = x8 at *
     generalize sq 9 = x9 at *
     generalize sq 10 = x10 at *
     generalize sq 11 = x11 at *
     generalize sq 12 = x12 at *
     obtain ⟨A9, c9, rfl, h9⟩ := d8
     go_simp
     exact hK' _ _ (Below.refl _ _) hJ ⟨A9, c9, rfl, h9⟩
    ·cases (show some _ = some oq from hoq)
     have d9 := hd 9 (by kernel_rfl) (by decide)
     have hK' := hK
     simp only [updV, Nat.reduceEqDiff, ↓reduceIte] at hK'
     clear hK hd
     generalize sq 0 = x0 at *
     generalize sq 1 = x1 at *
     generalize sq 2 = x2 at *
     generalize sq 3 = x3 at *
     generalize sq 4 = x4 at *
     generalize sq 5 = x5 at *
     generalize sq 6 = x6 at *
     generalize sq 7 = x7 at *
     generalize sq 8 = x8 at *
     generalize sq 9 = x9 at *
     generalize sq 10 = x10 at *
     generalize sq 11 = x11 at *
     generalize sq 12 = x12 at *
     obtain ⟨A9, c9, rfl, h9⟩ := d9
     go_simp
     exact hK' _ _ (Below.refl _ _) hJ ⟨A9, c9, rfl, h9⟩
    ·cases (show some _ = some oq from hoq)
     have d9 := hd 9 (by kernel_rfl) (by decide)
     have hK' := hK
     simp only [updV, Nat.reduceEqDiff, ↓reduceIte] at hK'
     clear hK hd
     generalize sq 0 = x0 at *
     generalize sq 1 = x1 at *
     generalize sq 2 = x2 at *
     generalize sq 3 = x3 at *
     generalize sq 4 = x4 at *
     generalize sq 5 = x5 at *
     generalize sq 6 = x6 at *
     generalize sq 7 = x7 at *
     generalize sq 8 = x8 at *
     generalize sq 9 = x9 at *
     generalize sq 10 = x10 at *
     generalize sq 11 = x11 at *
     generalize sq 12 = x12 at *
     obtain ⟨A9, c9, rfl, h9⟩ := d9
     go_simp
     exact hK' _ _ (Below.refl _ _) hJ rfl
    ·cases (show some _ = some oq from hoq)
     have d10 := hd 10 (by kernel_rfl) (by decide)
     have hK' := hK
     simp only [updV, Nat.reduceEqDiff, ↓reduceIte] at hK'
     clear hK hd
     generalize sq 0 = x0 at *
     generalize sq 1 = x1 at *
     generalize sq 2 = x2 at *
     generalize sq 3 = x3 at *
     generalize sq 4 = x4 at *
     generalize sq 5 = x5 at *
     generalize sq 6 = x6 at *
     generalize sq 7 = x7 at *
     generalize sq 8 = x8 at *
     generalize sq 9 = x9 at *
     generalize sq 10 = x10 at *
     generalize sq 11 = x11 at *
     generalize sq 12 = x12 at *
     obtain ⟨A9, c9, rfl, h9⟩ := d10
     go_simp
     exact hK' _ _ (Below.refl _ _) hJ ⟨A9, c9, rfl, h9⟩
   ·intro sq w' hJ hφ
    simp only [List.drop_succ_cons, List.drop_zero]
    have d11 := hφ 11 (by decide)
    have d12 := hφ 12 (by decide)
    clear hφ
    generalize sq 0 = x0 at *
    generalize sq 1 = x1 at *
    generalize sq 2 = x2 at *
    generalize sq 3 = x3 at *
    generalize sq 4 = x4 at *
    generalize sq 5 = x5 at *
    generalize sq 6 = x6 at *
    generalize sq 7 = x7 at *
    generalize sq 8 = x8 at *
    generalize sq 9 = x9 at *
    generalize sq 10 = x10 at *
    generalize sq 11 = x11 at *
    generalize sq 12 = x12 at *
    obtain rfl := d11
    obtain ⟨A9, c9, rfl, h9⟩ := d12
    go_wp2_with fail
    go_meet
    exact ⟨A9, c9, rfl, rfl, hJ, h9⟩
  case rest =>
   obtain ⟨A9, c9, rfl, rfl, HC⟩ := hcut
   have hc0 := ((bcell HC.out.1).1 _ _ (by have := KS.out.lt; omega)).trans C0.out
   have he11 := ((bcell HC.out.1).1 _ _ hbb).trans E11.out
   have hbl := HRX.out.1
   have hbl2 : x.2.b.length ≤ 1048576 := by omega
   clear c0 hbl
   go_wp2_with fail
   refine (sameBoard_any A9 x.1.b.a x.2.b.length x.1.b.n c9 x.1.b.c x.2.b x.2.b _ HC.out.2 (HRX.out.below HC.out.1) (by omega) (by omega)).mono ?_
   rintro e w8 ⟨rfl, hb⟩
   have hbb8 := below_next (below_next HH.out HC.out.1) hb
   rw [show decide (x.2.b = x.2.b) = true by simp]
   clear hb hc0 he11
   go_wp2_with fail
   go_roundg (t.n - (j + 1))
   case measure => omega
   case rel => exact ⟨j + 1, by omega, by omega, by go_num, hbb8⟩
set_option maxRecDepth 100000 in
theorem lifted (os : Os) (started : os.Started) (H : Type) (enc : TypeId × Value → H) :
  ReturnsInHanded {} Tryz.checked os 4 .any (Rows.fnServiceLevelSpec.pre6 enc Tryz.prog Tryz.f4 Rows.fnServiceLevelRow.domain false) (Rows.fnServiceLevelSpec.post enc Tryz.prog Tryz.f4 false true false false) := by
 refine returnsInHanded_of_change (C := Tryz.checked) own_ started (by kernel_rfl) Tryz.func4
  (ChangeSpec.witness6 (enc := enc) (C := Tryz.checked) false ⟨#[], #[.slice none 0 0], []⟩ 8 (by kernel_rfl) (by kernel_rfl) (by kernel_rfl) (by kernel_rfl)) ?_
 intro W base args ds gs before hval0 hW hcnd _
 have hval : ∀ (j : Nat) t v, Tryz.f4.params[j]? = some t → args[j]? = some v → Value.okWide Tryz.prog W .any base t v := hval0
 have hW' := hW
 obtain ⟨p, q, hA0, hV, rfl, hfz, hnd⟩ := hW
 have hA : DataW.TrodAll enc Tryz.prog W 0 (fun _ => true) true Tryz.f4.params.toList args.toList ds p := hA0
 rw [Tryz.params4] at hA hval
 obtain ⟨v0, vs0, d0, ds0, p0, q0, hargs, rfl, rfl, h0, r0⟩ := trodAll_cons hA
 obtain ⟨rfl, rfl, rfl⟩ := trodAll_nil r0
 obtain rfl : args = #[v0] := by cases args; simp_all
 obtain ⟨rfl, rfl⟩ := trodVars_none hV
 obtain ⟨a0, len0, cap0, rfl⟩ := okWide_slice Tryz.underlying22 (hval 0 22 v0 rfl rfl)
 have k0 := h0
 have lt0 : ∀ x ∈ p0, x.block < W.heap.size := by obtain ⟨m, hm⟩ := k0; exact DataW.trod_lt m _ _ _ hm
 obtain ⟨z0, w0⟩ : ∃ zs, BytesIn W a0 len0 cap0 zs := by
  obtain ⟨fuel, hf⟩ := h0
  exact open_BytesIn Tryz.underlying22 Tryz.underlying5 (by kernel_rfl) (by simpa [Value.cells] using hf)
 clear hA0 hval0
 refine (walk a0 len0 cap0 z0 W w0).mono fun e W' ⟨he, bel⟩ => ?_
 subst he
 exact ⟨_, rfl, _, _, _, [], _, [], hW', trodAll_mk1 (shut_bool Tryz.underlying4 _), (trodAll_cons_mk (Below.trod laidOut_ (by kernel_rfl) (of_decide_eq_true (by kernel_rfl)) k0 bel lt0) trodAll_mk0), rfl, bel.frame _, fun h => by cases h⟩
theorem closed_ : joinedFacts Tryz.prog 4 Tryz.f4 Rows.fnServiceLevelSpec Rows.fnServiceLevelRow = true :=
 joined_by mayEnter_ liftsFinal_ make_ (by kernel_rfl) laidOut_ mapsRowed_ (by kernel_rfl) (by kernel_rfl) rfl stops_ rfl stopKnobs_ (by kernel_rfl) (by kernel_rfl) (by kernel_rfl) (by kernel_rfl) (by kernel_rfl) (by kernel_rfl) (by kernel_rfl) (by kernel_rfl) (by kernel_rfl) (by kernel_rfl) rfl stopsHeard_ rfl rfl rfl (by kernel_rfl)
theorem over : Rows.fnServiceLevelRow.holds Tryz.pinned (OpenSpec.ofChange Rows.fnServiceLevelSpec) :=
 OpenClaim.holds_of_wide 4 Tryz.f4 rfl rfl rfl rfl rfl rfl rfl ⟨rfl, rfl, rfl, rfl, rfl⟩ rfl rfl rfl rfl rfl (by kernel_rfl) Tryz.func4 closed_
  (of_decide_eq_true (by kernel_rfl)) (by unfold Func.isWrapper; first | (rw [if_pos (by decide +kernel)]; kernel_rfl) | (rw [if_neg (by decide +kernel)]; exact ⟨rfl, rfl⟩))
  (fun os started H enc _ => lifted os started H enc)
theorem proved : Rows.FnServiceLevelSaid := over
end Go.Proofs.YtemnlheidghbmaaGreat.fnServiceLevel


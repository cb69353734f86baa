/-
  Lemmas and contracts: Mz E7 Sp Ss. No condition.
-/
import Derived.Test.YtemnlheidghbmaaGreatKc3
import Derived.Test.YtemnlheidghbmaaGreatKc4
import Derived.Test.YtemnlheidghbmaaGreatKc7
namespace Go.Proofs.YtemnlheidghbmaaGreat
open Go.RowKit Go.Sort
theorem Ow.set_ {B T sz n c g j : Nat} {w : World} {vs : List Value} (h : Ow B w T sz (some ⟨g, 0, none⟩) n c vs) (hj : j < vs.length) (v : Value) : Ow B (w.setCell ⟨g, j, none⟩ v) T sz (some ⟨g, 0, none⟩) n c (vs.set j v) := by
 have hl := h.len
 have hn : 0 < n := by
  rcases Nat.eq_zero_or_pos n with h0 | h0
  ·subst h0; rw [Nat.zero_mul] at hl; omega
  ·exact h0
 have hle := h.le
 obtain ⟨g', cur, hg, hB, hb, hnc, hcm, hcs, htk⟩ := h.blk (by omega)
 injection hg with hg
 injection hg with hg
 subst hg
 refine Ow.mk_ (by rw [List.length_set]; exact hl) hB (hb.set_ j v) hle hcm (by simpa using hcs) ?_
 rw [Array.toList_setIfInBounds, List.take_set, htk]
theorem OwI.apart {lo hi B T T' sz sz' n n' c c' : Nat} {A A' : Option Addr} {w w' : World} {vs vs' : List Value} (h : OwI lo hi w T sz A n c vs) (k : Ow B w T' sz' A' n' c' vs') (hne : T ≠ T') (hg : w.grownBy w' (ownB A' c')) : OwI lo hi w' T sz A n c vs :=
 h.keep fun g ha hc => hg.block g (h.lt ha hc).2.2 (by
  intro e
  rcases Nat.eq_zero_or_pos c' with h0 | h0
  ·rw [h0] at e; simp [ownB] at e
  ·obtain ⟨g1, _, e1, _, hb1, _⟩ := h.ow.blk hc
   obtain ⟨g2, _, e2, _, hb2, _⟩ := k.blk h0
   rw [e1] at ha
   injection ha with ha
   unfold ownB at e
   rw [if_neg (by omega), e2] at e
   injection e with e
   simp only at ha e
   subst ha
   rw [e] at hb1
   exact Blk.ne_ hb1 hb2 hne rfl)
theorem OwI.apartB {lo hi T sz n c : Nat} {A : Option Addr} {o : Option Nat} {w w' : World} {vs : List Value} (h : OwI lo hi w T sz A n c vs) (hd : ∀ b ∈ (ownB A c).toList, b ∉ o.toList) (hg : w.grownBy w' o) : OwI lo hi w' T sz A n c vs :=
 h.keep fun g ha hc => hg.block g (h.lt ha hc).2.2 (by
  intro e
  refine hd g ?_ ?_
  ·unfold ownB; rw [if_neg (by omega), ha]; simp
  ·rw [← e]; simp)
theorem Frm.of_own {lo hi T sz n c : Nat} {A : Option Addr} {w w' : World} {vs : List Value} (h : OwI lo hi w T sz A n c vs) (hg : w.grownBy w' (ownB A c)) : Frm lo hi w w' :=
 ⟨hg.os, hg.tape, hg.output, hg.size, fun i hi' ho => hg.block i hi' (by
  intro e
  unfold ownB at e
  split at e
  ·cases e
  ·have := h.lt e.symm (by omega)
   omega)⟩
section
variable {lo hi : Nat} {w w' : World} {t : Sl} {a b : List Row} {x : Row}
theorem mid_mem {x' y : Row} (h : y ∈ a ++ x' :: b) : y = x' ∨ y ∈ a ∨ y ∈ b := by
 rcases List.mem_append.1 h with h | h
 ·exact .inr (.inl h)
 ·rcases List.mem_cons.1 h with h | h
  ·exact .inl h
  ·exact .inr (.inr h)
theorem boxBlks_mid (a b : List Row) (x : Row) : boxBlks (a ++ x :: b) = boxBlks a ++ ((blkOf x.1.w ++ blkOf x.1.g) ++ boxBlks b) := by simp [boxBlks]
theorem entBlks_mid (a b : List Row) (x : Row) : entBlks (a ++ x :: b) = entBlks a ++ (blkOf x.1.b ++ entBlks b) := by simp [entBlks]
theorem box_in {y : Row} {xs : List Row} (h : y ∈ xs) {c : Nat} (hc : c ∈ blkOf y.1.w ∨ c ∈ blkOf y.1.g) : c ∈ boxBlks xs := List.mem_flatMap.2 ⟨y, h, List.mem_append.2 hc⟩
theorem ent_in {y : Row} {xs : List Row} (h : y ∈ xs) {c : Nat} (hc : c ∈ blkOf y.1.b) : c ∈ entBlks xs := List.mem_flatMap.2 ⟨y, h, hc⟩
theorem box_apart (hn : (boxBlks (a ++ x :: b)).Nodup) {y : Row} (hy : y ∈ a ∨ y ∈ b) {c : Nat} (hc : c ∈ blkOf y.1.w ∨ c ∈ blkOf y.1.g) : c ∉ blkOf x.1.w ++ blkOf x.1.g := by
 rw [boxBlks_mid, List.nodup_append] at hn
 obtain ⟨_, hn, h1⟩ := hn
 rw [List.nodup_append] at hn
 obtain ⟨_, _, h2⟩ := hn
 intro hx
 rcases hy with hy | hy
 ·exact h1 c (box_in hy hc) c (List.mem_append_left _ hx) rfl
 ·exact h2 c hx c (box_in hy hc) rfl
theorem ent_apart (hn : (entBlks (a ++ x :: b)).Nodup) {y : Row} (hy : y ∈ a ∨ y ∈ b) {c : Nat} (hc : c ∈ blkOf y.1.b) : c ∉ blkOf x.1.b := by
 rw [entBlks_mid, List.nodup_append] at hn
 obtain ⟨_, hn, h1⟩ := hn
 rw [List.nodup_append] at hn
 obtain ⟨_, _, h2⟩ := hn
 intro hx
 rcases hy with hy | hy
 ·exact h1 c (ent_in hy hc) c (List.mem_append_left _ hx) rfl
 ·exact h2 c hx c (ent_in hy hc) rfl
theorem box_self (hn : (boxBlks (a ++ x :: b)).Nodup) {c : Nat} (h1 : c ∈ blkOf x.1.w) (h2 : c ∈ blkOf x.1.g) : False := by
 rw [boxBlks_mid, List.nodup_append] at hn
 obtain ⟨_, hn, _⟩ := hn
 rw [List.nodup_append] at hn
 obtain ⟨hn, _, _⟩ := hn
 rw [List.nodup_append] at hn
 exact hn.2.2 c h1 c h2 rfl
theorem cellsT_mid {x' : Row} (h : encT x' = encT x) : cellsT (a ++ x' :: b) = cellsT (a ++ x :: b) := by
 show cellsX encT _ = cellsX encT _
 rw [cellsX_append, cellsX_append, cellsX_cons, cellsX_cons, h]
abbrev Row.setW (x : Row) (bs : List Bx) : Row := (x.1, ⟨⟨x.2.l.id, x.2.l.ticks, x.2.l.sx, x.2.l.sy, bs, x.2.l.gates, x.2.l.f, x.2.l.bans⟩, x.2.b⟩)
abbrev Row.setG (x : Row) (bs : List Bx) : Row := (x.1, ⟨⟨x.2.l.id, x.2.l.ticks, x.2.l.sx, x.2.l.sy, x.2.l.walls, bs, x.2.l.f, x.2.l.bans⟩, x.2.b⟩)
abbrev Row.setE (x : Row) (es : List Ent) : Row := (x.1, ⟨x.2.l, es⟩)
theorem OwTs.walls {bs : List Bx} (h : OwTs lo hi w t (a ++ x :: b)) (hg : w.grownBy w' (ownB x.1.w.a x.1.w.c)) (hw : Ow lo w' 31 4 x.1.w.a x.1.w.n x.1.w.c (cellsB bs)) :
  OwTs lo hi w' t (a ++ Row.setW x bs :: b) := by
 obtain ⟨h1, h2, h3, h4, h5⟩ := h
 have hx := h2 x (by simp)
 refine ⟨?_, fun y hy => ?_, ?_, ?_, h5⟩
 ·rw [show cellsT (a ++ Row.setW x bs :: b) = cellsT (a ++ x :: b) from cellsT_mid rfl]
  exact h1.apart hx.1.1.ow (by decide) hg
 ·rcases mid_mem hy with rfl | hy
  ·refine ⟨⟨⟨hw, hx.1.1.2⟩, hx.1.2.1.apartB (fun c hc hw => box_self h3 hw hc) hg, hx.1.2.2⟩, hx.2.1.apart hx.1.1.ow (by decide) hg, hx.2.2⟩
  ·have hyo := h2 y (by rcases hy with hy | hy <;> simp [hy])
   refine ⟨⟨hyo.1.1.apartB (fun c hc hw => box_apart h3 hy (.inl hc) (List.mem_append_left _ hw)) hg, hyo.1.2.1.apartB (fun c hc hw => box_apart h3 hy (.inr hc) (List.mem_append_left _ hw)) hg, hyo.1.2.2⟩, hyo.2.1.apart hx.1.1.ow (by decide) hg, hyo.2.2⟩
 ·rw [boxBlks_mid] at h3 ⊢; exact h3
 ·rw [entBlks_mid] at h4 ⊢; exact h4
theorem OwTs.gates {bs : List Bx} (h : OwTs lo hi w t (a ++ x :: b)) (hg : w.grownBy w' (ownB x.1.g.a x.1.g.c)) (hw : Ow lo w' 31 4 x.1.g.a x.1.g.n x.1.g.c (cellsB bs)) :
  OwTs lo hi w' t (a ++ Row.setG x bs :: b) := by
 obtain ⟨h1, h2, h3, h4, h5⟩ := h
 have hx := h2 x (by simp)
 refine ⟨?_, fun y hy => ?_, ?_, ?_, h5⟩
 ·rw [show cellsT (a ++ Row.setG x bs :: b) = cellsT (a ++ x :: b) from cellsT_mid rfl]
  exact h1.apart hx.1.2.1.ow (by decide) hg
 ·rcases mid_mem hy with rfl | hy
  ·refine ⟨⟨hx.1.1.apartB (fun c hc hw => box_self h3 hc hw) hg, ⟨hw, hx.1.2.1.2⟩, hx.1.2.2⟩, hx.2.1.apart hx.1.2.1.ow (by decide) hg, hx.2.2⟩
  ·have hyo := h2 y (by rcases hy with hy | hy <;> simp [hy])
   refine ⟨⟨hyo.1.1.apartB (fun c hc hw => box_apart h3 hy (.inl hc) (List.mem_append_right _ hw)) hg, hyo.1.2.1.apartB (fun c hc hw => box_apart h3 hy (.inr hc) (List.mem_append_right _ hw)) hg, hyo.1.2.2⟩, hyo.2.1.apart hx.1.2.1.ow (by decide) hg, hyo.2.2⟩
 ·rw [boxBlks_mid] at h3 ⊢; exact h3
 ·rw [entBlks_mid] at h4 ⊢; exact h4
theorem OwTs.board {es : List Ent} (h : OwTs lo hi w t (a ++ x :: b)) (hg : w.grownBy w' (ownB x.1.b.a x.1.b.c)) (hw : Ow lo w' 68 2 x.1.b.a x.1.b.n x.1.b.c (cellsE es)) :
  OwTs lo hi w' t (a ++ Row.setE x es :: b) := by
 obtain ⟨h1, h2, h3, h4, h5⟩ := h
 have hx := h2 x (by simp)
 refine ⟨?_, fun y hy => ?_, ?_, ?_, h5⟩
 ·rw [show cellsT (a ++ Row.setE x es :: b) = cellsT (a ++ x :: b) from cellsT_mid rfl]
  exact h1.apart hx.2.1.ow (by decide) hg
 ·rcases mid_mem hy with rfl | hy
  ·refine ⟨⟨hx.1.1.apart hx.2.1.ow (by decide) hg, hx.1.2.1.apart hx.2.1.ow (by decide) hg, hx.1.2.2⟩, ⟨hw, hx.2.1.2⟩, hx.2.2⟩
  ·have hyo := h2 y (by rcases hy with hy | hy <;> simp [hy])
   refine ⟨⟨hyo.1.1.apart hx.2.1.ow (by decide) hg, hyo.1.2.1.apart hx.2.1.ow (by decide) hg, hyo.1.2.2⟩, hyo.2.1.apartB (fun c hc hw => ent_apart h4 hy hc hw) hg, hyo.2.2⟩
 ·rw [boxBlks_mid] at h3 ⊢; exact h3
 ·rw [entBlks_mid] at h4 ⊢; exact h4
theorem OwTs.store {g n c k : Nat} (j : Nat) (x' : Row) {v : Value} (h : OwTs lo hi w ⟨some ⟨g, 0, none⟩, n, c⟩ (a ++ x :: b)) (hk : a.length = k) (hv : encT x' = (encT x).set j v) (hp : x'.1 = x.1) (hw : x'.2.l.walls = x.2.l.walls) (hg : x'.2.l.gates = x.2.l.gates) (hb : x'.2.b = x.2.b) (hj : j < 12) :
  OwTs lo hi (w.setCell ⟨g, k * 12 + j, none⟩ v) ⟨some ⟨g, 0, none⟩, n, c⟩ (a ++ x' :: b) := by
 obtain ⟨h1, h2, h3, h4, h5⟩ := h
 have hlen : k * 12 + j < (cellsT (a ++ x :: b)).length := by rw [cellsT_len, List.length_append, List.length_cons, hk]; omega
 have hc : 0 < c := by
  have h6 : (cellsT (a ++ x :: b)).length = n * 12 := h1.ow.len
  have h7 : n ≤ c := h1.ow.le
  rw [cellsT_len, List.length_append, List.length_cons] at h6
  omega
 have hG : w.grownBy (w.setCell ⟨g, k * 12 + j, none⟩ v) (ownB (some ⟨g, 0, none⟩) c) := by
  have : ownB (some (⟨g, 0, none⟩ : Addr)) c = some g := by unfold ownB; rw [if_neg (by omega)]; rfl
  rw [this]
  exact Only.set_ (Only.refl g w) (.inl rfl) _
 refine ⟨⟨?_, h1.2⟩, fun y hy => ?_, ?_, ?_, h5⟩
 ·have e := cellsX_set encT_len (a ++ x :: b) k x x' j v (by rw [← hk]; simp) hv hj
  rw [← hk, List.set_append_right _ _ (Nat.le_refl _), Nat.sub_self, List.set_cons_zero, hk] at e
  show Ow lo _ _ 12 _ _ _ (cellsX encT (a ++ x' :: b))
  rw [e]
  exact h1.ow.set_ hlen v
 ·have hyo : ∀ y, OwT lo hi w y → OwT lo hi (w.setCell ⟨g, k * 12 + j, none⟩ v) y := fun y hy => ⟨⟨hy.1.1.apart h1.ow (by decide) hG, hy.1.2.1.apart h1.ow (by decide) hG, hy.1.2.2⟩, hy.2.1.apart h1.ow (by decide) hG, hy.2.2⟩
  rcases mid_mem hy with rfl | hy
  ·have := hyo x (h2 x (by simp))
   unfold OwT OwL at this ⊢
   rw [hp, hw, hg, hb]
   exact this
  ·exact hyo y (h2 y (by rcases hy with hy | hy <;> simp [hy]))
 ·rw [boxBlks_mid] at h3 ⊢; rw [hp]; exact h3
 ·rw [entBlks_mid] at h4 ⊢; rw [hp]; exact h4
end
end Go.Proofs.YtemnlheidghbmaaGreat
namespace Go.Proofs.YtemnlheidghbmaaGreat
open Go.RowKit Go.Sort
noncomputable def hashesW (l : Lvl) (xs : List Inp) : List Int := if okW l xs then (List.range (xs.length / 5)).map (fun j => carHash (runW l xs (5 * (j + 1)))) else []
def IntsPost (B : Nat) (zs : List Int) (w : World) (e : Ending) (w' : World) : Prop :=
 ∃ (A : Option Addr) (c : Nat), e = .returned (.slice A zs.length c) ∧ Ow B w' 3 1 A zs.length c (cellsI zs) ∧ Below B w w'
set_option maxRecDepth 100000 in
set_option maxHeartbeats 4000000 in
theorem specRunHashes_any (l : Lvl) (ws gs : Sl) (A : Option Addr) (n c : Nat) (xs : List Inp) (w : World) (hl : RdL w l ws gs) (hr : RdN w A n xs) (hn : n ≤ 1048576) :
  Calls Tryz.prog 78 #[lvlV l ws gs, .slice A n c] w (IntsPost w.heap.size (hashesW l xs) w) := by
 obtain ⟨i0, hi0, hy0, hy1, hy2⟩ := info_parts infoZ
 have HI := Lib.hid hi0
 have HZ := Lib.hid hy0
 have HS := Lib.hid hy1
 have HBY := Lib.hid hy2
 clear hi0 hy0 hy1 hy2
 have HL := Lib.hid hl
 have HR := Lib.hid hr
 clear hl hr
 go_enter Tryz.func78, Tryz.ntmps78
 go_wp2_with fail
 go_loopw [5, 6] (fun out i wr => ∃ (k : Nat) (A' : Option Addr) (c' : Nat), 5 * k ≤ n ∧ i = .int .i64 (5 * (k + 1) : Nat) ∧ out = .slice A' k c' ∧ Hid (Below w.heap.size w wr ∧ Blk wr w.heap.size 33 (lvlC l ws gs) ∧ Ow (w.heap.size + 1) wr 3 1 A' k c' (cellsI ((List.range k).map fun j => carHash (runW l xs (5 * (j + 1))))) ∧ (0 < k → okW l xs = true))) (fun _ i _ => n + 5 - (intOf i).toNat)
 case atStart => exact ⟨0, _, 0, by omega, rfl, rfl, by go_grown, (Blk.new _ _ _).alloc _, Ow.bare _ _ _ _ _, by omega⟩
 case round =>
  obtain ⟨k, A', c', hk, rfl, rfl, HH⟩ := hrel
  obtain ⟨HB, KL, HOW, HOK⟩ := HH.out
  replace HB := Lib.hid HB
  replace KL := Lib.hid KL
  replace HOW := Lib.hid HOW
  replace HOK := Lib.hid HOK
  clear HH
  obtain ⟨K5, hK5⟩ : ∃ K5 : Nat, K5 = 5 * (k + 1) := ⟨_, rfl⟩
  rw [← hK5]
  have HK5 := Lib.hid hK5
  have hKb : K5 ≤ n + 5 := by omega
  clear hK5
  by_cases hlt : K5 ≤ n
  ·have hlt' : decide ((K5 : Int) ≤ (n : Int)) = true := by simp; omega
   have cl := fun o => KL.out.cell o
   have fl := fun o => KL.out.frozen o
   have zl := KL.out.lt
   go_wp2_with fail
   refine (l21Ok_any l ws gs A n c xs _ (HL.out.below HB.out) (HR.out.below HB.out) hn).mono ?_
   rintro e w1 ⟨rfl, hb⟩
   replace HOW := Lib.hid (Ow.next HOW.out hb)
   replace KL := Lib.hid (KL.out.next hb)
   replace HB := Lib.hid (below_next HB.out hb)
   clear hb cl fl zl
   cases ho : okW l xs
   ·have hk0 : k = 0 := by
     rcases Nat.eq_zero_or_pos k with h | h
     ·exact h
     ·have := HOK.out h; rw [ho] at this; cases this
    have HO := Lib.hid (show hashesW l xs = [] by simp [hashesW, ho])
    clear ho
    subst hk0
    go_wp2_with fail
    go_ret
    unfold IntsPost
    rw [HO.out]
    exact ⟨A', c', rfl, HOW.out.mono (by omega), HB.out⟩
   ·have HO := Lib.hid ho
    clear ho
    have cl := fun o => KL.out.cell o
    have fl := fun o => KL.out.frozen o
    have zl := KL.out.lt
    go_wp2_with fail
    refine (l21To_any l ws gs A n c K5 xs _ (HL.out.below HB.out) (HR.out.below HB.out) hn hlt (okW_ins HO.out)).mono ?_
    rintro e w2 ⟨rfl, hb⟩
    replace HOW := Lib.hid (Ow.next HOW.out hb)
    replace KL := Lib.hid (KL.out.next hb)
    replace HB := Lib.hid (below_next HB.out hb)
    clear hb cl fl zl
    go_wp2_with fail
    refine (l13Hash_any (runW l xs K5) _).mono ?_
    rintro e w3 ⟨rfl, hb⟩
    replace HOW := Lib.hid (Ow.next HOW.out hb)
    replace KL := Lib.hid (KL.out.next hb)
    replace HB := Lib.hid (below_next HB.out hb)
    clear hb
    obtain ⟨z, hz⟩ : ∃ z, carHash (runW l xs K5) = z := ⟨_, rfl⟩
    rw [hz]
    have HZK := Lib.hid hz
    clear hz
    have hzs := HB.out.size
    have hzl := KL.out.lt
    go_wp2_with (at_builtin; refine wpList_append_ow _ rfl (.tmp 19) (.tmp 25) _ rfl (w.heap.size + 1) 3 i0 _ 1 8 Tryz.underlying24 HI.out HZ.out HS.out HBY.out rfl (by omega) _ k c' _ rfl (HOW.out.alloc _) _ 1 1 (cellsI [z]) rfl (Src.blk (Blk.new _ _ _) rfl) (cellsI_one _) (by unfold maxLen; omega) (by omega) (by simp; omega) ?_; intro A2 c2 w5 hown5 hg5 _; have HO5 := Lib.hid hown5; have HG5 := Lib.hid hg5; clear hown5 hg5)
    have hrow := HOW.out.alloc (.cells #[.int .i64 z] 3)
    refine ⟨⟨k + 1, A2, c2, by have := HK5.out; omega, by have := HK5.out; go_num, rfl, ?_, ?_, ?_, fun _ => HO.out⟩, by simp [intOf]; omega⟩
    ·exact (hrow.grown HG5.out (HB.out.alloc HB.out.size _) (by omega) (by simp; omega))
    ·exact (KL.out.alloc _).frm (Frm.of_own (lo := w.heap.size + 1) (hi := (w3.alloc (.cells #[.int .i64 z] 3)).heap.size) (OwI.of hrow) HG5.out) (by omega)
    ·have := HO5.out
     have hzk : carHash (runW l xs (5 * (k + 1))) = z := by rw [← HK5.out]; exact HZK.out
     rw [List.range_succ, List.map_append]
     show Ow _ _ _ 1 _ _ _ (List.map (Value.int .i64) (_ ++ [carHash (runW l xs (5 * (k + 1)))]))
     rw [List.map_append, hzk]
     exact this
  ·have hlt' : decide ((K5 : Int) ≤ (n : Int)) = false := by simp; omega
   have hres : hashesW l xs = (List.range k).map fun j => carHash (runW l xs (5 * (j + 1))) := by
    unfold hashesW
    cases ho : okW l xs
    ·have hk0 : k = 0 := by
      rcases Nat.eq_zero_or_pos k with h | h
      ·exact h
      ·have := HOK.out h; rw [ho] at this; cases this
     subst hk0
     rfl
    ·have hk5 : xs.length / 5 = k := by rw [HR.out.len]; have := HK5.out; omega
     rw [hk5]
     rfl
   have HRES := Lib.hid hres
   clear hres
   go_wp2_with fail
   go_ret
   unfold IntsPost
   rw [HRES.out]
   exact ⟨A', c', by simp, by simpa using HOW.out.mono (by omega), HB.out⟩
end Go.Proofs.YtemnlheidghbmaaGreat
namespace Go.Proofs.YtemnlheidghbmaaGreat
open Go.RowKit Go.Sort
def keyOk (n : Int) : Bool := inR n 0 9999
def hashOk (n : Int) : Bool := inR n 0 1000002
def keyed (keys : List Int) (e : Ent) : Bool := decide (keys[e.1.toNat]?.getD 0 ≠ 0)
def prevId (ts : List Trk) (k : Nat) : Int := ((ts[k - 1]?).map (·.l.id)).getD 0
def trkOk (S : Svc) (k : Nat) : Bool :=
 match S.ts[k]? with
 | none => true
 | some t => levelOk t.l && validE t.b && !(decide (0 < k) && decide (t.l.id ≤ prevId S.ts k)) && t.b.all (keyed S.keys)
def validS (S : Svc) : Bool :=
 decide (S.keys.length = 10) && decide (S.ts.length ≤ 4) && decide (S.tags.length ≤ 12) && S.keys.all keyOk && (List.range S.ts.length).all (trkOk S) && S.tags.all hashOk
theorem validS_len {S : Svc} (h : ¬ (S.keys.length = 10 ∧ S.ts.length ≤ 4 ∧ S.tags.length ≤ 12)) : validS S = false := by
 unfold validS
 simp only [Bool.and_eq_false_iff, decide_eq_false_iff_not]
 by_cases h1 : S.keys.length = 10
 ·by_cases h2 : S.ts.length ≤ 4
  ·by_cases h3 : S.tags.length ≤ 12
   ·exact absurd ⟨h1, h2, h3⟩ h
   ·exact .inl (.inl (.inl (.inr h3)))
  ·exact .inl (.inl (.inl (.inl (.inr h2))))
 ·exact .inl (.inl (.inl (.inl (.inl h1))))
theorem validS_keys {S : Svc} (h : S.keys.all keyOk = false) : validS S = false := by unfold validS; rw [h]; simp
theorem validS_tags {S : Svc} (h : S.tags.all hashOk = false) : validS S = false := by unfold validS; rw [h]; simp
theorem validS_trk {S : Svc} {k : Nat} (hk : k < S.ts.length) (h : trkOk S k = false) : validS S = false := by
 have : (List.range S.ts.length).all (trkOk S) = false := by
  rw [List.all_eq_false]
  exact ⟨k, List.mem_range.2 hk, by simp [h]⟩
 unfold validS
 rw [this]; simp
theorem validS_true {S : Svc} (h1 : S.keys.length = 10) (h2 : S.ts.length ≤ 4) (h3 : S.tags.length ≤ 12) (h4 : S.keys.all keyOk = true) (h5 : ∀ k, k < S.ts.length → trkOk S k = true) (h6 : S.tags.all hashOk = true) : validS S = true := by
 have : (List.range S.ts.length).all (trkOk S) = true := by
  rw [List.all_eq_true]
  exact fun k hk => h5 k (List.mem_range.1 hk)
 unfold validS
 rw [this, h4, h6]
 simp [h1, h2, h3]
theorem validS_of {S : Svc} (h : validS S = true) : S.keys.length = 10 ∧ S.ts.length ≤ 4 ∧ S.tags.length ≤ 12 ∧ S.keys.all keyOk = true ∧ (∀ k, k < S.ts.length → trkOk S k = true) ∧ S.tags.all hashOk = true := by
 unfold validS at h
 simp only [Bool.and_eq_true, decide_eq_true_eq, List.all_eq_true] at h
 obtain ⟨⟨⟨⟨⟨h1, h2⟩, h3⟩, h4⟩, h5⟩, h6⟩ := h
 exact ⟨h1, h2, h3, List.all_eq_true.2 h4, fun k hk => h5 k (List.mem_range.2 hk), List.all_eq_true.2 h6⟩
theorem trkOk_some {S : Svc} {k : Nat} {t : Trk} (h : S.ts[k]? = some t) : trkOk S k = (levelOk t.l && validE t.b && !(decide (0 < k) && decide (t.l.id ≤ prevId S.ts k)) && t.b.all (keyed S.keys)) := by simp [trkOk, h]
theorem all_drop {α : Type} {p : α → Bool} {xs : List α} {k : Nat} {x : α} (h : xs[k]? = some x) : (xs.drop k).all p = (p x && (xs.drop (k + 1)).all p) := by
 obtain ⟨hk', he⟩ := List.getElem?_eq_some_iff.1 h
 rw [List.drop_eq_getElem_cons hk', he]; rfl
end Go.Proofs.YtemnlheidghbmaaGreat
namespace Go.Proofs.YtemnlheidghbmaaGreat
open Go.RowKit Go.Sort
set_option maxHeartbeats 400000 in
theorem l23Hash_any (n : Int) (w : World) :
  Calls Tryz.prog 45 #[.int .i64 n] w fun e w' => e = .returned (.bool (hashOk n)) ∧ w = w' := by
 go_enter Tryz.func45, Tryz.ntmps45
 go_wp2_with fail
 refine (l6In_any _ _ _ _).mono ?_
 rintro e w' ⟨rfl, rfl⟩
 go_wp2_with fail
 go_ret
 exact ⟨rfl, rfl⟩
set_option maxRecDepth 100000 in
set_option maxHeartbeats 8000000 in
theorem specServiceValid_any (t k g : Sl) (S : Svc) (w : World) (hr : RdS w t k g S) :
  Calls Tryz.prog 15 #[svV t k g] w fun e w' => e = .returned (.bool (validS S)) ∧ Below w.heap.size w w' := by
 obtain ⟨⟨xs, hxs, hts⟩, hk, hg, ⟨_, hn1⟩, ⟨_, hn2⟩, _, hn3⟩ := hr
 have hlt : xs.length = t.n := hts.1.len
 have hlk := hk.len
 have hlg := hg.len
 have hxl : S.ts.length = t.n := by rw [← hxs, List.length_map, hlt]
 by_cases hb : S.keys.length = 10 ∧ S.ts.length ≤ 4 ∧ S.tags.length ≤ 12
 rotate_left
 ·have HV := Lib.hid (validS_len hb)
  rw [hlk, hxl, hlg] at hb
  clear hts hk hg hxs
  by_cases h1 : k.n = 10
  ·have h1' : (k.n : Int) = 10 := by omega
   by_cases h2 : t.n ≤ 4
   ·have h2' : ¬ (4 : Int) < t.n := by omega
    have h3' : (12 : Int) < g.n := by omega
    clear hb h1 hlt hlk hlg hxl
    go_enter Tryz.func15, Tryz.ntmps15
    go_wp2
    go_ret
    exact ⟨ret_bool HV.out.symm, by go_grown⟩
   ·have h2' : (4 : Int) < t.n := by omega
    clear hb h1 hlt hlk hlg hxl
    go_enter Tryz.func15, Tryz.ntmps15
    go_wp2
    go_ret
    exact ⟨ret_bool HV.out.symm, by go_grown⟩
  ·have h1' : ((k.n : Int) != 10) = true := by simp; omega
   clear hb h1 hlt hlk hlg hxl
   go_enter Tryz.func15, Tryz.ntmps15
   go_wp2
   go_ret
   exact ⟨ret_bool HV.out.symm, by go_grown⟩
 ·obtain ⟨b1, b2, b3⟩ := hb
  have hq1 : k.n = 10 := by omega
  have hq2 : t.n ≤ 4 := by omega
  have hq3 : g.n ≤ 12 := by omega
  have h1' : ((k.n : Int) != 10) = false := by simp; omega
  have h2' : ¬ (4 : Int) < t.n := by omega
  have h3' : ¬ (12 : Int) < g.n := by omega
  have HXS := Lib.hid hxs
  have HTS := Lib.hid hts
  have HK := Lib.hid hk
  have HG := Lib.hid hg
  have HXL := Lib.hid hxl
  have HL1 := Lib.hid b1
  have HL2 := Lib.hid b2
  have HL3 := Lib.hid b3
  have HQ1 := Lib.hid hq1
  have hq1l : k.n ≤ 10 := by omega
  clear hxs hts hk hg hxl b1 b2 b3 hlt hlk hlg hn1 hn2 hn3 hq1
  go_enter Tryz.func15, Tryz.ntmps15
  go_wp2
  have hw1 : Below w.heap.size w (w.alloc (.cells #[.slice t.a t.n t.c, .slice k.a k.n k.c, .slice g.a g.n g.c] 26)) := (Below.refl _ _).alloc (Nat.le_refl _) _
  have HK1 := Lib.hid (HK.out.below hw1)
  have HW1 := Lib.hid hw1
  have HBL := Lib.hid (Blk.new w 26 #[.slice t.a t.n t.c, .slice k.a k.n k.c, .slice g.a g.n g.c])
  clear hw1
  go_loop [3] (fun i => ∃ j : Nat, j ≤ k.n ∧ i = .int .i64 j ∧ Hid (S.keys.all keyOk = (S.keys.drop j).all keyOk)) (fun i => k.n - (intOf i).toNat)
  case atStart => exact ⟨0, Nat.zero_le _, rfl, rfl⟩
  case round =>
   obtain ⟨j, hj, rfl, HF⟩ := hrel
   by_cases hlt : j < k.n
   ·obtain ⟨b, off, z, hA, hbb, hz, hc⟩ := HK.out.at_ hlt
    have HA := Lib.hid hA
    rw [hA]
    have HST := Lib.hid (all_drop (p := keyOk) hz)
    clear hz hA
    go_wp2_with fail
    refine (l6In_any _ _ _ _).mono ?_
    rintro e w' ⟨rfl, rfl⟩
    cases ho : inR z 0 9999
    ·have HO := Lib.hid (show keyOk z = false from ho)
     clear ho
     go_wp2_with fail
     go_ret
     exact ⟨ret_bool (validS_keys (by rw [HF.out, HST.out, HO.out]; rfl)).symm, by go_grown⟩
    ·have HO := Lib.hid (show keyOk z = true from ho)
     clear ho
     go_wp2_with fail
     go_round
     case rel => exact ⟨j + 1, by omega, by go_num, by show _ = _; rw [HF.out, HST.out, HO.out]; rfl⟩
     case measure => simp [intOf]; omega
   ·have HKO : Hid (S.keys.all keyOk = true) := by
     show _ = _
     rw [HF.out, List.drop_of_length_le (by rw [HL1.out]; have := HQ1.out; omega)]; rfl
    clear HF
    go_wp2_with fail
    go_loopw [4, 5, 6] (fun i _ _ wr => ∃ j : Nat, j ≤ t.n ∧ i = .int .i64 j ∧ Hid (Below w.heap.size w wr ∧ Blk wr w.heap.size 26 #[.slice t.a t.n t.c, .slice k.a k.n k.c, .slice g.a g.n g.c] ∧ ∀ q, q < j → trkOk S q = true)) (fun i _ _ _ => t.n - (intOf i).toNat)
    case atStart => exact ⟨0, Nat.zero_le _, rfl, HW1.out, HBL.out, fun q hq => absurd hq (by omega)⟩
    case round =>
     obtain ⟨j, hj, rfl, HB⟩ := hrel
     obtain ⟨wo, rfl⟩ : ∃ wo : World, wo = wr := ⟨_, rfl⟩
     have s0 : wo.cell? ⟨w.heap.size, 0, none⟩ = some (.slice t.a t.n t.c) := HB.out.2.1.cell 0
     by_cases hlt2 : j < t.n
     ·obtain ⟨b, off, x, hA, hbb, hx, hrt, e0, e1, e2, e3, e4, e5, e6, e7, e8, e9, e10, e11⟩ := RdTs.cells (HTS.out.below HB.out.1) hlt2
      have HA := Lib.hid hA
      rw [hA] at s0
      have hS : S.ts[j]? = some x.2 := by rw [← HXS.out, List.getElem?_map, hx]; rfl
      have HTR := Lib.hid (trkOk_some hS)
      have HRT := Lib.hid hrt
      clear hA hS
      go_upto_region 12 with (fail)
      have HAL := Lib.hid ((Below.refl wo.heap.size wo).alloc (Nat.le_refl _) (.cells (encT x).toArray 44))
      have hTB := Blk.new wo 44 (encT x).toArray
      generalize hWT : wo.alloc (.cells (encT x).toArray 44) = WT at HAL hTB
      have HRT := Lib.hid (hrt.below HAL.out)
      have HTSW := Lib.hid ((HTS.out.below HB.out.1).below HAL.out)
      have HTB := Lib.hid hTB
      have HSB := Lib.hid (HB.out.2.1.next HAL.out)
      have HWT := Lib.hid hWT
      clear hTB hrt hWT
      show Code.wp _ _ _ _ (wo.alloc (.cells (encT x).toArray 44))
      rw [HWT.out]
      have hz : wo.heap.size < WT.heap.size := HTB.out.lt
      have t0 : WT.cell? ⟨wo.heap.size, 0, none⟩ = some (.int .i64 x.2.l.id) := HTB.out.cell 0
      have t1 : WT.cell? ⟨wo.heap.size, 1, none⟩ = some (.int .i64 x.2.l.ticks) := HTB.out.cell 1
      have t2 : WT.cell? ⟨wo.heap.size, 2, none⟩ = some (.int .i64 x.2.l.sx) := HTB.out.cell 2
      have t3 : WT.cell? ⟨wo.heap.size, 3, none⟩ = some (.int .i64 x.2.l.sy) := HTB.out.cell 3
      have t4 : WT.cell? ⟨wo.heap.size, 4, none⟩ = some (.slice x.1.w.a x.1.w.n x.1.w.c) := HTB.out.cell 4
      have t5 : WT.cell? ⟨wo.heap.size, 5, none⟩ = some (.slice x.1.g.a x.1.g.n x.1.g.c) := HTB.out.cell 5
      have t6 : WT.cell? ⟨wo.heap.size, 6, none⟩ = some (.int .i64 x.2.l.f.1) := HTB.out.cell 6
      have t7 : WT.cell? ⟨wo.heap.size, 7, none⟩ = some (.int .i64 x.2.l.f.2.1) := HTB.out.cell 7
      have t8 : WT.cell? ⟨wo.heap.size, 8, none⟩ = some (.int .i64 x.2.l.f.2.2.1) := HTB.out.cell 8
      have t9 : WT.cell? ⟨wo.heap.size, 9, none⟩ = some (.int .i64 x.2.l.f.2.2.2) := HTB.out.cell 9
      have t10 : WT.cell? ⟨wo.heap.size, 10, none⟩ = some (.int .i64 x.2.l.bans) := HTB.out.cell 10
      have t11 : WT.cell? ⟨wo.heap.size, 11, none⟩ = some (.slice x.1.b.a x.1.b.n x.1.b.c) := HTB.out.cell 11
      clear s0 e0 e1 e2 e3 e4 e5 e6 e7 e8 e9 e10 e11
      have s0 : WT.cell? ⟨w.heap.size, 0, none⟩ = some (.slice (some ⟨b, off, none⟩) t.n t.c) := by rw [← HA.out]; exact HSB.out.cell 0
      have hbn := HRT.out.2.2.2
      have hbn2 := HRT.out.2.2.1
      go_cut [77] (fun s77 wx => s77 = .bool (!(levelOk x.2.l && validE x.2.b && !(decide (0 < j) && decide (x.2.l.id ≤ prevId S.ts j)))) ∧ Hid (Below WT.heap.size WT wx))
      case first =>
       have t0' := fun d os => cell_regrown t0 d os
       have t1' := fun d os => cell_regrown t1 d os
       have t2' := fun d os => cell_regrown t2 d os
       have t3' := fun d os => cell_regrown t3 d os
       have t4' := fun d os => cell_regrown t4 d os
       have t5' := fun d os => cell_regrown t5 d os
       have t6' := fun d os => cell_regrown t6 d os
       have t7' := fun d os => cell_regrown t7 d os
       have t8' := fun d os => cell_regrown t8 d os
       have t9' := fun d os => cell_regrown t9 d os
       have t10' := fun d os => cell_regrown t10 d os
       have t11' := fun d os => cell_regrown t11 d os
       have s0' := fun d os => cell_regrown s0 d os
       cases hlo : levelOk x.2.l with
       | false =>
        have HLO := Lib.hid hlo
        clear hlo
        refine wp_region_qb (by kernel_rfl) (by kernel_rfl) ?_
        repeat (go_big_quiet_step (first | (go_at_call 28; exact Calls.regrown_of ((specLevelValid_any x.2.l x.1.w x.1.g _ (HRT.out.1.below (below_regrown _ _ _))).mono fun e w' h => by rw [HLO.out] at h; exact h))))
        refine wpQuiet_nil ?_
        intro w5 hb5
        go_wp2_with fail
        go_meet
        exact ⟨by simp [HLO.out], hb5⟩
       | true =>
        have HLO := Lib.hid hlo
        clear hlo
        cases hbo : validE x.2.b with
        | false =>
         have HBO := Lib.hid hbo
         clear hbo
         refine wp_region_qb (by kernel_rfl) (by kernel_rfl) ?_
         repeat (go_big_quiet_step (first | (go_at_call 28; exact Calls.regrown_of ((specLevelValid_any x.2.l x.1.w x.1.g _ (HRT.out.1.below (below_regrown _ _ _))).mono fun e w' h => by rw [HLO.out] at h; exact h)) | (go_at_call 44; exact Calls.regrown_of ((specBoardValid_v _ _ _ _ _ (HRT.out.2.1.below (below_regrown _ _ _)) (by omega)).mono fun e w' h => by rw [HBO.out] at h; exact h))))
         refine wpQuiet_nil ?_
         intro w5 hb5
         go_wp2_with fail
         go_meet
         exact ⟨by simp [HBO.out], hb5⟩
        | true =>
         have HBO := Lib.hid hbo
         clear hbo
         by_cases hj0 : 0 < j
         ·obtain ⟨b', off', y, hA', _, hy, _, p0, _⟩ := RdTs.cells HTSW.out (k := j - 1) (by omega)
          obtain ⟨rfl, rfl⟩ : b = b' ∧ off = off' := by rw [HA.out] at hA'; simpa using hA'
          have hpv : prevId S.ts j = y.2.l.id := by unfold prevId; rw [← HXS.out, List.getElem?_map, hy]; rfl
          have HPV := Lib.hid hpv
          have p0' := fun d os => cell_regrown p0 d os
          have q1 : IntKind.i64.wrap ((j : Int) - 1) = (j : Int) - 1 := IntWalk.i64_in _ (by omega)
          have q2 : (0 : Int) ≤ (j : Int) - 1 := by omega
          have q3 : ((j : Int) - 1).toNat = j - 1 := by omega
          have q4 : (j : Int) - 1 < t.n := by omega
          clear hA' hy hpv p0
          by_cases hs : x.2.l.id ≤ y.2.l.id
          ·refine wp_region_qb (by kernel_rfl) (by kernel_rfl) ?_
           repeat (go_big_quiet_step (first | (go_at_call 28; exact Calls.regrown_of ((specLevelValid_any x.2.l x.1.w x.1.g _ (HRT.out.1.below (below_regrown _ _ _))).mono fun e w' h => by rw [HLO.out] at h; exact h)) | (go_at_call 44; exact Calls.regrown_of ((specBoardValid_v _ _ _ _ _ (HRT.out.2.1.below (below_regrown _ _ _)) (by omega)).mono fun e w' h => by rw [HBO.out] at h; exact h))))
           refine wpQuiet_nil ?_
           intro w5 hb5
           go_wp2_with fail
           go_meet
           exact ⟨by simp [HPV.out, hj0, hs], hb5⟩
          ·have hsb : decide (x.2.l.id ≤ y.2.l.id) = false := by simpa using hs
           refine wp_region_qb (by kernel_rfl) (by kernel_rfl) ?_
           repeat (go_big_quiet_step (first | (go_at_call 28; exact Calls.regrown_of ((specLevelValid_any x.2.l x.1.w x.1.g _ (HRT.out.1.below (below_regrown _ _ _))).mono fun e w' h => by rw [HLO.out] at h; exact h)) | (go_at_call 44; exact Calls.regrown_of ((specBoardValid_v _ _ _ _ _ (HRT.out.2.1.below (below_regrown _ _ _)) (by omega)).mono fun e w' h => by rw [HBO.out] at h; exact h))))
           refine wpQuiet_nil ?_
           intro w5 hb5
           go_wp2_with fail
           go_meet
           exact ⟨by simp [HLO.out, HBO.out, HPV.out, hsb], hb5⟩
         ·refine wp_region_qb (by kernel_rfl) (by kernel_rfl) ?_
          repeat (go_big_quiet_step (first | (go_at_call 28; exact Calls.regrown_of ((specLevelValid_any x.2.l x.1.w x.1.g _ (HRT.out.1.below (below_regrown _ _ _))).mono fun e w' h => by rw [HLO.out] at h; exact h)) | (go_at_call 44; exact Calls.regrown_of ((specBoardValid_v _ _ _ _ _ (HRT.out.2.1.below (below_regrown _ _ _)) (by omega)).mono fun e w' h => by rw [HBO.out] at h; exact h))))
          refine wpQuiet_nil ?_
          intro w5 hb5
          go_wp2_with fail
          go_meet
          exact ⟨by simp [HLO.out, HBO.out, hj0], hb5⟩
      case rest =>
       obtain ⟨rfl, HBC⟩ := hcut
       have HW5 := Lib.hid (below_next HB.out.1 (ba (by rw [HWT.out]; exact HBC.out)))
       have HSB5 := Lib.hid (HSB.out.next HBC.out)
       have HTB5 := Lib.hid (HTB.out.next HBC.out)
       have HRB5 := Lib.hid (HRT.out.2.1.below HBC.out)
       have HK5 := Lib.hid (HK.out.below HW5.out)
       clear t0 t1 t2 t3 t4 t5 t6 t7 t8 t9 t10 t11 s0 HBC HRT HTSW HTB HSB HWT HAL
       cases hob : (levelOk x.2.l && validE x.2.b && !(decide (0 < j) && decide (x.2.l.id ≤ prevId S.ts j)))
       ·have hv : validS S = false := validS_trk (k := j) (by rw [HXL.out]; exact hlt2) (by rw [HTR.out, hob]; rfl)
        have HV := Lib.hid hv
        clear hv hob
        go_wp2
        go_ret
        exact ⟨ret_bool HV.out.symm, HW5.out⟩
       ·have hvb : validE x.2.b = true := by
         simp only [Bool.and_eq_true] at hob
         exact hob.1.2
        have HVB := Lib.hid hvb
        have HOB := Lib.hid hob
        clear hvb hob
        go_wp2_with fail
        go_loopw [6] (fun i wr => ∃ q : Nat, q ≤ x.1.b.n ∧ i = .int .i64 q ∧ Hid (Below wc.heap.size wc wr ∧ x.2.b.all (keyed S.keys) = (x.2.b.drop q).all (keyed S.keys))) (fun i _ => x.1.b.n - (intOf i).toNat)
        case atStart => exact ⟨0, Nat.zero_le _, rfl, Below.refl _ _, rfl⟩
        case round =>
         obtain ⟨q, hq, rfl, HC⟩ := hrel
         have HSBr := Lib.hid (HSB5.out.next HC.out.1)
         have HTBr := Lib.hid (HTB5.out.next HC.out.1)
         have u11 : wr.cell? ⟨wo.heap.size, 11, none⟩ = some (.slice x.1.b.a x.1.b.n x.1.b.c) := HTBr.out.cell 11
         by_cases hlt3 : q < x.1.b.n
         ·obtain ⟨b2, off2, e, hA2, hb2, he, f0, f1⟩ := (HRB5.out.below HC.out.1).at_ hlt3
          have heo := okE_bd (validE_ok HVB.out he)
          obtain ⟨p, hp⟩ := Int.eq_ofNat_of_zero_le heo.1
          have hp9 : p < k.n := by have := HQ1.out; omega
          obtain ⟨b3, off3, z, hA3, hb3, hz, hc3⟩ := (HK5.out.below HC.out.1).at_ hp9
          have hky : keyed S.keys e = decide (z ≠ 0) := by unfold keyed; rw [hp, Int.toNat_natCast, hz]; rfl
          have HKY := Lib.hid hky
          have HST := Lib.hid (all_drop (p := keyed S.keys) he)
          have u1 : wr.cell? ⟨w.heap.size, 1, none⟩ = some (.slice k.a k.n k.c) := HSBr.out.cell 1
          rw [hA2] at u11
          rw [hA3] at u1
          rw [hp] at f0
          have u11' := fun d os => cell_regrown u11 d os
          have u1' := fun d os => cell_regrown u1 d os
          have f0' := fun d os => cell_regrown f0 d os
          have hc3' := fun d os => cell_regrown hc3 d os
          have hp9' : (p : Int) < k.n := by omega
          clear he hz hky hA2 hA3 hp heo f0 f1 hc3 u1
          go_upto_region 17 with (fail)
          go_cut [95] (fun s95 wx => s95 = .bool (decide (z = 0)) ∧ Hid (Below wr.heap.size wr wx))
          case first =>
           clear u11
           refine wp_region_qb (by kernel_rfl) (by kernel_rfl) ?_
           repeat (go_big_quiet_step (fail))
           refine wpQuiet_nil ?_
           intro w6 hb6
           go_wp2_with fail
           go_meet
           exact ⟨rfl, hb6⟩
          case rest =>
           obtain ⟨rfl, HBD⟩ := hcut
           clear u11 u11' u1' f0' hc3'
           by_cases hz0 : z = 0
           ·have hv : validS S = false := validS_trk (k := j) (by rw [HXL.out]; exact hlt2) (by rw [HTR.out, HC.out.2, HST.out, HKY.out]; simp [hz0])
            have HV := Lib.hid hv
            subst hz0
            clear hv
            go_wp2
            go_ret
            exact ⟨ret_bool HV.out.symm, below_next (below_next HW5.out HC.out.1) HBD.out⟩
           ·have HKT := Lib.hid (show keyed S.keys e = true by rw [HKY.out]; simpa using hz0)
            go_wp2
            exact ⟨⟨q + 1, by omega, by go_num, below_next HC.out.1 HBD.out, by rw [HC.out.2, HST.out, HKT.out]; rfl⟩, by simp [intOf]; omega⟩
         ·have hv : trkOk S j = true := by
           rw [HTR.out, HOB.out, HC.out.2, List.drop_of_length_le (by rw [HRB5.out.len]; omega)]; rfl
          have HV := Lib.hid hv
          clear hv
          go_wp2
          exact ⟨⟨j + 1, by omega, by go_num, below_next HW5.out HC.out.1, HSBr.out, fun q hq => by
           by_cases hqj : q = j
           ·rw [hqj]; exact HV.out
           ·exact HB.out.2.2 q (by omega)⟩, by simp [intOf]; omega⟩
     ·have HKT : Hid (∀ q, q < S.ts.length → trkOk S q = true) := fun q hq => HB.out.2.2 q (by rw [HXL.out] at hq; omega)
      have HGr := Lib.hid (HG.out.below HB.out.1)
      have HB1 := Lib.hid HB.out.1
      have HB2 := Lib.hid HB.out.2.1
      clear HB
      go_wp2_with fail
      clear s0
      go_loop [7] (fun i => ∃ q : Nat, q ≤ g.n ∧ i = .int .i64 q ∧ Hid (S.tags.all hashOk = (S.tags.drop q).all hashOk)) (fun i => g.n - (intOf i).toNat)
      case atStart => exact ⟨0, Nat.zero_le _, rfl, rfl⟩
      case round =>
       obtain ⟨q, hq, rfl, HF⟩ := hrel
       have u2 : wo.cell? ⟨w.heap.size, 2, none⟩ = some (.slice g.a g.n g.c) := HB2.out.cell 2
       by_cases hlt3 : q < g.n
       ·obtain ⟨b, off, z, hA, hbb, hz, hc⟩ := HGr.out.at_ hlt3
        have HA := Lib.hid hA
        rw [hA] at u2
        have HST := Lib.hid (all_drop (p := hashOk) hz)
        clear hz hA
        go_wp2_with fail
        refine (l23Hash_any _ _).mono ?_
        rintro e w' ⟨rfl, rfl⟩
        cases ho : hashOk z
        ·have HO := Lib.hid ho
         clear ho
         go_wp2_with fail
         go_ret
         exact ⟨ret_bool (validS_tags (by rw [HF.out, HST.out, HO.out]; rfl)).symm, HB1.out⟩
        ·have HO := Lib.hid ho
         clear ho
         go_wp2_with fail
         go_round
         case rel => exact ⟨q + 1, by omega, by go_num, by show _ = _; rw [HF.out, HST.out, HO.out]; rfl⟩
         case measure => simp [intOf]; omega
       ·go_wp2_with fail
        go_ret
        exact ⟨ret_bool (validS_true HL1.out HL2.out HL3.out HKO.out HKT.out (by rw [HF.out, List.drop_of_length_le (by rw [HGr.out.len]; omega)]; rfl)).symm, HB1.out⟩
end Go.Proofs.YtemnlheidghbmaaGreat

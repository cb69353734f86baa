/-
  Lemmas and contracts: Co. No condition.
-/
import Derived.Test.YtkgfmgajhgfgjaaGreatDoorKa16
import Derived.Test.YtkgfmgajhgfgjaaGreatDoorKa17
import Derived.Test.YtkgfmgajhgfgjaaGreatDoorKa18
set_option linter.unusedSimpArgs false
set_option linter.unusedVariables false
set_option linter.unusedSectionVars false
namespace Go.Proofs.YtkgfmgajhgfgjaaGreatDoor
open Go.RowKit Go.Sort
theorem dep_ {listed:Array Bool} {n j:Nat} (hs:listed.size=n) (hj:j<n) (h:listed.getD j false=true):Dl listed j=true:=by
 unfold Dl
 rw [getD_any (by omega) true false]
 exact h
theorem cases22 {i:Nat} (h:i<22):i=0∨i=1∨i=2∨i=3∨i=4∨i=5∨i=6∨i=7∨i=8∨i=9∨i=10∨i=11∨i=12∨i=13∨i=14∨i=15∨i=16∨i=17∨i=18∨i=19∨i=20∨i=21:=by omega
theorem cases12 {i:Nat} (h:i<12):i=0∨i=1∨i=2∨i=3∨i=4∨i=5∨i=6∨i=7∨i=8∨i=9∨i=10∨i=11:=by omega
set_option maxRecDepth 100000 in
set_option maxHeartbeats 8000000 in
theorem l41Copy_any (t k g:Sl) (S:Svc) (w:World) (hr:RdS w t k g S) :
  Calls Tryz.prog 92 #[svV t k g] w fun e w'=>∃ t' k' g',e=.returned (svV t' k' g')∧OwS w.heap.size w'.heap.size w' t' k' g' S∧Below w.heap.size w w':=by
 obtain ⟨⟨xs,hxs,hr1⟩,hr2,hr3,⟨_,hn1⟩,⟨_,hn2⟩,_,hn3⟩:=hr
 have HR1:=Lib.hid hr1
 have HR2:=Lib.hid hr2
 have HR3:=Lib.hid hr3
 have HXS:=Lib.hid hxs
 clear hr1 hr2 hr3 hxs
 obtain ⟨j0,hj0,hy0,hy1,hy2⟩:=info_parts infoZ
 have JI:=Lib.hid hj0
 have JZ:=Lib.hid hy0
 have JS:=Lib.hid hy1
 have JB:=Lib.hid hy2
 clear hj0 hy0 hy1 hy2
 go_enter Tryz.func92,Tryz.ntmps92
 go_upto_region 1 with (fail)
 refine into_world (fun W=>Below w.heap.size w W∧W.heap.size=w.heap.size+2∧Blk W w.heap.size 42 #[.slice t.a t.n t.c,.slice k.a k.n k.c,.slice g.a g.n g.c]∧Blk W (w.heap.size+1) 42 #[.slice none 0 0,.slice none 0 0,.slice none 0 0]) ⟨by go_grown,by simp,(Blk.new _ _ _).alloc _,Blk.newAt _ _ _ _ (by simp)⟩ ?_
 rintro W ⟨hbw,hwz,hka,hkr⟩
 have hd2:RdI .i64 W k.a k.n S.keys:=HR2.out.below hbw
 have hd3:RdI .i64 W g.a g.n S.tags:=HR3.out.below hbw
 have HD2:=Lib.hid hd2
 have HD3:=Lib.hid hd3
 have HBW:=Lib.hid hbw
 have HKA:=Lib.hid hka
 have HKR:=Lib.hid hkr
 clear hbw hka hkr hd2 hd3
 go_cut [3] (fun s wx=>∃ o A c A' c' A0,s=.pointer (some ⟨o,0,none⟩)∧Hid (w.heap.size+2≤o∧o<wx.heap.size∧Below w.heap.size w wx∧Blk wx w.heap.size 42 #[.slice t.a t.n t.c,.slice k.a k.n k.c,.slice g.a g.n g.c]∧Blk wx (w.heap.size+1) 42 #[.slice none 0 0,.slice none 0 0,.slice none 0 0]∧Blk wx o 42 #[.slice A0 0 0,.slice A k.n c,.slice A' g.n c']∧OwZ (w.heap.size+2) wx.heap.size wx ⟨A,k.n,c⟩ S.keys∧OwZ (w.heap.size+2) wx.heap.size wx ⟨A',g.n,c'⟩ S.tags∧(blkOf ⟨A,k.n,c⟩ ++ blkOf ⟨A',g.n,c'⟩).Nodup))
 case first =>
  refine wp_region_inv (by kernel_rfl) (by kernel_rfl) (fun listed a w'=>∃ s3 s5 s6 s7 s8 s9 s10 s11 s12 s13 s14:Value,a={ tmps:=#[svV t k g,.pointer (some ⟨w.heap.size,0,none⟩),.pointer (some ⟨w.heap.size+1,0,none⟩),s3,undef,s5,s6,s7,s8,s9,s10,s11,s12,s13,s14,undef,undef,undef,undef,undef,undef,undef,undef,undef,undef,undef,undef,undef,undef,undef,undef,undef,undef,undef,undef,undef,undef,undef,undef,undef,undef,undef,undef,undef],defers:=[] }∧C1 k g S W w.heap.size (Dl listed) s3 s5 s6 s7 s8 s9 s10 s11 s12 s13 s14 w') ?_ ?_ ?_
  ·refine ⟨undef,undef,undef,undef,undef,undef,undef,undef,undef,undef,undef,rfl,{ bel:=?_,f0:=?_,f1:=?_,f2:=?_,f3:=?_,f4:=?_,f5:=?_,f6:=?_,f7:=?_,f8:=?_,f9:=?_,f10:=?_,f11:=?_,nd:=?_ }⟩
   ·exact ⟨rfl,rfl,rfl,Nat.le_refl _,fun _ _=>rfl⟩
   all_goals (intro q;cases q)
  ·intro listed a w' i o hs ho hl hd hR K hK
   obtain ⟨s3,s5,s6,s7,s8,s9,s10,s11,s12,s13,s14,rfl,hc⟩:=hR
   have hlt:i<12:=(Array.getElem?_eq_some_iff.1 ho).1
   rcases cases12 hlt with rfl|rfl|rfl|rfl|rfl|rfl|rfl|rfl|rfl|rfl|rfl|rfl
   ·cases (show some _=some o from ho)
    go_simp
    exact hK _ _ ⟨s3,_,s6,s7,s8,s9,s10,s11,s12,s13,s14,rfl,by rw [Dl_set (by rw [hs];decide)];exact (hc.next (ba (Below.refl _ _))).u0 hl _⟩
   ·cases (show some _=some o from ho)
    go_simp
    exact hK _ _ ⟨s3,s5,_,s7,s8,s9,s10,s11,s12,s13,s14,rfl,by rw [Dl_set (by rw [hs];decide)];exact (hc.next (ba (Below.refl _ _))).u1 hl _⟩
   ·cases (show some _=some o from ho)
    go_simp
    exact hK _ _ ⟨s3,s5,s6,_,s8,s9,s10,s11,s12,s13,s14,rfl,by rw [Dl_set (by rw [hs];decide)];exact hc.u2 hl⟩
   ·cases (show some _=some o from ho)
    obtain rfl:=hc.f2 (dep_ hs (by decide) (hd ⟨2,.data⟩ (by simp) rfl))
    have cc:=(HKA.out.next hc.bel).cell 1
    go_simp
    exact hK _ _ ⟨s3,s5,s6,_,_,s9,s10,s11,s12,s13,s14,rfl,by rw [Dl_set (by rw [hs];decide)];exact hc.u3 hl⟩
   ·cases (show some _=some o from ho)
    obtain ⟨A,rfl⟩:=hc.f1 (dep_ hs (by decide) (hd ⟨1,.data⟩ (by simp) rfl))
    obtain rfl:=hc.f3 (dep_ hs (by decide) (hd ⟨3,.data⟩ (by simp) rfl))
    refine step_append_ow _ rfl (.tmp 6) (.tmp 8) _ rfl w'.heap.size 3 j0 _ 1 8 Tryz.underlying33 JI.out JZ.out JS.out JB.out rfl (by omega) _ 0 0 [] rfl (Ow.bare _ _ _ _ _) _ k.n k.c (cellsI S.keys) rfl (Src.ints (HD2.out.below hc.bel)) (cellsI_one _) (by unfold maxLen;omega) (by omega) (Nat.le_refl _) ?_
    intro A2 c2 w3 hO hg _
    have hb3:=(Ow.bare w'.heap.size _ 3 1 _).grown hg (Below.refl _ _) (Nat.le_refl _) (Nat.le_refl _)
    rw [Nat.zero_add] at hO ⊢
    rw [List.nil_append] at hO
    have hi:=OwI.of hO
    exact hK _ _ ⟨s3,s5,_,s7,_,_,s10,s11,s12,s13,s14,rfl,by
     rw [Dl_set (by rw [hs];decide)]
     refine (hc.next hb3).u4 hl A2 c2 (hi.mono hc.bel.size (Nat.le_refl _)) (fun q A' c' e=>?_)
     obtain ⟨A1,c1,e1,ho1⟩:=hc.f8 q
     rw [e] at e1
     injection e1 with e1 _ e3
     subst e1 e3
     exact nodup_comm (nodup_app w'.heap.size (blkOf_nodup _) (blkOf_nodup _) (fun b hb=>(OwI.mem (s:=⟨A',g.n,c'⟩) ho1 b hb).2) (fun b hb=>(OwI.mem (s:=⟨A2,k.n,c2⟩) hi b hb).1))⟩
   ·cases (show some _=some o from ho)
    go_simp
    exact hK _ _ ⟨s3,s5,s6,s7,s8,s9,_,s11,s12,s13,s14,rfl,by rw [Dl_set (by rw [hs];decide)];exact (hc.next (ba (Below.refl _ _))).u5 hl _⟩
   ·cases (show some _=some o from ho)
    go_simp
    exact hK _ _ ⟨s3,s5,s6,s7,s8,s9,s10,_,s12,s13,s14,rfl,by rw [Dl_set (by rw [hs];decide)];exact hc.u6 hl⟩
   ·cases (show some _=some o from ho)
    obtain rfl:=hc.f6 (dep_ hs (by decide) (hd ⟨6,.data⟩ (by simp) rfl))
    have cc:=(HKA.out.next hc.bel).cell 2
    go_simp
    exact hK _ _ ⟨s3,s5,s6,s7,s8,s9,s10,_,_,s13,s14,rfl,by rw [Dl_set (by rw [hs];decide)];exact hc.u7 hl⟩
   ·cases (show some _=some o from ho)
    obtain ⟨A,rfl⟩:=hc.f5 (dep_ hs (by decide) (hd ⟨5,.data⟩ (by simp) rfl))
    obtain rfl:=hc.f7 (dep_ hs (by decide) (hd ⟨7,.data⟩ (by simp) rfl))
    refine step_append_ow _ rfl (.tmp 10) (.tmp 12) _ rfl w'.heap.size 3 j0 _ 1 8 Tryz.underlying33 JI.out JZ.out JS.out JB.out rfl (by omega) _ 0 0 [] rfl (Ow.bare _ _ _ _ _) _ g.n g.c (cellsI S.tags) rfl (Src.ints (HD3.out.below hc.bel)) (cellsI_one _) (by unfold maxLen;omega) (by omega) (Nat.le_refl _) ?_
    intro A2 c2 w3 hO hg _
    have hb3:=(Ow.bare w'.heap.size _ 3 1 _).grown hg (Below.refl _ _) (Nat.le_refl _) (Nat.le_refl _)
    rw [Nat.zero_add] at hO ⊢
    rw [List.nil_append] at hO
    have hi:=OwI.of hO
    exact hK _ _ ⟨s3,s5,s6,s7,s8,s9,_,s11,_,_,s14,rfl,by
     rw [Dl_set (by rw [hs];decide)]
     refine (hc.next hb3).u8 hl A2 c2 (hi.mono hc.bel.size (Nat.le_refl _)) (fun q A' c' e=>?_)
     obtain ⟨A1,c1,e1,ho1⟩:=hc.f4 q
     rw [e] at e1
     injection e1 with e1 _ e3
     subst e1 e3
     exact nodup_app w'.heap.size (blkOf_nodup _) (blkOf_nodup _) (fun b hb=>(OwI.mem (s:=⟨A',k.n,c'⟩) ho1 b hb).2) (fun b hb=>(OwI.mem (s:=⟨A2,g.n,c2⟩) hi b hb).1)⟩
   ·cases (show some _=some o from ho)
    have d0:=(dep_ hs (by decide) (hd ⟨0,.data⟩ (by simp) rfl))
    have d4:=(dep_ hs (by decide) (hd ⟨4,.data⟩ (by simp) rfl))
    have d8:=(dep_ hs (by decide) (hd ⟨8,.data⟩ (by simp) rfl))
    obtain ⟨A0,rfl⟩:=hc.f0 d0
    obtain ⟨A4,c4,rfl,_⟩:=hc.f4 d4
    obtain ⟨A8,c8,rfl,_⟩:=hc.f8 d8
    go_simp
    exact hK _ _ ⟨s3,_,s6,s7,s8,_,s10,s11,s12,_,_,rfl,by rw [Dl_set (by rw [hs];decide)];exact hc.u9 hl d0 d4 d8⟩
   ·cases (show some _=some o from ho)
    go_simp
    exact hK _ _ ⟨_,s5,s6,s7,s8,s9,s10,s11,s12,s13,s14,rfl,by rw [Dl_set (by rw [hs];decide)];exact (hc.next (ba (Below.refl _ _))).u10 hl _ hc.bel.size (by simp) (Blk.new _ _ _)⟩
   ·cases (show some _=some o from ho)
    have d9:=(dep_ hs (by decide) (hd ⟨9,.data⟩ (by simp) rfl))
    have d10:=(dep_ hs (by decide) (hd ⟨10,.data⟩ (by simp) rfl))
    obtain ⟨d0,d4,d8,rfl⟩:=hc.f9 d9
    obtain ⟨A0,rfl⟩:=hc.f0 d0
    obtain ⟨A4,c4,rfl,_⟩:=hc.f4 d4
    obtain ⟨A8,c8,rfl,_⟩:=hc.f8 d8
    obtain ⟨oo,rfl,ho1,ho2,hz⟩:=hc.f10 d10
    have hz':=hz hl
    have cz:=fun q=>hz'.cell q
    have fz:=fun q=>hz'.frozen q
    go_simp
    exact hK _ _ ⟨_,_,s6,s7,s8,_,s10,s11,s12,_,_,rfl,by rw [Dl_set (by rw [hs];decide)];exact hc.u11 hl d9 d10 oo rfl ho1 hz'⟩
  ·intro listed a w' hall hR
   obtain ⟨s3,s5,s6,s7,s8,s9,s10,s11,s12,s13,s14,rfl,hc⟩:=hR
   obtain ⟨d9,d10,oo,rfl,hz⟩:=hc.f11 (hall 11 (by decide))
   obtain ⟨d0,d4,d8,rfl⟩:=hc.f9 d9
   obtain ⟨A0,rfl⟩:=hc.f0 d0
   obtain ⟨A4,c4,rfl,h4⟩:=hc.f4 d4
   obtain ⟨A8,c8,rfl,h8⟩:=hc.f8 d8
   obtain ⟨o1,e1,ho1,ho2,_⟩:=hc.f10 d10
   injection e1 with e1
   injection e1 with e1
   injection e1 with e1
   subst e1
   have hnd:=hc.nd d4 d8 _ _ _ _ rfl rfl
   have hbel:=hc.bel
   clear hc hall
   go_wp2_with fail
   go_meet
   exact ⟨oo,A4,c4,A8,c8,A0,rfl,by omega,ho2,HBW.out.trans (hbel.mono (by omega)),HKA.out.next hbel,HKR.out.next hbel,hz,h4.mono (by omega) (Nat.le_refl _),h8.mono (by omega) (Nat.le_refl _),hnd⟩
 case rest =>
  obtain ⟨o,Ak,ck,Ag,cg,A0,rfl,HH⟩:=hcut
  have ho1:=HH.out.1
  have ho2:=HH.out.2.1
  have HBC:=Lib.hid HH.out.2.2.1
  have HAC:=Lib.hid HH.out.2.2.2.1
  have HRC:=Lib.hid HH.out.2.2.2.2.1
  have HOC:=Lib.hid HH.out.2.2.2.2.2.1
  have HKC:=Lib.hid HH.out.2.2.2.2.2.2.1
  have HGC:=Lib.hid HH.out.2.2.2.2.2.2.2.1
  have HND:=Lib.hid HH.out.2.2.2.2.2.2.2.2
  clear HH
  obtain ⟨A,n,c⟩:=t
  obtain ⟨i0,hi0,hz0,hz1,hz2⟩:=info_parts infoT
  have HI:=Lib.hid hi0
  have HZ:=Lib.hid hz0
  have HS:=Lib.hid hz1
  have HBY:=Lib.hid hz2
  clear hi0 hz0 hz1 hz2
  obtain ⟨k0,hi0,hz0,hz1,hz2⟩:=info_parts infoE
  have KI:=Lib.hid hi0
  have KZ:=Lib.hid hz0
  have KS:=Lib.hid hz1
  have KB:=Lib.hid hz2
  have HL:=Lib.hid HR1.out.1.len
  clear hi0 hz0 hz1 hz2
  have hwcs:w.heap.size+2≤wc.heap.size:=by omega
  go_wp2_with fail
  go_loopw [4] (fun i wr=>∃ (p:Nat) (A':Option Addr) (c':Nat),p≤n∧i=.int .i64 p∧Hid (Frm o (o+1) wc wr∧Blk wr o 42 #[.slice A' p c',.slice Ak k.n ck,.slice Ag g.n cg]∧∃ ys,ys.map (·.2)=(xs.take p).map (·.2)∧OwTs wc.heap.size wr.heap.size wr ⟨A',p,c'⟩ ys)) (fun i _=>n - (intOf i).toNat)
  case atStart=>exact ⟨0,A0,0,Nat.zero_le _,rfl,Frm.refl _ _ _,HOC.out,[],by simp,OwI.bare _ _ _ _ _ _,by simp,by simp [boxBlks],by simp [entBlks],by simp⟩
  case round =>
   obtain ⟨p,A',c',hp,rfl,HH⟩:=hrel
   have HFR:=Lib.hid HH.out.1
   have HO0:=Lib.hid HH.out.2.1
   have hsz:wc.heap.size≤wr.heap.size:=HFR.out.size
   have HAR:=Lib.hid (HAC.out.frm HFR.out (.inl (by omega)))
   have ca:=fun q=>HAR.out.cell q
   have za:=HAR.out.lt
   by_cases hlt:p<n
   ·obtain ⟨ys,hys,hot⟩:=HH.out.2.2
    have HYS:=Lib.hid hys
    have hbr:Below w.heap.size w wr:=HBC.out.trans (HFR.out.below (by omega) HBC.out.size)
    obtain ⟨b,off,x,hA,hb,hx,hrx,e0,e1,e2,e3,e4,e5,e6,e7,e8,e9,e10,e11⟩:=RdTs.cells (HR1.out.below hbr) hlt
    subst hA
    have HX:=Lib.hid hx
    have hnb0:=hrx.2.2.2
    have HRX:=Lib.hid hrx
    have HOT0:=Lib.hid hot
    have hpn:(p:Int)<n:=by omega
    have hp0:(0:Int)≤p:=by omega
    clear hys hx hrx hot HH hbr
    go_upto_region 5 with (fail)
    refine wp_region_inv2 (by kernel_rfl) (by kernel_rfl) (fun listed a w'=>∃ (s22 s23 s24 s25 s26 s27 s28 s29 s30 s31 s32 s33 s34 s35 s36 s37 s38 s39 s40 s41 s42:Value) (a1 b1:Sl) (A3:Option Addr) (c3 q:Nat),a={ tmps:=#[svV ⟨some ⟨b,off,none⟩,n,c⟩ k g,.pointer (some ⟨w.heap.size,0,none⟩),.pointer (some ⟨w.heap.size+1,0,none⟩),.pointer (some ⟨o,0,none⟩),.int .i64 p,u5,u6,u7,u8,u9,u10,u11,u12,u13,u14,.int .i64 p,.pointer (some ⟨w.heap.size,0,none⟩),.slice (some ⟨b,off,none⟩) n c,.int .i64 n,.bool true,u20,u21,s22,s23,s24,s25,s26,s27,s28,s29,s30,s31,s32,s33,s34,s35,s36,s37,s38,s39,s40,s41,s42,u43],defers:=[] }∧((Dl listed 19=false∧C2 o w.heap.size p b off n c x A' c' wr.heap.size wr (Dl listed) s22 s23 s24 s25 s26 s27 s28 s29 s30 s31 s32 s33 s34 s35 s36 s37 s38 s39 s40 s41 s42 a1 b1 A3 c3 q w')∨(Dl listed 19=true∧E2 o p wc.heap.size wc (.slice Ak k.n ck) (.slice Ag g.n cg) xs (Dl listed) s41 s42 w'))) ?_ ?_ ?_
    ·refine ⟨u22,u23,u24,u25,u26,u27,u28,u29,u30,u31,u32,u33,u34,u35,u36,u37,u38,u39,u40,u41,u42,⟨none,0,0⟩,⟨none,0,0⟩,none,0,0,rfl,.inl ⟨rfl,{ bel:=⟨rfl,rfl,rfl,Nat.le_refl _,fun _ _=>rfl⟩,hN:=rfl,f0:=?_,f1:=?_,f2:=?_,f3:=?_,f4:=?_,f5:=?_,f6:=?_,f7:=?_,f8:=?_,f9:=?_,f10:=?_,f11:=?_,f12:=?_,f13:=?_,f14:=?_,f15:=?_,f16:=?_,f17:=?_,f18:=?_,f20:=?_ }⟩⟩
     all_goals (intro q';cases q')
    ·intro listed a w' i o_ hs hcl ho hl hd hR K hK
     obtain ⟨s22,s23,s24,s25,s26,s27,s28,s29,s30,s31,s32,s33,s34,s35,s36,s37,s38,s39,s40,s41,s42,a1,b1,A3,c3,q,rfl,⟨h19,hc⟩|⟨h19,he⟩⟩:=hR
     ·have hlt22:i<22:=(Array.getElem?_eq_some_iff.1 ho).1
      rcases cases22 hlt22 with rfl|rfl|rfl|rfl|rfl|rfl|rfl|rfl|rfl|rfl|rfl|rfl|rfl|rfl|rfl|rfl|rfl|rfl|rfl|rfl|rfl|rfl
      ·cases (show some _=some o_ from ho)
       go_simp
       exact hK _ _ ⟨_,s23,s24,s25,s26,s27,s28,s29,s30,s31,s32,s33,s34,s35,s36,s37,s38,s39,s40,s41,s42,a1,b1,A3,c3,q,rfl,.inl ⟨by rw [Dl_set (by rw [hs];decide),upd_ne _ (by decide)];exact h19,by rw [Dl_set (by rw [hs];decide)];exact hc.u0 hl⟩⟩
      ·cases (show some _=some o_ from ho)
       obtain rfl:=hc.f0 (dep_ hs (by decide) (hd ⟨0,.data⟩ (by simp) rfl))
       have cc:=(HO0.out.next hc.bel).cell 0
       go_simp
       exact hK _ _ ⟨_,_,s24,s25,s26,s27,s28,s29,s30,s31,s32,s33,s34,s35,s36,s37,s38,s39,s40,s41,s42,a1,b1,A3,c3,q,rfl,.inl ⟨by rw [Dl_set (by rw [hs];decide),upd_ne _ (by decide)];exact h19,by rw [Dl_set (by rw [hs];decide)];exact hc.u1 hl⟩⟩
      ·cases (show some _=some o_ from ho)
       go_simp
       exact hK _ _ ⟨s22,s23,_,s25,s26,s27,s28,s29,s30,s31,s32,s33,s34,s35,s36,s37,s38,s39,s40,s41,s42,a1,b1,A3,c3,q,rfl,.inl ⟨by rw [Dl_set (by rw [hs];decide),upd_ne _ (by decide)];exact h19,by rw [Dl_set (by rw [hs];decide)];exact hc.u2 hl⟩⟩
      ·cases (show some _=some o_ from ho)
       obtain rfl:=hc.f2 (dep_ hs (by decide) (hd ⟨2,.data⟩ (by simp) rfl))
       have cc:=(HAR.out.next hc.bel).cell 0
       go_simp
       exact hK _ _ ⟨s22,s23,_,_,s26,s27,s28,s29,s30,s31,s32,s33,s34,s35,s36,s37,s38,s39,s40,s41,s42,a1,b1,A3,c3,q,rfl,.inl ⟨by rw [Dl_set (by rw [hs];decide),upd_ne _ (by decide)];exact h19,by rw [Dl_set (by rw [hs];decide)];exact hc.u3 hl⟩⟩
      ·cases (show some _=some o_ from ho)
       go_simp
       exact hK _ _ ⟨s22,s23,s24,s25,_,s27,s28,s29,s30,s31,s32,s33,s34,s35,s36,s37,s38,s39,s40,s41,s42,a1,b1,A3,c3,q,rfl,.inl ⟨by rw [Dl_set (by rw [hs];decide),upd_ne _ (by decide)];exact h19,by rw [Dl_set (by rw [hs];decide)];exact hc.u4 hl⟩⟩
      ·cases (show some _=some o_ from ho)
       obtain rfl:=hc.f3 (dep_ hs (by decide) (hd ⟨3,.data⟩ (by simp) rfl))
       obtain rfl:=hc.f4 (dep_ hs (by decide) (hd ⟨4,.data⟩ (by simp) rfl))
       go_simp
       exact hK _ _ ⟨s22,s23,s24,_,_,_,s28,s29,s30,s31,s32,s33,s34,s35,s36,s37,s38,s39,s40,s41,s42,a1,b1,A3,c3,q,rfl,.inl ⟨by rw [Dl_set (by rw [hs];decide),upd_ne _ (by decide)];exact h19,by rw [Dl_set (by rw [hs];decide)];exact hc.u5 hl⟩⟩
      ·cases (show some _=some o_ from ho)
       obtain rfl:=hc.f5 (dep_ hs (by decide) (hd ⟨5,.data⟩ (by simp) rfl))
       go_simp
       exact hK _ _ ⟨s22,s23,s24,s25,s26,_,_,s29,s30,s31,s32,s33,s34,s35,s36,s37,s38,s39,s40,s41,s42,a1,b1,A3,c3,q,rfl,.inl ⟨by rw [Dl_set (by rw [hs];decide),upd_ne _ (by decide)];exact h19,by rw [Dl_set (by rw [hs];decide)];exact hc.u6 hl⟩⟩
      ·cases (show some _=some o_ from ho)
       obtain rfl:=hc.f6 (dep_ hs (by decide) (hd ⟨6,.data⟩ (by simp) rfl))
       have m0:=((bcell hc.bel).1 b _ hb).trans e0
       have m1:=((bcell hc.bel).1 b _ hb).trans e1
       have m2:=((bcell hc.bel).1 b _ hb).trans e2
       have m3:=((bcell hc.bel).1 b _ hb).trans e3
       have m4:=((bcell hc.bel).1 b _ hb).trans e4
       have m5:=((bcell hc.bel).1 b _ hb).trans e5
       have m6:=((bcell hc.bel).1 b _ hb).trans e6
       have m7:=((bcell hc.bel).1 b _ hb).trans e7
       have m8:=((bcell hc.bel).1 b _ hb).trans e8
       have m9:=((bcell hc.bel).1 b _ hb).trans e9
       have m10:=((bcell hc.bel).1 b _ hb).trans e10
       go_simp
       exact hK _ _ ⟨s22,s23,s24,s25,s26,s27,_,_,s30,s31,s32,s33,s34,s35,s36,s37,s38,s39,s40,s41,s42,a1,b1,A3,c3,q,rfl,.inl ⟨by rw [Dl_set (by rw [hs];decide),upd_ne _ (by decide)];exact h19,by rw [Dl_set (by rw [hs];decide)];exact hc.u7 hl⟩⟩
      ·cases (show some _=some o_ from ho)
       obtain rfl:=hc.f7 (dep_ hs (by decide) (hd ⟨7,.data⟩ (by simp) rfl))
       go_simp
       go_at_call 170
       refine (l41Level_any x.2.l x.1.w x.1.g _ (HRX.out.1.below hc.bel)).mono ?_
       rintro e y1 ⟨a2,b2,rfl,hol,hnd,hb1⟩
       exact hK _ _ ⟨s22,s23,s24,s25,s26,s27,s28,_,_,s31,s32,s33,s34,s35,s36,s37,s38,s39,s40,s41,s42,a2,b2,A3,c3,q,rfl,.inl ⟨by rw [Dl_set (by rw [hs];decide),upd_ne _ (by decide)];exact h19,by rw [Dl_set (by rw [hs];decide)];exact (hc.next hb1).u8 hl a2 b2 (hol.mono (by rw [hc.hN];exact hc.bel.size) (Nat.le_refl _)) hnd⟩⟩
      ·cases (show some _=some o_ from ho)
       go_simp
       exact hK _ _ ⟨s22,s23,s24,s25,s26,s27,s28,s29,s30,_,s32,s33,s34,s35,s36,s37,s38,s39,s40,s41,s42,a1,b1,A3,c3,q,rfl,.inl ⟨by rw [Dl_set (by rw [hs];decide),upd_ne _ (by decide)];exact h19,by rw [Dl_set (by rw [hs];decide)];exact (hc.next (ba (Below.refl _ _))).u9 hl _⟩⟩
      ·cases (show some _=some o_ from ho)
       go_simp
       exact hK _ _ ⟨s22,s23,s24,s25,s26,s27,s28,s29,s30,s31,_,s33,s34,s35,s36,s37,s38,s39,s40,s41,s42,a1,b1,A3,c3,q,rfl,.inl ⟨by rw [Dl_set (by rw [hs];decide),upd_ne _ (by decide)];exact h19,by rw [Dl_set (by rw [hs];decide)];exact hc.u10 hl⟩⟩
      ·cases (show some _=some o_ from ho)
       obtain rfl:=hc.f10 (dep_ hs (by decide) (hd ⟨10,.data⟩ (by simp) rfl))
       have cc:=(HAR.out.next hc.bel).cell 0
       go_simp
       exact hK _ _ ⟨s22,s23,s24,s25,s26,s27,s28,s29,s30,s31,_,_,s34,s35,s36,s37,s38,s39,s40,s41,s42,a1,b1,A3,c3,q,rfl,.inl ⟨by rw [Dl_set (by rw [hs];decide),upd_ne _ (by decide)];exact h19,by rw [Dl_set (by rw [hs];decide)];exact hc.u11 hl⟩⟩
      ·cases (show some _=some o_ from ho)
       go_simp
       exact hK _ _ ⟨s22,s23,s24,s25,s26,s27,s28,s29,s30,s31,s32,s33,_,s35,s36,s37,s38,s39,s40,s41,s42,a1,b1,A3,c3,q,rfl,.inl ⟨by rw [Dl_set (by rw [hs];decide),upd_ne _ (by decide)];exact h19,by rw [Dl_set (by rw [hs];decide)];exact hc.u12 hl⟩⟩
      ·cases (show some _=some o_ from ho)
       obtain rfl:=hc.f11 (dep_ hs (by decide) (hd ⟨11,.data⟩ (by simp) rfl))
       obtain rfl:=hc.f12 (dep_ hs (by decide) (hd ⟨12,.data⟩ (by simp) rfl))
       go_simp
       exact hK _ _ ⟨s22,s23,s24,s25,s26,s27,s28,s29,s30,s31,s32,_,_,_,s36,s37,s38,s39,s40,s41,s42,a1,b1,A3,c3,q,rfl,.inl ⟨by rw [Dl_set (by rw [hs];decide),upd_ne _ (by decide)];exact h19,by rw [Dl_set (by rw [hs];decide)];exact hc.u13 hl⟩⟩
      ·cases (show some _=some o_ from ho)
       obtain rfl:=hc.f13 (dep_ hs (by decide) (hd ⟨13,.data⟩ (by simp) rfl))
       go_simp
       exact hK _ _ ⟨s22,s23,s24,s25,s26,s27,s28,s29,s30,s31,s32,s33,s34,_,_,s37,s38,s39,s40,s41,s42,a1,b1,A3,c3,q,rfl,.inl ⟨by rw [Dl_set (by rw [hs];decide),upd_ne _ (by decide)];exact h19,by rw [Dl_set (by rw [hs];decide)];exact hc.u14 hl⟩⟩
      ·cases (show some _=some o_ from ho)
       obtain rfl:=hc.f14 (dep_ hs (by decide) (hd ⟨14,.data⟩ (by simp) rfl))
       have m11:=((bcell hc.bel).1 b _ hb).trans e11
       go_simp
       exact hK _ _ ⟨s22,s23,s24,s25,s26,s27,s28,s29,s30,s31,s32,s33,s34,s35,_,_,s38,s39,s40,s41,s42,a1,b1,A3,c3,q,rfl,.inl ⟨by rw [Dl_set (by rw [hs];decide),upd_ne _ (by decide)];exact h19,by rw [Dl_set (by rw [hs];decide)];exact hc.u15 hl⟩⟩
      ·cases (show some _=some o_ from ho)
       obtain ⟨A,rfl⟩:=hc.f9 (dep_ hs (by decide) (hd ⟨9,.data⟩ (by simp) rfl))
       obtain rfl:=hc.f15 (dep_ hs (by decide) (hd ⟨15,.data⟩ (by simp) rfl))
       refine step_append_ow _ rfl (.tmp 31) (.tmp 37) _ rfl w'.heap.size 55 k0 _ 2 16 Tryz.underlying50 KI.out KZ.out KS.out KB.out rfl (by omega) _ 0 0 [] rfl (Ow.bare _ _ _ _ _) _ x.1.b.n x.1.b.c (cellsE x.2.b) rfl (Src.ents (HRX.out.2.1.below hc.bel)) (cellsE_one _) (by unfold maxLen;omega) (by omega) (Nat.le_refl _) ?_
       intro A2 c2 w3 hO hg _
       have hb3:=(Ow.bare w'.heap.size _ 55 2 _).grown hg (Below.refl _ _) (Nat.le_refl _) (Nat.le_refl _)
       rw [Nat.zero_add] at hO ⊢
       rw [List.nil_append] at hO
       exact hK _ _ ⟨s22,s23,s24,s25,s26,s27,s28,s29,s30,_,s32,s33,s34,s35,s36,_,_,s39,s40,s41,s42,a1,b1,A2,c2,q,rfl,.inl ⟨by rw [Dl_set (by rw [hs];decide),upd_ne _ (by decide)];exact h19,by rw [Dl_set (by rw [hs];decide)];exact (hc.next hb3).u16 hl A2 c2 ((OwI.of hO).mono (by rw [hc.hN];exact hc.bel.size) (Nat.le_refl _))⟩⟩
      ·cases (show some _=some o_ from ho)
       have d8:=(dep_ hs (by decide) (hd ⟨8,.data⟩ (by simp) rfl))
       have d16:=(dep_ hs (by decide) (hd ⟨16,.data⟩ (by simp) rfl))
       obtain ⟨rfl,_⟩:=hc.f8 d8
       obtain ⟨rfl,_⟩:=hc.f16 d16
       go_simp
       exact hK _ _ ⟨s22,s23,s24,s25,s26,s27,s28,s29,_,s31,s32,s33,s34,s35,s36,s37,_,_,s40,s41,s42,a1,b1,A3,c3,q,rfl,.inl ⟨by rw [Dl_set (by rw [hs];decide),upd_ne _ (by decide)];exact h19,by rw [Dl_set (by rw [hs];decide)];exact hc.u17 hl d8 d16⟩⟩
      ·cases (show some _=some o_ from ho)
       have d17:=(dep_ hs (by decide) (hd ⟨17,.data⟩ (by simp) rfl))
       obtain ⟨d8,d16,rfl⟩:=hc.f17 d17
       go_simp
       exact hK _ _ ⟨s22,s23,s24,s25,s26,s27,s28,s29,s30,s31,s32,s33,s34,s35,s36,s37,s38,_,_,s41,s42,a1,b1,A3,c3,_,rfl,.inl ⟨by rw [Dl_set (by rw [hs];decide),upd_ne _ (by decide)];exact h19,by rw [Dl_set (by rw [hs];decide)];exact (hc.next (ba (Below.refl _ _))).u18 hl d17 _ (by rw [hc.hN];exact hc.bel.size) (Blk.new _ _ _)⟩⟩
      ·cases (show some _=some o_ from ho)
       have d1:=(dep_ hs (by decide) (hd ⟨1,.data⟩ (by simp) rfl))
       have d18:=(dep_ hs (by decide) (hd ⟨18,.data⟩ (by simp) rfl))
       obtain rfl:=hc.f1 d1
       obtain ⟨d17,rfl,hq,hbq⟩:=hc.f18 d18
       obtain ⟨d8,d16,e39⟩:=hc.f17 d17
       obtain ⟨_,hL,hnd⟩:=hc.f8 d8
       obtain ⟨_,hE⟩:=hc.f16 d16
       have r18:=hd ⟨18,.data⟩ (by simp) rfl
       have r1:=hd ⟨1,.data⟩ (by simp) rfl
       have r17:=hcl 18 _ rfl r18 ⟨17,.data⟩ (by simp) rfl
       have r8:=hcl 17 _ rfl r17 ⟨8,.data⟩ (by simp) rfl
       have r16:=hcl 17 _ rfl r17 ⟨16,.data⟩ (by simp) rfl
       have r7:=hcl 8 _ rfl r8 ⟨7,.data⟩ (by simp) rfl
       have r6:=hcl 7 _ rfl r7 ⟨6,.data⟩ (by simp) rfl
       have r5:=hcl 6 _ rfl r6 ⟨5,.data⟩ (by simp) rfl
       have r3:=hcl 5 _ rfl r5 ⟨3,.data⟩ (by simp) rfl
       have r4:=hcl 5 _ rfl r5 ⟨4,.data⟩ (by simp) rfl
       have r2:=hcl 3 _ rfl r3 ⟨2,.data⟩ (by simp) rfl
       have r9:=hcl 16 _ rfl r16 ⟨9,.data⟩ (by simp) rfl
       have r15:=hcl 16 _ rfl r16 ⟨15,.data⟩ (by simp) rfl
       have r14:=hcl 15 _ rfl r15 ⟨14,.data⟩ (by simp) rfl
       have r13:=hcl 14 _ rfl r14 ⟨13,.data⟩ (by simp) rfl
       have r11:=hcl 13 _ rfl r13 ⟨11,.data⟩ (by simp) rfl
       have r12:=hcl 13 _ rfl r13 ⟨12,.data⟩ (by simp) rfl
       have r10:=hcl 11 _ rfl r11 ⟨10,.data⟩ (by simp) rfl
       have r0:=hcl 1 _ rfl r1 ⟨0,.data⟩ (by simp) rfl
       have hdone:∀ j,j<19→Dl listed j=true:=fun j hj=>by
        rcases cases22 (show j<22 by omega) with rfl|rfl|rfl|rfl|rfl|rfl|rfl|rfl|rfl|rfl|rfl|rfl|rfl|rfl|rfl|rfl|rfl|rfl|rfl|rfl|rfl|rfl
        ·exact dep_ hs (by decide) r0
        ·exact dep_ hs (by decide) r1
        ·exact dep_ hs (by decide) r2
        ·exact dep_ hs (by decide) r3
        ·exact dep_ hs (by decide) r4
        ·exact dep_ hs (by decide) r5
        ·exact dep_ hs (by decide) r6
        ·exact dep_ hs (by decide) r7
        ·exact dep_ hs (by decide) r8
        ·exact dep_ hs (by decide) r9
        ·exact dep_ hs (by decide) r10
        ·exact dep_ hs (by decide) r11
        ·exact dep_ hs (by decide) r12
        ·exact dep_ hs (by decide) r13
        ·exact dep_ hs (by decide) r14
        ·exact dep_ hs (by decide) r15
        ·exact dep_ hs (by decide) r16
        ·exact dep_ hs (by decide) r17
        ·exact dep_ hs (by decide) r18
        ·omega
        ·omega
        ·omega
       have hno21:Dl listed 21=true→False:=fun q'=>by
        have:=hcl 21 _ rfl (by rw [getD_any (by rw [hs];decide) false true];exact q') ⟨19,.data⟩ (by simp) rfl
        rw [getD_any (by rw [hs];decide) false true,hl] at this
        cases this
       have hrow:=OwI.next HOT0.out.1 hc.bel
       refine step_append_ow _ rfl (.tmp 23) (.tmp 40) _ rfl wc.heap.size 65 i0 _ 12 144 Tryz.underlying40 HI.out HZ.out HS.out HBY.out rfl (by omega) A' p c' (cellsT ys) rfl hrow.ow _ 1 1 (encT ((⟨a1,b1,⟨A3,x.1.b.n,c3⟩⟩,x.2):Row)) rfl (Src.blk hbq (encT_len _)) (encT_one _) (by unfold maxLen;omega) (by omega) (Nat.le_trans hsz hc.bel.size) ?_
       intro A4 c4 w3 hO4 hg4 _
       have hzo:=blk_apart' (HO0.out.next hc.bel) hrow.ow (by decide) hg4
       have hX:Frm o (o+1) w3 (w3.setCell ⟨o,0,none⟩ (.slice A4 (p+1) c4)):=Frm.set_ (p:=⟨o,0,none⟩) (Frm.refl _ _ _) (Nat.le_refl _) (Nat.lt_succ_self _) _
       refine hK _ _ ⟨s22,_,s24,s25,s26,s27,s28,s29,s30,s31,s32,s33,s34,s35,s36,s37,s38,s39,_,_,s42,a1,b1,A3,c3,q,rfl,.inr ⟨by rw [Dl_set (by rw [hs];decide),upd_self],?_⟩⟩
       rw [Dl_set (by rw [hs];decide)]
       refine { all:=fun j hj=>?_,f20:=fun q'=>?_,old:=fun _=>?_,fin:=fun q'=>?_ }
       ·by_cases hj9:j=19
        ·subst hj9;exact upd_self _ _
        ·rw [upd_ne _ hj9];exact hdone j (by omega)
       ·exact hc.f20 (by rw [upd_ne _ (by decide)] at q';exact q')
       ·refine ⟨A4,c4,_,rfl,hzo,A4,c4,ys ++ [(⟨a1,b1,⟨A3,x.1.b.n,c3⟩⟩,x.2)],?_,hzo.set_ 0 _,?_,?_⟩
        ·exact copy_frm2 rfl HFR.out HOT0.out.1 hc.bel hg4 hX
        ·rw [show xs.take (p+1)=xs.take p ++ [x] by rw [List.take_add_one,HX.out];rfl,List.map_append,List.map_append,HYS.out]
         rfl
        ·exact copy_round2 (o:=o) ho2 hsz (by omega) HOT0.out hc.bel (hL.mono (by rw [hc.hN];exact Nat.le_refl _) (Nat.le_refl _)) hnd (hE.mono (by rw [hc.hN];exact Nat.le_refl _) (Nat.le_refl _)) hnb0 hO4 hg4 hX
       ·exact (hno21 (by rw [upd_ne _ (by decide)] at q';exact q')).elim
      ·cases (show some _=some o_ from ho)
       go_simp
       exact hK _ _ ⟨s22,s23,s24,s25,s26,s27,s28,s29,s30,s31,s32,s33,s34,s35,s36,s37,s38,s39,s40,s41,_,a1,b1,A3,c3,q,rfl,.inl ⟨by rw [Dl_set (by rw [hs];decide),upd_ne _ (by decide)];exact h19,by rw [Dl_set (by rw [hs];decide)];exact hc.u20 hl⟩⟩
      ·cases (show some _=some o_ from ho)
       have d19:=(dep_ hs (by decide) (hd ⟨19,.data⟩ (by simp) rfl))
       rw [h19] at d19
       cases d19
     ·have hlt22:i<22:=(Array.getElem?_eq_some_iff.1 ho).1
      rcases (show i<20∨i=20∨i=21 by omega) with h20|rfl|rfl
      ·have:=he.all i h20
       unfold Dl at this
       rw [hl] at this
       cases this
      ·cases (show some _=some o_ from ho)
       go_simp
       refine hK _ _ ⟨s22,s23,s24,s25,s26,s27,s28,s29,s30,s31,s32,s33,s34,s35,s36,s37,s38,s39,s40,s41,_,a1,b1,A3,c3,q,rfl,.inr ⟨by rw [Dl_set (by rw [hs];decide),upd_ne _ (by decide)];exact h19,?_⟩⟩
       rw [Dl_set (by rw [hs];decide)]
       exact { all:=fun j hj=>by rw [upd_ne _ (by omega)];exact he.all j hj,f20:=fun _=>rfl,old:=fun q'=>he.old (by rw [upd_ne _ (by decide)] at q';exact q'),fin:=fun q'=>he.fin (by rw [upd_ne _ (by decide)] at q';exact q') }
      ·cases (show some _=some o_ from ho)
       obtain rfl:=he.f20 (dep_ hs (by decide) (hd ⟨20,.data⟩ (by simp) rfl))
       obtain ⟨A4,c4,v,rfl,hbo,hfin⟩:=he.old hl
       have cz:=fun q=>hbo.cell q
       have fz:=fun q=>hbo.frozen q
       go_simp
       refine hK _ _ ⟨s22,s23,s24,s25,s26,s27,s28,s29,s30,s31,s32,s33,s34,s35,s36,s37,s38,s39,s40,_,_,a1,b1,A3,c3,q,rfl,.inr ⟨by rw [Dl_set (by rw [hs];decide),upd_ne _ (by decide)];exact h19,?_⟩⟩
       rw [Dl_set (by rw [hs];decide)]
       exact { all:=fun j hj=>by rw [upd_ne _ (by omega)];exact he.all j hj,f20:=fun _=>rfl,old:=fun q'=>(by rw [upd_self] at q';cases q'),fin:=fun _=>hfin }
    ·intro listed a w' hall hR
     obtain ⟨s22,s23,s24,s25,s26,s27,s28,s29,s30,s31,s32,s33,s34,s35,s36,s37,s38,s39,s40,s41,s42,a1,b1,A3,c3,q,rfl,⟨h19,hc⟩|⟨h19,he⟩⟩:=hR
     ·have:=hall 19 (by decide)
      unfold Dl at h19
      rw [h19] at this
      cases this
     ·obtain ⟨A4,c4,ys',f1,f2,f3,f4⟩:=he.fin (hall 21 (by decide))
      clear he hall
      have F1:=Lib.hid f1
      have F2:=Lib.hid f2
      have F3:=Lib.hid f3
      have F4:=Lib.hid f4
      clear f1 f2 f3 f4
      go_wp2_with fail
      exact ⟨⟨p+1,A4,c4,by omega,by go_num,F1.out,F2.out,ys',F3.out,F4.out⟩,by simp [intOf];omega⟩
   ·obtain ⟨ys,hys,hot⟩:=HH.out.2.2
    have hkn:p=n:=by omega
    subst hkn
    have HOT:=Lib.hid hot
    have HYS:=Lib.hid (show ys.map (·.2)=xs.map (·.2) by rw [hys,List.take_of_length_le (by have:=HL.out;omega)])
    have HRR:=Lib.hid (HRC.out.frm HFR.out (.inl (by omega)))
    have hki:=keepI_frm HFR.out HOC.out (by decide)
    have HKR:=Lib.hid (keepZ HKC.out hki)
    have HGR:=Lib.hid (keepZ HGC.out hki)
    have cO:=fun q=>HO0.out.cell q
    have cr:=fun q=>HRR.out.cell q
    have fr:=fun q=>HRR.out.frozen q
    have zr:=HRR.out.lt
    have hbr:Below w.heap.size w wr:=HBC.out.trans (HFR.out.below (by omega) HBC.out.size)
    have HBR:=Lib.hid hbr
    clear hys hot hki HH hbr
    go_wp2_with fail
    refine bodyPost_ret (v:=svV ⟨A',p,c'⟩ ⟨Ak,k.n,ck⟩ ⟨Ag,g.n,cg⟩) (by simp [results,Tryz.results92,go_sem,cr]) rfl ?_
    have hend:∀ X:World,Frm (w.heap.size+1) (w.heap.size+2) wr X→∃ t' k' g',Ending.returned (svV ⟨A',p,c'⟩ ⟨Ak,k.n,ck⟩ ⟨Ag,g.n,cg⟩)=.returned (svV t' k' g')∧OwS w.heap.size X.heap.size X t' k' g' S∧Below w.heap.size w X:=fun X hX =>
     ⟨⟨A',p,c'⟩,⟨Ak,k.n,ck⟩,⟨Ag,g.n,cg⟩,rfl,⟨⟨ys,HYS.out.trans HXS.out,(HOT.out.frm hX (.inr hwcs)).mono (by omega) hX.size⟩,(OwI.frm HKR.out hX (.inr (Nat.le_refl _))).mono (by omega) (Nat.le_trans hsz hX.size),(OwI.frm HGR.out hX (.inr (Nat.le_refl _))).mono (by omega) (Nat.le_trans hsz hX.size),HND.out,hn2,hn3⟩,HBR.out.trans (hX.below (by omega) HBR.out.size)⟩
    refine hend _ ?_
    iterate 3 (refine Frm.set_ ?_ (by simp) (by simp) _)
    exact Frm.refl _ _ _
end Go.Proofs.YtkgfmgajhgfgjaaGreatDoor

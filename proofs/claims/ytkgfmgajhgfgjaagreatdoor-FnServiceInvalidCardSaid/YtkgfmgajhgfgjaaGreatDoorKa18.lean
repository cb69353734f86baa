/-
  Lemmas and contracts: Cs. No condition.
-/
import Derived.Deep.RegionHeld3
import Derived.Test.YtkgfmgajhgfgjaaGreatDoorKa16
set_option linter.unusedSimpArgs false
set_option linter.unusedVariables false
set_option linter.unusedSectionVars false
namespace Go.Proofs.YtkgfmgajhgfgjaaGreatDoor
open Go.RowKit Go.Sort
theorem KeepI.of_below {a b:World} (h:Below a.heap.size a b):KeepI a b:=fun x _ hx=>h.block x hx.lt
theorem two_ints {B B1 n1 n2 c1 c2:Nat} {A1 A2:Option Addr} {z1 z2:List Int} {x1 x1' x2 X:World} (hO1:Ow B1 x1 3 1 A1 n1 c1 (cellsI z1)) (hx:Below x1.heap.size x1 x1') (hO2:Ow x1'.heap.size x2 3 1 A2 n2 c2 (cellsI z2)) (hb2:Below x1'.heap.size x1' x2) (hk:KeepI x2 X) (hs:x2.heap.size≤X.heap.size) (hB:B≤B1) (h1:B≤x1.heap.size) :
  OwZ B X.heap.size X ⟨A1,n1,c1⟩ z1∧OwZ B X.heap.size X ⟨A2,n2,c2⟩ z2∧(blkOf ⟨A1,n1,c1⟩ ++ blkOf ⟨A2,n2,c2⟩).Nodup∧(blkOf ⟨A2,n2,c2⟩ ++ blkOf ⟨A1,n1,c1⟩).Nodup:=by
 have i1:OwZ B1 x1.heap.size X ⟨A1,n1,c1⟩ z1:=keepZ (s:=⟨A1,n1,c1⟩) (((OwI.of hO1).next hx).next hb2) hk
 have i2:OwZ x1'.heap.size x2.heap.size X ⟨A2,n2,c2⟩ z2:=keepZ (s:=⟨A2,n2,c2⟩) (OwI.of hO2) hk
 have s1:=hx.size
 have s2:=hb2.size
 have hn:(blkOf ⟨A1,n1,c1⟩ ++ blkOf ⟨A2,n2,c2⟩).Nodup:=nodup_app x1'.heap.size (blkOf_nodup _) (blkOf_nodup _) (fun g hg=>by have:=(OwI.mem (s:=⟨A1,n1,c1⟩) i1 g hg).2;omega) (fun g hg=>(OwI.mem (s:=⟨A2,n2,c2⟩) i2 g hg).1)
 obtain ⟨n1,n2,d⟩:=List.nodup_append.1 hn
 exact ⟨i1.mono hB (by omega),i2.mono (by omega) hs,hn,List.nodup_append.2 ⟨n2,n1,fun a ha b hb e=>d b hb a ha e.symm⟩⟩
theorem two_ints12 {B B1 n1 n2 c1 c2:Nat} {A1 A2:Option Addr} {z1 z2:List Int} {x1 x1' x2 X:World} (hO1:Ow B1 x1 3 1 A1 n1 c1 (cellsI z1)) (hx:Below x1.heap.size x1 x1') (hO2:Ow x1'.heap.size x2 3 1 A2 n2 c2 (cellsI z2)) (hb2:Below x1'.heap.size x1' x2) (hk:KeepI x2 X) (hs:x2.heap.size≤X.heap.size) (hB:B≤B1) (h1:B≤x1.heap.size) :
  OwZ B X.heap.size X ⟨A1,n1,c1⟩ z1∧OwZ B X.heap.size X ⟨A2,n2,c2⟩ z2∧(blkOf ⟨A1,n1,c1⟩ ++ blkOf ⟨A2,n2,c2⟩).Nodup:=by
 obtain ⟨r1,r2,r3,_⟩:=two_ints hO1 hx hO2 hb2 hk hs hB h1
 exact ⟨r1,r2,r3⟩
theorem blk_set3 {w:World} {g T o:Nat} {cs:Array Value} {v0 v1 v2:Value} (h:Blk w g T cs) (hne:g≠o):Blk (((w.setCell ⟨o,0,none⟩ v0).setCell ⟨o,1,none⟩ v1).setCell ⟨o,2,none⟩ v2) g T cs :=
 ((h.far (p:=⟨o,0,none⟩) hne _).far (p:=⟨o,1,none⟩) hne _).far (p:=⟨o,2,none⟩) hne _
theorem blk_own3 {w:World} {T o:Nat} {u0 u1 u2 v0 v1 v2:Value} (h:Blk w o T #[u0,u1,u2]):Blk (((w.setCell ⟨o,0,none⟩ v0).setCell ⟨o,1,none⟩ v1).setCell ⟨o,2,none⟩ v2) o T #[v0,v1,v2] :=
 ((h.set_ 0 v0).set_ 1 v1).set_ 2 v2
theorem below_set3 {B o:Nat} {a w:World} {v0 v1 v2:Value} (h:Below B a w) (ho:B≤o):Below B a (((w.setCell ⟨o,0,none⟩ v0).setCell ⟨o,1,none⟩ v1).setCell ⟨o,2,none⟩ v2) :=
 ((h.setCell (p:=⟨o,0,none⟩) ho _).setCell (p:=⟨o,1,none⟩) ho _).setCell (p:=⟨o,2,none⟩) ho _
theorem keepI_set3 {w:World} {T o:Nat} {cs:Array Value} {v0 v1 v2:Value} (h:Blk w o T cs) (hne:3≠T):KeepI w (((w.setCell ⟨o,0,none⟩ v0).setCell ⟨o,1,none⟩ v1).setCell ⟨o,2,none⟩ v2) :=
 KeepI.only h hne (Only.set_ (p:=⟨o,2,none⟩) (Only.set_ (p:=⟨o,1,none⟩) (Only.set_ (p:=⟨o,0,none⟩) (Only.refl o w) (.inl rfl) v0) (.inl rfl) v1) (.inl rfl) v2)
theorem size_set3 {w:World} {o:Nat} {v0 v1 v2:Value}:(((w.setCell ⟨o,0,none⟩ v0).setCell ⟨o,1,none⟩ v1).setCell ⟨o,2,none⟩ v2).heap.size=w.heap.size:=by simp [World.setCell]
theorem blk_new' (w:World) (T:Nat) (cs:Array Value):Blk (w.alloc (.cells cs T)) w.heap.size T cs:=Blk.new w T cs
theorem keepA {w:World} {o:Obj} {a:Addr} {v:Value} (h:w.cell? a=some v):(w.alloc o).cell? a=some v:=(World.cell?_alloc_lt _ _ _ (World.block_lt_of_cell? w a h)).trans h
theorem keep3 {w:World} {b g o:Nat} {v0 v1 v2:Value} {u:Option Value} (hne:b≠g) (h:w.cell? ⟨b,o,none⟩=u):(((w.setCell ⟨g,0,none⟩ v0).setCell ⟨g,1,none⟩ v1).setCell ⟨g,2,none⟩ v2).cell? ⟨b,o,none⟩=u:=by
 have hf:Frm g (g+1) w (((w.setCell ⟨g,0,none⟩ v0).setCell ⟨g,1,none⟩ v1).setCell ⟨g,2,none⟩ v2):=by
  iterate 3 (refine Frm.set_ ?_ (by simp) (by simp) _)
  exact Frm.refl _ _ _
 have hb:(((w.setCell ⟨g,0,none⟩ v0).setCell ⟨g,1,none⟩ v1).setCell ⟨g,2,none⟩ v2).heap[b]?=w.heap[b]?:=by
  rcases Nat.lt_or_ge b w.heap.size with hlt|hge
  ·exact hf.block b hlt (by omega)
  ·rw [Array.getElem?_eq_none hge,Array.getElem?_eq_none (by simpa [World.setCell] using hge)]
 rw [← h]
 exact World.cell?_of_block (w:=w) hb
set_option maxRecDepth 100000 in
set_option maxHeartbeats 8000000 in
theorem copyService_any (t k g:Sl) (S:Svc) (w:World) (hr:RdS w t k g S) :
  Calls Tryz.prog 66 #[svV t k g] w fun e w'=>∃ t' k' g',e=.returned (svV t' k' g')∧OwS w.heap.size w'.heap.size w' t' k' g' S∧Below w.heap.size w w':=by
 obtain ⟨⟨xs,hxs,hr1⟩,hr2,hr3,⟨_,hn1⟩,⟨_,hn2⟩,_,hn3⟩:=hr
 have HR1:=Lib.hid hr1
 have HR2:=Lib.hid hr2
 have HR3:=Lib.hid hr3
 have HXS:=Lib.hid hxs
 clear hr1 hr2 hr3 hxs
 go_enter Tryz.func66,Tryz.ntmps66
 go_upto_region 1 with (fail)
 refine into_world (fun W=>Below w.heap.size w W∧W.heap.size=w.heap.size+2∧Blk W w.heap.size 42 #[.slice t.a t.n t.c,.slice k.a k.n k.c,.slice g.a g.n g.c]∧Blk W (w.heap.size+1) 42 #[.slice none 0 0,.slice none 0 0,.slice none 0 0]) ⟨by go_grown,by simp,(Blk.new _ _ _).alloc _,Blk.newAt _ _ _ _ (by simp)⟩ ?_
 rintro W ⟨hbw,hwz,hka,hkr⟩
 have hd2:RdI .i64 W k.a k.n S.keys:=HR2.out.below hbw
 have hd3:RdI .i64 W g.a g.n S.tags:=HR3.out.below hbw
 have HD2:=Lib.hid (show RdI .i64 W.drew k.a k.n S.keys from hd2)
 have HD3:=Lib.hid (show RdI .i64 W.drew g.a g.n S.tags from hd3)
 have HBW:=Lib.hid hbw
 have HWZ:=Lib.hid hwz
 have HKA:=Lib.hid hka
 have HKR:=Lib.hid hkr
 have cw1:W.drew.cell? ⟨w.heap.size,1,none⟩=some (.slice k.a k.n k.c):=hka.cell 1
 have cw2:W.drew.cell? ⟨w.heap.size,2,none⟩=some (.slice g.a g.n g.c):=hka.cell 2
 have za:=hka.lt
 clear hbw hka hkr hd2 hd3 hwz
 have HZA:=Lib.hid (show Blk ((W.alloc (.cells #[.slice none 0 0,.slice none 0 0,.slice none 0 0] 42)).drew) W.heap.size 42 #[.slice none 0 0,.slice none 0 0,.slice none 0 0] from Blk.new W 42 #[.slice none 0 0,.slice none 0 0,.slice none 0 0])
 have HBA:=Lib.hid (show Below W.drew.heap.size W.drew ((W.alloc (.cells #[.slice none 0 0,.slice none 0 0,.slice none 0 0] 42)).drew) from ba (w:=W.drew) (o:=.cells #[.slice none 0 0,.slice none 0 0,.slice none 0 0] 42) (Below.refl _ _))
 have HD2A:=Lib.hid (show RdI .i64 ((W.alloc (.cells #[.slice none 0 0,.slice none 0 0,.slice none 0 0] 42)).drew) k.a k.n S.keys from HD2.out.below HBA.out)
 have HD3A:=Lib.hid (show RdI .i64 ((W.alloc (.cells #[.slice none 0 0,.slice none 0 0,.slice none 0 0] 42)).drew) g.a g.n S.tags from HD3.out.below HBA.out)
 have ca1:((W.alloc (.cells #[.slice none 0 0,.slice none 0 0,.slice none 0 0] 42)).drew).cell? ⟨w.heap.size,1,none⟩=some (.slice k.a k.n k.c):=(HKA.out.drew.next HBA.out).cell 1
 have ca2:((W.alloc (.cells #[.slice none 0 0,.slice none 0 0,.slice none 0 0] 42)).drew).cell? ⟨w.heap.size,2,none⟩=some (.slice g.a g.n g.c):=(HKA.out.drew.next HBA.out).cell 2
 go_cut [3] (fun s wx=>∃ o A c A' c',s=.pointer (some ⟨o,0,none⟩)∧Hid (w.heap.size+2≤o∧o<wx.heap.size∧Below w.heap.size w wx∧Blk wx w.heap.size 42 #[.slice t.a t.n t.c,.slice k.a k.n k.c,.slice g.a g.n g.c]∧Blk wx (w.heap.size+1) 42 #[.slice none 0 0,.slice none 0 0,.slice none 0 0]∧Blk wx o 42 #[.slice none 0 0,.slice A k.n c,.slice A' g.n c']∧OwZ (w.heap.size+2) wx.heap.size wx ⟨A,k.n,c⟩ S.keys∧OwZ (w.heap.size+2) wx.heap.size wx ⟨A',g.n,c'⟩ S.tags∧(blkOf ⟨A,k.n,c⟩ ++ blkOf ⟨A',g.n,c'⟩).Nodup))
 case first =>
  go_region_held3 (fun w'=>w'.cell? ⟨w.heap.size,1,none⟩=some (.slice k.a k.n k.c)∧w'.cell? ⟨w.heap.size,2,none⟩=some (.slice g.a g.n g.c))
   (with_reducible (first|exact ⟨cw1,cw2⟩|exact ⟨ca1,ca2⟩|exact ⟨cx1,cx2⟩|exact ⟨keepA cx1,keepA cx2⟩|(refine ⟨keep3 ?_ cx1,keep3 ?_ cx2⟩ <;> omega)))
   (first
    | (go_at_call 138;refine (cloneI_any k.a k.n k.c S.keys _ ?hq hn2).mono ?_;(case hq=>with_reducible first|exact HD2.out|exact HD2A.out|exact HD2.out.below h2|exact (HD2.out.below h2).below (ba (Below.refl _ _)));rintro e x1 ⟨A1,c1,rfl,hO1,hb1⟩;have h1:Below W.drew.heap.size W.drew x1:=(by with_reducible (first|exact hb1|exact below_next HBA.out hb1|exact below_next h2 hb1|exact below_next h2 (ba hb1)));have sz1:W.heap.size≤x1.heap.size:=h1.size;have hk1:=(HKA.out.drew).next h1;have cx1:x1.cell? ⟨w.heap.size,1,none⟩=some (.slice k.a k.n k.c):=hk1.cell 1;have cx2:x1.cell? ⟨w.heap.size,2,none⟩=some (.slice g.a g.n g.c):=hk1.cell 2;(with_reducible first|(have hz1:=HZA.out.next hb1;have cz1:=fun o=>hz1.cell o;have fz1:=fun o=>hz1.frozen o;have zz1:=hz1.lt)|(have hz1:=(Blk.new _ 42 #[.slice none 0 0,.slice none 0 0,.slice none 0 0]).next hb1;have cz1:=fun o=>hz1.cell o;have fz1:=fun o=>hz1.frozen o;have zz1:=hz1.lt)|(have hz1:=hz2.next hb1;have cz1:=fun o=>hz1.cell o;have fz1:=fun o=>hz1.frozen o;have zz1:=hz1.lt)|skip))
    | (go_at_call 138;refine (cloneI_any g.a g.n g.c S.tags _ ?hq hn3).mono ?_;(case hq=>with_reducible first|exact HD3.out|exact HD3A.out|exact HD3.out.below h1|exact (HD3.out.below h1).below (ba (Below.refl _ _)));rintro e x2 ⟨A2,c2,rfl,hO2,hb2⟩;have h2:Below W.drew.heap.size W.drew x2:=(by with_reducible (first|exact hb2|exact below_next HBA.out hb2|exact below_next h1 hb2|exact below_next h1 (ba hb2)));have sz2:W.heap.size≤x2.heap.size:=h2.size;have hk2:=(HKA.out.drew).next h2;have cx1:x2.cell? ⟨w.heap.size,1,none⟩=some (.slice k.a k.n k.c):=hk2.cell 1;have cx2:x2.cell? ⟨w.heap.size,2,none⟩=some (.slice g.a g.n g.c):=hk2.cell 2;(with_reducible first|(have hz2:=HZA.out.next hb2;have cz2:=fun o=>hz2.cell o;have fz2:=fun o=>hz2.frozen o;have zz2:=hz2.lt)|(have hz2:=(Blk.new _ 42 #[.slice none 0 0,.slice none 0 0,.slice none 0 0]).next hb2;have cz2:=fun o=>hz2.cell o;have fz2:=fun o=>hz2.frozen o;have zz2:=hz2.lt)|(have hz2:=hz1.next hb2;have cz2:=fun o=>hz2.cell o;have fz2:=fun o=>hz2.frozen o;have zz2:=hz2.lt)|skip)))
  all_goals
   go_wp2_with fail
   go_meet
   have hwz:=HWZ.out
   have hlt:w.heap.size+2≤W.heap.size:=by omega
   refine ⟨_,A1,c1,A2,c2,rfl,?_,?_,?_,?_,?_,?_,?_⟩
   ·omega
   ·first
     | (rw [size_set3];first|exact zz2|exact zz1)
     | simp
   ·with_reducible first
     | refine (HBW.out.trans ((below_undrew h2).mono ?_)).alloc ?_ _
     | refine (HBW.out.trans ((below_undrew h1).mono ?_)).alloc ?_ _
     | refine below_set3 (HBW.out.trans ((below_undrew h2).mono ?_)) ?_
     | refine below_set3 (HBW.out.trans ((below_undrew h1).mono ?_)) ?_
    all_goals omega
   ·with_reducible first
     | exact hk2.alloc _
     | exact hk1.alloc _
     | refine blk_set3 hk2 ?_
     | refine blk_set3 hk1 ?_
    all_goals omega
   ·with_reducible first
     | exact ((HKR.out.drew).next h2).alloc _
     | exact ((HKR.out.drew).next h1).alloc _
     | refine blk_set3 ((HKR.out.drew).next h2) ?_
     | refine blk_set3 ((HKR.out.drew).next h1) ?_
    all_goals omega
   ·with_reducible first
     | exact blk_new' _ _ _
     | exact blk_own3 hz2
     | exact blk_own3 hz1
   ·with_reducible first
     | refine two_ints12 hO1 (Below.refl _ _) hO2 hb2 ?_ ?_ ?_ ?_
     | refine two_ints12 hO1 (ba (Below.refl _ _)) hO2 hb2 ?_ ?_ ?_ ?_
     | refine two_ints21 hO2 (Below.refl _ _) hO1 hb1 ?_ ?_ ?_ ?_
     | refine two_ints21 hO2 (ba (Below.refl _ _)) hO1 hb1 ?_ ?_ ?_ ?_
    ·with_reducible first
      | exact KeepI.of_below (ba (Below.refl _ _))
      | exact keepI_set3 hz2 (by decide)
      | exact keepI_set3 hz1 (by decide)
    ·first
      | (rw [size_set3];exact Nat.le_refl _)
      | simp
    ·first
      | exact hlt
      | exact Nat.le_trans hlt HBA.out.size
    ·omega
 case rest =>
  obtain ⟨o,Ak,ck,Ag,cg,rfl,HH⟩:=hcut
  have ho1:=HH.out.1
  have ho2:=HH.out.2.1
  have HBC:=Lib.hid HH.out.2.2.1
  have HAC:=Lib.hid HH.out.2.2.2.1
  have HRC:=Lib.hid HH.out.2.2.2.2.1
  have HOC:=Lib.hid HH.out.2.2.2.2.2.1
  have HKC:=Lib.hid HH.out.2.2.2.2.2.2.1
  have HGC:=Lib.hid HH.out.2.2.2.2.2.2.2.1
  have HND:=Lib.hid HH.out.2.2.2.2.2.2.2.2
  have ca:=fun o=>HAC.out.cell o
  clear HH cw1 cw2 ca1 ca2 za
  -- LOOP
  obtain ⟨A,n,c⟩:=t
  obtain ⟨i0,hi0,hz0,hz1,hz2⟩:=info_parts infoT
  have HI:=Lib.hid hi0
  have HZ:=Lib.hid hz0
  have HS:=Lib.hid hz1
  have HBY:=Lib.hid hz2
  have HL:=Lib.hid HR1.out.1.len
  clear hi0 hz0 hz1 hz2
  have hwcs:w.heap.size+2≤wc.heap.size:=by omega
  go_wp2_with fail
  go_loopw [5,16] (fun _ i wr=>∃ (p:Nat) (A':Option Addr) (c':Nat),p≤n∧i=.int .i64 p∧Hid (Frm o (o+1) wc wr∧Blk wr o 42 #[.slice A' p c',.slice Ak k.n ck,.slice Ag g.n cg]∧∃ ys,ys.map (·.2)=(xs.take p).map (·.2)∧OwTs wc.heap.size wr.heap.size wr ⟨A',p,c'⟩ ys)) (fun _ i _=>n - (intOf i).toNat)
  case atStart=>exact ⟨0,none,0,Nat.zero_le _,rfl,Frm.refl _ _ _,HOC.out,[],by simp,OwI.bare _ _ _ _ _ _,by simp,by simp [boxBlks],by simp [entBlks],by simp⟩
  case round =>
   obtain ⟨p,A',c',hp,rfl,HH⟩:=hrel
   have HFR:=Lib.hid HH.out.1
   have HO0:=Lib.hid HH.out.2.1
   have hsz:wc.heap.size≤wr.heap.size:=HFR.out.size
   have HAR:=Lib.hid (HAC.out.frm HFR.out (.inl (by omega)))
   by_cases hlt:p<n
   ·obtain ⟨ys,hys,hot⟩:=HH.out.2.2
    have HYS:=Lib.hid hys
    have hbr:Below w.heap.size w wr:=HBC.out.trans (HFR.out.below (by omega) HBC.out.size)
    obtain ⟨b,off,x,hA,hb,hx,hrx,e0,e1,e2,e3,e4,e5,e6,e7,e8,e9,e10,e11⟩:=RdTs.cells (HR1.out.below hbr) hlt
    subst hA
    have HX:=Lib.hid hx
    have hnb:=Nat.le_trans hrx.2.2.2 (show 1048576≤1099511627776 by decide)
    have hnb0:=hrx.2.2.2
    have HRX:=Lib.hid hrx
    have HOT0:=Lib.hid hot
    clear hys hx hrx hot HH hbr
    go_upto_region 5 with (fail)
    refine into_world (fun W=>Below wr.heap.size wr W∧W.heap.size=wr.heap.size+1∧Blk W wr.heap.size 65 #[.int .i64 x.2.l.id,.int .i64 x.2.l.ticks,.int .i64 x.2.l.sx,.int .i64 x.2.l.sy,.slice x.1.w.a x.1.w.n x.1.w.c,.slice x.1.g.a x.1.g.n x.1.g.c,.int .i64 x.2.l.f.1,.int .i64 x.2.l.f.2.1,.int .i64 x.2.l.f.2.2.1,.int .i64 x.2.l.f.2.2.2,.int .i64 x.2.l.bans,.slice x.1.b.a x.1.b.n x.1.b.c]∧Blk W o 42 #[.slice A' p c',.slice Ak k.n ck,.slice Ag g.n cg]) ⟨(ba (Below.refl _ _)),by simp,Blk.new _ _ _,HO0.out.alloc _⟩ ?_
    rintro W ⟨hbW,hWz,hT,hO⟩
    have HOT:=Lib.hid (HOT0.out.next hbW)
    have hlx:RdL W x.2.l x.1.w x.1.g:=HRX.out.1.below hbW
    have hex:RdE W x.1.b.a x.1.b.n x.2.b:=HRX.out.2.1.below hbW
    have HLX:=Lib.hid (show RdL W.drew x.2.l x.1.w x.1.g from hlx)
    have HEX:=Lib.hid (show RdE W.drew x.1.b.a x.1.b.n x.2.b from hex)
    have HT:=Lib.hid hT
    have HO:=Lib.hid hO
    have HBW:=Lib.hid hbW
    have st0:=t12 (show Blk W.drew wr.heap.size 65 #[.int .i64 x.2.l.id,.int .i64 x.2.l.ticks,.int .i64 x.2.l.sx,.int .i64 x.2.l.sy,.slice x.1.w.a x.1.w.n x.1.w.c,.slice x.1.g.a x.1.g.n x.1.g.c,.int .i64 x.2.l.f.1,.int .i64 x.2.l.f.2.1,.int .i64 x.2.l.f.2.2.1,.int .i64 x.2.l.f.2.2.2,.int .i64 x.2.l.bans,.slice x.1.b.a x.1.b.n x.1.b.c] from hT)
    have co0:W.drew.cell? ⟨o,0,none⟩=some (.slice A' p c'):=hO.cell 0
    clear hlx hex hT hO hbW e0 e1 e2 e3 e4 e5 e6 e7 e8 e9 e10 e11
    obtain ⟨q0,q1,q2,q3,q4,q5,q6,q7,q8,q9,q10,q11⟩:=st0
    go_region_law (first
    | (refine step_append_ow _ rfl (.tmp 21) (.tmp 29) _ rfl wc.heap.size 65 i0 _ 12 144 Tryz.underlying40 HI.out HZ.out HS.out HBY.out rfl (by omega) A' p c' (cellsT ys) rfl ((OwI.next (OwI.next HOT.out.1 (below_undrew hlast)) (ba (Below.refl _ _))).ow) _ 1 1 (encT (⟨a1,b1,⟨A3,x.1.b.n,c3⟩⟩,x.2)) rfl (Src.blk (Blk.new _ 65 _) rfl) (encT_one _) (by unfold maxLen;omega) (by omega) (by simp;omega) ?_;intro A4 c4 w3 hO4 hg4 _;have st:=t12 (blk_t (hzl.alloc _) HOT0.out.1 hg4 (Nat.le_refl _));have hzo:=blk_apart' (hzol.alloc _) ((OwI.next (OwI.next HOT.out.1 (below_undrew hlast)) (ba (Below.refl _ _))).ow) (by decide) hg4;have co:=fun q=>hzo.cell q;have fo:=fun q=>hzo.frozen q;have zo:=hzo.lt;have hzt:=blk_t (hzl.alloc _) HOT0.out.1 hg4 (Nat.le_refl _))
    | (go_simp;go_at_call 69;refine (copyLevel_any x.2.l x.1.w x.1.g _ ?hq).mono ?_;(case hq=>with_reducible first|exact HLX.out|exact (HLX.out.below h2));rintro e x1 ⟨a1,b1,rfl,hol,hnd,hb1⟩;have h1:Below W.drew.heap.size W.drew x1:=(by with_reducible (first|exact hb1|exact below_next h2 hb1));have hlast:=h1;have hzl:=(HT.out.drew).next h1;have st:=t12 hzl;obtain ⟨s0,s1,s2,s3,s4,s5,s6,s7,s8,s9,s10,s11⟩:=st;have hzol:=(HO.out.drew).next h1;have col:x1.cell? ⟨o,0,none⟩=some (.slice A' p c'):=hzol.cell 0;have hzll:=hzol.lt;have htll:=hzl.lt;have hsl:W.heap.size≤x1.heap.size:=h1.size)
    | (go_simp;go_at_call 75;refine (clone_any x.1.b.a x.1.b.n x.1.b.c x.2.b _ ?hq hnb).mono ?_;(case hq=>with_reducible first|exact HEX.out|exact (HEX.out.below h1));rintro e x2 ⟨A3,c3,rfl,hO3,hb2⟩;have h2:Below W.drew.heap.size W.drew x2:=(by with_reducible (first|exact hb2|exact below_next h1 hb2));have hlast:=h2;have hzl:=(HT.out.drew).next h2;have st:=t12 hzl;obtain ⟨s0,s1,s2,s3,s4,s5,s6,s7,s8,s9,s10,s11⟩:=st;have hzol:=(HO.out.drew).next h2;have col:x2.cell? ⟨o,0,none⟩=some (.slice A' p c'):=hzol.cell 0;have hzll:=hzol.lt;have htll:=hzl.lt;have hsl:W.heap.size≤x2.heap.size:=h2.size))
    all_goals
     have hball:=below_next HBW.out (below_undrew hlast)
     have hdz:wr.heap.size≤W.drew.heap.size:=HBW.out.size
     go_wp2_with fail
     refine ⟨⟨p+1,A4,c4,by omega,by go_num,?_,?_,ys ++ [(⟨a1,b1,⟨A3,x.1.b.n,c3⟩⟩,x.2)],?_,?_⟩,by simp [intOf];omega⟩
     ·exact copy_frm rfl HFR.out HOT0.out.1 hball hg4 (Frm.set_ (p:=⟨o,0,none⟩) (Frm.refl _ _ _) (Nat.le_refl _) (Nat.lt_succ_self _) _)
     ·exact hzo.set_ 0 _
     ·rw [show xs.take (p+1)=xs.take p ++ [x] by rw [List.take_add_one,HX.out];rfl,List.map_append,List.map_append,HYS.out]
      rfl
     ·refine copy_round (o:=o) ho2 hsz (by omega) HOT0.out hball ?_ hnd ?_ hnb0 hO4 hg4 (Frm.set_ (p:=⟨o,0,none⟩) (Frm.refl _ _ _) (Nat.le_refl _) (Nat.lt_succ_self _) _)
      ·with_reducible first
        | exact (hol.next hb2).mono hdz hb2.size
        | exact hol.mono (Nat.le_trans hdz h2.size) (Nat.le_refl _)
      ·with_reducible first
        | exact (OwI.of hO3).mono (Nat.le_trans hdz h1.size) (Nat.le_refl _)
        | exact ((OwI.of hO3).next hb1).mono hdz hb1.size
   ·obtain ⟨ys,hys,hot⟩:=HH.out.2.2
    have hkn:p=n:=by omega
    subst hkn
    have HOT:=Lib.hid hot
    have HYS:=Lib.hid (show ys.map (·.2)=xs.map (·.2) by rw [hys,List.take_of_length_le (by have:=HL.out;omega)])
    have HRR:=Lib.hid (HRC.out.frm HFR.out (.inl (by omega)))
    have hki:=keepI_frm HFR.out HOC.out (by decide)
    have HKR:=Lib.hid (keepZ HKC.out hki)
    have HGR:=Lib.hid (keepZ HGC.out hki)
    have cO:=fun q=>HO0.out.cell q
    have cr:=fun q=>HRR.out.cell q
    have fr:=fun q=>HRR.out.frozen q
    have zr:=HRR.out.lt
    have hbr:Below w.heap.size w wr:=HBC.out.trans (HFR.out.below (by omega) HBC.out.size)
    have HBR:=Lib.hid hbr
    clear hys hot hki HH hbr
    go_wp2_with fail
    refine bodyPost_ret (v:=svV ⟨A',p,c'⟩ ⟨Ak,k.n,ck⟩ ⟨Ag,g.n,cg⟩) (by simp [results,Tryz.results66,go_sem,cr]) rfl ?_
    have hend:∀ X:World,Frm (w.heap.size+1) (w.heap.size+2) wr X→∃ t' k' g',Ending.returned (svV ⟨A',p,c'⟩ ⟨Ak,k.n,ck⟩ ⟨Ag,g.n,cg⟩)=.returned (svV t' k' g')∧OwS w.heap.size X.heap.size X t' k' g' S∧Below w.heap.size w X:=fun X hX =>
     ⟨⟨A',p,c'⟩,⟨Ak,k.n,ck⟩,⟨Ag,g.n,cg⟩,rfl,⟨⟨ys,HYS.out.trans HXS.out,(HOT.out.frm hX (.inr hwcs)).mono (by omega) hX.size⟩,(OwI.frm HKR.out hX (.inr (Nat.le_refl _))).mono (by omega) (Nat.le_trans hsz hX.size),(OwI.frm HGR.out hX (.inr (Nat.le_refl _))).mono (by omega) (Nat.le_trans hsz hX.size),HND.out,hn2,hn3⟩,HBR.out.trans (hX.below (by omega) HBR.out.size)⟩
    refine hend _ ?_
    iterate 3 (refine Frm.set_ ?_ (by simp) (by simp) _)
    exact Frm.refl _ _ _
end Go.Proofs.YtkgfmgajhgfgjaaGreatDoor

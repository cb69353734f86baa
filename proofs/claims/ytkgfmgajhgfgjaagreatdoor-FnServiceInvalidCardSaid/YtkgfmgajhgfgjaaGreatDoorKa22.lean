/-
  Lemmas and contracts: En. No condition.
-/
import Derived.Deep.MidRow
import Derived.Test.YtkgfmgajhgfgjaaGreatDoorKa10
set_option linter.unusedSimpArgs false
set_option linter.unusedVariables false
set_option linter.unusedSectionVars false
namespace Go.Proofs.YtkgfmgajhgfgjaaGreatDoor
open Go.RowKit Go.Sort
set_option maxRecDepth 100000 in
set_option maxHeartbeats 8000000 in
theorem l91Level_any (g p:Nat) (w:World) (h:Rdr w g p) (hp:p≤1000000) :
  Calls Tryz.prog 45 #[.pointer (some ⟨g,0,none⟩)] w (LvPost g p 200 w):=by
 have hg:=h.lt
 have hne:w.heap.size≠g:=by omega
 have HD:=Lib.hid (show Dr w g p (w.alloc (.cells #[.int .i64 0,.int .i64 0,.int .i64 0,.int .i64 0,.slice none 0 0,.slice none 0 0,.int .i64 0,.int .i64 0,.int .i64 0,.int .i64 0,.int .i64 0] 29)) from Dr.next ⟨h,Only.refl _ _⟩ (ba (Below.refl _ _)))
 have KR:=Lib.hid (Blk.new w 29 #[.int .i64 0,.int .i64 0,.int .i64 0,.int .i64 0,.slice none 0 0,.slice none 0 0,.int .i64 0,.int .i64 0,.int .i64 0,.int .i64 0,.int .i64 0])
 obtain ⟨i0,hi0,hz0,hz1,hz2⟩:=info_parts infoB
 have HI:=Lib.hid hi0
 have HZ:=Lib.hid hz0
 have HS:=Lib.hid hz1
 have HBY:=Lib.hid hz2
 clear h hi0 hz0 hz1 hz2
 go_enter Tryz.func45,Tryz.ntmps45
 go_wp2_with fail
 refine (pick_any g 8 _ _ (HD.out.next (Below.refl _ _)).1 (by omega)).mono ?_
 rintro e w1 ⟨v1,rfl,a1,b1,hR,hO⟩
 have c1:=b1 (by omega)
 replace HD:=Lib.hid ((HD.out.next (Below.refl _ _)).step hR hO)
 replace KR:=Lib.hid ((KR.out.next (Below.refl _ _)).only hO hne)
 have hs1:=hO.size
 try simp only [World.size_alloc] at hs1
 clear b1 hR hO
 go_wp2_with fail
 refine (pick_any g 51 _ _ (HD.out.next (Below.refl _ _)).1 (by omega)).mono ?_
 rintro e w2 ⟨v2,rfl,a2,b2,hR,hO⟩
 have c2:=b2 (by omega)
 replace HD:=Lib.hid ((HD.out.next (Below.refl _ _)).step hR hO)
 replace KR:=Lib.hid ((KR.out.next (Below.refl _ _)).only hO hne)
 have hs2:=hO.size
 try simp only [World.size_alloc] at hs2
 clear b2 hR hO
 go_wp2_with fail
 refine (pick_any g 10 _ _ (HD.out.next (Below.refl _ _)).1 (by omega)).mono ?_
 rintro e w3 ⟨v3,rfl,a3,b3,hR,hO⟩
 have c3:=b3 (by omega)
 replace HD:=Lib.hid ((HD.out.next (Below.refl _ _)).step hR hO)
 replace KR:=Lib.hid ((KR.out.next (Below.refl _ _)).only hO hne)
 have hs3:=hO.size
 try simp only [World.size_alloc] at hs3
 clear b3 hR hO
 go_wp2_with fail
 refine (pick_any g 10 _ _ (HD.out.next (Below.refl _ _)).1 (by omega)).mono ?_
 rintro e w4 ⟨v4,rfl,a4,b4,hR,hO⟩
 have c4:=b4 (by omega)
 replace HD:=Lib.hid ((HD.out.next (Below.refl _ _)).step hR hO)
 replace KR:=Lib.hid ((KR.out.next (Below.refl _ _)).only hO hne)
 have hs4:=hO.size
 try simp only [World.size_alloc] at hs4
 clear b4 hR hO
 go_wp2_with fail
 refine (pick_any g 4 _ _ (HD.out.next (ba (ba (Below.refl _ _)))).1 (by omega)).mono ?_
 rintro e w5 ⟨v5,rfl,a5,b5,hR,hO⟩
 have c5:=b5 (by omega)
 replace HD:=Lib.hid ((HD.out.next (ba (ba (Below.refl _ _)))).step hR hO)
 replace KR:=Lib.hid ((KR.out.next (ba (ba (Below.refl _ _)))).only hO hne)
 have hs5:=hO.size
 try simp only [World.size_alloc] at hs5
 clear b5 hR hO
 go_upto_region 2 with (fail)
 refine into_world (fun W=>Dr w g (p+5) W∧Blk W w.heap.size 29 (lvlC lv0 ⟨none,0,0⟩ ⟨none,0,0⟩)∧∃ l ws gs,OwLv w.heap.size W l ws gs∧ws.n=0∧gs.n=0∧Blk W w5.heap.size 29 (lvlC l ws gs)) ⟨HD.out.next (ba (Below.refl _ _)),KR.out.alloc _,⟨v1,10+v2,v3 * 100,v4 * 100 - 500,[],[],(0,0,0,0),v5⟩,⟨some ⟨w4.heap.size,0,none⟩,0,0⟩,⟨some ⟨w4.heap.size+1,0,none⟩,0,0⟩,⟨Ow.bare _ _ _ _ _,Ow.bare _ _ _ _ _,by simp,by simp,fun x hx=>by simp [ownB] at hx⟩,rfl,rfl,Blk.new _ _ _⟩ ?_
 rintro W ⟨hD,hKR,l,ws,gs,hOL,hws0,hgs0,hKL⟩
 have hneL:w5.heap.size≠g:=by omega
 have hneR:w.heap.size≠w5.heap.size:=by omega
 replace HD:=Lib.hid hD
 replace KR:=Lib.hid hKR
 have KL:=Lib.hid hKL
 have HOL:=Lib.hid hOL
 clear hD hKR hKL hOL a1 c1 a2 c2 a3 c3 a4 c4 a5 c5
 generalize (10+v2:Int)=u1 at *
 have cl:=fun o=>KL.out.cell o
 have fl:=fun o=>KL.out.frozen o
 have zl:=KL.out.lt
 go_wp2_with fail
 refine (pick_any g 3 _ _ HD.out.1 (by omega)).mono ?_
 rintro e w6 ⟨v6,rfl,a6,b6,hR,hO⟩
 have c6:=b6 (by omega)
 obtain ⟨n6,rfl⟩:∃ n:Nat,v6=n:=⟨v6.toNat,by omega⟩
 replace HD:=Lib.hid (HD.out.step hR hO)
 replace KR:=Lib.hid (KR.out.only hO hne)
 replace KL:=Lib.hid (KL.out.only hO hneL)
 have HOL:=Lib.hid (HOL.out.only hO hg)
 clear b6 hR hO cl fl zl
 go_wp2_with fail
 go_loopw [4,6] (fun x i wr=>∃ (z:Int) (k:Nat) (l:Lvl) (ws gs:Sl),k≤n6∧x=.int .i64 z∧i=.int .i64 k∧Hid (∃ q,q≤p+6+20 * k∧Dr w g q wr∧Blk wr w.heap.size 29 (lvlC lv0 ⟨none,0,0⟩ ⟨none,0,0⟩)∧Blk wr w5.heap.size 29 (lvlC l ws gs)∧OwLv w.heap.size wr l ws gs∧ws.n=0∧gs.n=k)) (fun x i _=>n6 - (intOf i).toNat)
 case atStart=>exact ⟨l.sx,0,l,ws,gs,Nat.zero_le _,rfl,rfl,p+6,by omega,HD.out.mono (by omega),KR.out,KL.out,HOL.out,hws0,hgs0⟩
 case round =>
  obtain ⟨z,k,m,mw,mg,hk,rfl,rfl,HH⟩:=hrel
  obtain ⟨q,hq,hD,hKR,hKL,hOL,hws,hgs⟩:=HH.out
  clear HH
  have HWS:=Lib.hid hws
  have HGS:=Lib.hid hgs
  clear hws hgs
  replace HD:=Lib.hid hD
  replace KR:=Lib.hid hKR
  replace KL:=Lib.hid hKL
  have HOL:=Lib.hid hOL
  clear hD hKR hKL hOL
  by_cases hlt:k<n6
  ·go_wp2_with fail
   refine (pick_any g 20 _ _ HD.out.1 (by omega)).mono ?_
   rintro e w7 ⟨v7,rfl,a7,b7,hR,hO⟩
   have c7:=b7 (by omega)
   replace HD:=Lib.hid (HD.out.step hR hO)
   replace KR:=Lib.hid (KR.out.only hO hne)
   replace KL:=Lib.hid (KL.out.only hO hneL)
   have HOL:=Lib.hid (HOL.out.only hO hg)
   clear b7 hR hO
   go_upto_region 8 with (fail)
   refine wp_region_grow 13 (by kernel_rfl) (by kernel_rfl) (by kernel_rfl) (fun a b=>Only g a b) (fun mq w'=>∃ q,q≤p+6+20 * k+1+mq∧Dr w g q w'∧Only g w7 w') (fun iq v w'=>match iq with|0=>(v=.pointer (some ⟨w5.heap.size,5,none⟩))|1=>(v=.slice mg.a mg.n mg.c)|2=>(∃ z:Int,v=.int .i64 z)|3=>(∃ a b:Int,v=.agg #[.int .i64 a,.int .i64 b])|4=>(∃ z:Int,v=.int .i64 z)|5=>(∃ z:Int,v=.int .i64 z)|6=>(v=.pointer (some ⟨g,0,none⟩))|7=>(∃ z:Int,v=.int .i64 z)|8=>(∃ z:Int,v=.int .i64 z)|9=>(∃ z:Int,v=.int .i64 z)|10=>(∃ a b:Int,v=.agg #[.int .i64 a,.int .i64 b])|11=>(∃ b:Bx,v=.agg #[.int .i64 b.1,.int .i64 b.2.1,.int .i64 b.2.2.1,.int .i64 b.2.2.2])|12=>(∃ (e:Nat) (b:Bx),v=.slice (some ⟨e,0,none⟩) 1 1∧g<e∧Blk w' e 27 (cellsB [b]).toArray)|_=>True) (fun sq=>{ tmps:=#[Value.pointer (some (⟨g,0,none⟩:Addr)),undef,Value.pointer (some (⟨w.heap.size,0,none⟩:Addr)),Value.pointer (some (⟨w5.heap.size,0,none⟩:Addr)),Value.int .i64 (wrap64 (wrap64 (z+200)+v7 * 100)),Value.int .i64 (n6:Int),Value.int .i64 (k:Int),undef,undef,Value.pointer (some (⟨g,0,none⟩:Addr)),Value.int .i64 v1,Value.pointer (some (⟨g,0,none⟩:Addr)),Value.int .i64 v2,Value.int .i64 u1,Value.pointer (some (⟨g,0,none⟩:Addr)),Value.int .i64 v3,Value.int .i64 (v3 * 100),Value.pointer (some (⟨g,0,none⟩:Addr)),Value.int .i64 v4,Value.int .i64 (v4 * 100),Value.int .i64 (v4 * 100 - 500),Value.agg #[Value.int .i64 (v3 * 100),Value.int .i64 (v4 * 100 - 500)],Value.slice (some (⟨w4.heap.size,0,none⟩:Addr)) 0 0,Value.slice (some (⟨w4.heap.size+1,0,none⟩:Addr)) 0 0,Value.pointer (some (⟨g,0,none⟩:Addr)),Value.int .i64 v5,Value.agg #[Value.int .i64 v1,Value.int .i64 u1,Value.int .i64 (v3 * 100),Value.int .i64 (v4 * 100 - 500),Value.slice (some (⟨w4.heap.size,0,none⟩:Addr)) 0 0,Value.slice (some (⟨w4.heap.size+1,0,none⟩:Addr)) 0 0,Value.int .i64 0,Value.int .i64 0,Value.int .i64 0,Value.int .i64 0,Value.int .i64 v5],Value.pointer (some (⟨w5.heap.size,2,none⟩:Addr)),Value.pointer (some (⟨w5.heap.size,2,none⟩:Addr)),Value.int .i64 l.sx,Value.pointer (some (⟨g,0,none⟩:Addr)),Value.int .i64 (n6:Int),Value.int .i64 (k:Int),Value.int .i64 (n6:Int),Value.bool true,u35,u36,Value.int .i64 z,Value.int .i64 (wrap64 (z+200)),Value.pointer (some (⟨g,0,none⟩:Addr)),Value.int .i64 v7,Value.int .i64 (v7 * 100),Value.int .i64 (wrap64 (wrap64 (z+200)+v7 * 100)),sq 0,sq 1,sq 2,sq 3,sq 4,sq 5,sq 6,sq 7,sq 8,sq 9,sq 10,sq 11,sq 12,u56,u57,undef,undef,undef,undef,undef,undef,undef,undef,undef,undef,undef,undef,undef,undef,undef,undef,undef,undef,undef,undef,undef,undef,undef,undef,undef,undef,undef,undef,undef,undef,undef,undef,undef,undef,undef,undef,undef,undef,undef,undef,undef,undef,undef,undef,undef,undef,undef,undef,undef,undef,undef,undef,undef,undef,undef,undef,undef,undef,undef,undef,undef,undef,undef,undef,undef,undef,undef,undef,undef,undef,undef,undef,undef,undef,undef,undef,undef,undef,undef],defers:=[] }) (fun j=>match j with|0=>u43|1=>u44|2=>u45|3=>u46|4=>u47|5=>u48|6=>u49|7=>u50|8=>u51|9=>u52|10=>u53|11=>u54|12=>u55|_=>undef) ?_ ?_ ?_ ?_
   ·rintro iq v a b hg h
    match iq,h with
    | 0,h=>exact h
    | 1,h=>exact h
    | 2,h=>exact h
    | 3,h=>exact h
    | 4,h=>exact h
    | 5,h=>exact h
    | 6,h=>exact h
    | 7,h=>exact h
    | 8,h=>exact h
    | 9,h=>exact h
    | 10,h=>exact h
    | 11,h=>exact h
    | 12,h=>exact (by obtain ⟨e,b,rfl,h1,h2⟩:=h;exact ⟨e,b,rfl,h1,h2.only hg (by omega)⟩)
    | (kq+13),_=>exact trivial
   ·exact ⟨_,by omega,HD.out.next ⟨rfl,rfl,rfl,Nat.le_refl _,fun _ _=>rfl⟩,(show Only g w7 w7.drew from ⟨rfl,rfl,rfl,Nat.le_refl _,fun _ _ _=>rfl⟩)⟩
   ·intro mq sq w' iq oq hmq hiq hoq hJ hd Kq hK
    have hiq':iq=0∨iq=1∨iq=2∨iq=3∨iq=4∨iq=5∨iq=6∨iq=7∨iq=8∨iq=9∨iq=10∨iq=11∨iq=12:=by omega
    rcases hiq' with rfl|rfl|rfl|rfl|rfl|rfl|rfl|rfl|rfl|rfl|rfl|rfl|rfl
    ·cases (show some _=some oq from hoq)
     have hK':=hK
     simp only [updV,Nat.reduceEqDiff,↓reduceIte] at hK'
     clear hK hd
     generalize sq 0=x0,sq 1=x1,sq 2=x2,sq 3=x3,sq 4=x4,sq 5=x5,sq 6=x6,sq 7=x7,sq 8=x8,sq 9=x9,sq 10=x10,sq 11=x11,sq 12=x12 at *
     go_simp
     exact hK' _ _ (Only.refl _ _) (by obtain ⟨q,hq,hD,hO⟩:=hJ;exact ⟨q,by omega,hD,hO⟩) rfl
    ·cases (show some _=some oq from hoq)
     have d0:=hd 0 (by kernel_rfl) (by decide)
     have hK':=hK
     simp only [updV,Nat.reduceEqDiff,↓reduceIte] at hK'
     clear hK hd
     generalize sq 0=x0,sq 1=x1,sq 2=x2,sq 3=x3,sq 4=x4,sq 5=x5,sq 6=x6,sq 7=x7,sq 8=x8,sq 9=x9,sq 10=x10,sq 11=x11,sq 12=x12 at *
     obtain rfl:=d0
     have hcc:=(KL.out.only (by obtain ⟨q,hq,hD,hO⟩:=hJ;exact hO) hneL).cell 5
     go_simp
     exact hK' _ _ (Only.refl _ _) (by obtain ⟨q,hq,hD,hO⟩:=hJ;exact ⟨q,by omega,hD,hO⟩) rfl
    ·cases (show some _=some oq from hoq)
     have hK':=hK
     simp only [updV,Nat.reduceEqDiff,↓reduceIte] at hK'
     clear hK hd
     generalize sq 0=x0,sq 1=x1,sq 2=x2,sq 3=x3,sq 4=x4,sq 5=x5,sq 6=x6,sq 7=x7,sq 8=x8,sq 9=x9,sq 10=x10,sq 11=x11,sq 12=x12 at *
     go_simp
     exact hK' _ _ (Only.refl _ _) (by obtain ⟨q,hq,hD,hO⟩:=hJ;exact ⟨q,by omega,hD,hO⟩) ⟨_,rfl⟩
    ·cases (show some _=some oq from hoq)
     have d2:=hd 2 (by kernel_rfl) (by decide)
     have hK':=hK
     simp only [updV,Nat.reduceEqDiff,↓reduceIte] at hK'
     clear hK hd
     generalize sq 0=x0,sq 1=x1,sq 2=x2,sq 3=x3,sq 4=x4,sq 5=x5,sq 6=x6,sq 7=x7,sq 8=x8,sq 9=x9,sq 10=x10,sq 11=x11,sq 12=x12 at *
     obtain ⟨z2,rfl⟩:=d2
     go_simp
     exact hK' _ _ (Only.refl _ _) (by obtain ⟨q,hq,hD,hO⟩:=hJ;exact ⟨q,by omega,hD,hO⟩) ⟨_,_,rfl⟩
    ·cases (show some _=some oq from hoq)
     have hK':=hK
     simp only [updV,Nat.reduceEqDiff,↓reduceIte] at hK'
     clear hK hd
     generalize sq 0=x0,sq 1=x1,sq 2=x2,sq 3=x3,sq 4=x4,sq 5=x5,sq 6=x6,sq 7=x7,sq 8=x8,sq 9=x9,sq 10=x10,sq 11=x11,sq 12=x12 at *
     go_simp
     exact hK' _ _ (Only.refl _ _) (by obtain ⟨q,hq,hD,hO⟩:=hJ;exact ⟨q,by omega,hD,hO⟩) ⟨_,rfl⟩
    ·cases (show some _=some oq from hoq)
     have d4:=hd 4 (by kernel_rfl) (by decide)
     have hK':=hK
     simp only [updV,Nat.reduceEqDiff,↓reduceIte] at hK'
     clear hK hd
     generalize sq 0=x0,sq 1=x1,sq 2=x2,sq 3=x3,sq 4=x4,sq 5=x5,sq 6=x6,sq 7=x7,sq 8=x8,sq 9=x9,sq 10=x10,sq 11=x11,sq 12=x12 at *
     obtain ⟨z4,rfl⟩:=d4
     go_simp
     exact hK' _ _ (Only.refl _ _) (by obtain ⟨q,hq,hD,hO⟩:=hJ;exact ⟨q,by omega,hD,hO⟩) ⟨_,rfl⟩
    ·cases (show some _=some oq from hoq)
     have hK':=hK
     simp only [updV,Nat.reduceEqDiff,↓reduceIte] at hK'
     clear hK hd
     generalize sq 0=x0,sq 1=x1,sq 2=x2,sq 3=x3,sq 4=x4,sq 5=x5,sq 6=x6,sq 7=x7,sq 8=x8,sq 9=x9,sq 10=x10,sq 11=x11,sq 12=x12 at *
     go_simp
     exact hK' _ _ (Only.refl _ _) (by obtain ⟨q,hq,hD,hO⟩:=hJ;exact ⟨q,by omega,hD,hO⟩) rfl
    ·cases (show some _=some oq from hoq)
     have d6:=hd 6 (by kernel_rfl) (by decide)
     have hK':=hK
     simp only [updV,Nat.reduceEqDiff,↓reduceIte] at hK'
     clear hK hd
     generalize sq 0=x0,sq 1=x1,sq 2=x2,sq 3=x3,sq 4=x4,sq 5=x5,sq 6=x6,sq 7=x7,sq 8=x8,sq 9=x9,sq 10=x10,sq 11=x11,sq 12=x12 at *
     obtain rfl:=d6
     go_simp
     obtain ⟨q,hq,hD,hO⟩:=hJ
     refine (pick_any g 20 q _ hD.1 (by omega)).mono ?_
     rintro e w2 ⟨u,rfl,a9,b9,hR,hO2⟩
     exact hK' _ _ hO2 ⟨q+1,by omega,hD.step hR hO2,hO.trans hO2⟩ ⟨_,rfl⟩
    ·cases (show some _=some oq from hoq)
     have d7:=hd 7 (by kernel_rfl) (by decide)
     have hK':=hK
     simp only [updV,Nat.reduceEqDiff,↓reduceIte] at hK'
     clear hK hd
     generalize sq 0=x0,sq 1=x1,sq 2=x2,sq 3=x3,sq 4=x4,sq 5=x5,sq 6=x6,sq 7=x7,sq 8=x8,sq 9=x9,sq 10=x10,sq 11=x11,sq 12=x12 at *
     obtain ⟨z7,rfl⟩:=d7
     go_simp
     exact hK' _ _ (Only.refl _ _) (by obtain ⟨q,hq,hD,hO⟩:=hJ;exact ⟨q,by omega,hD,hO⟩) ⟨_,rfl⟩
    ·cases (show some _=some oq from hoq)
     have d5:=hd 5 (by kernel_rfl) (by decide)
     have d8:=hd 8 (by kernel_rfl) (by decide)
     have hK':=hK
     simp only [updV,Nat.reduceEqDiff,↓reduceIte] at hK'
     clear hK hd
     generalize sq 0=x0,sq 1=x1,sq 2=x2,sq 3=x3,sq 4=x4,sq 5=x5,sq 6=x6,sq 7=x7,sq 8=x8,sq 9=x9,sq 10=x10,sq 11=x11,sq 12=x12 at *
     obtain ⟨z5,rfl⟩:=d5
     obtain ⟨z8,rfl⟩:=d8
     go_simp
     exact hK' _ _ (Only.refl _ _) (by obtain ⟨q,hq,hD,hO⟩:=hJ;exact ⟨q,by omega,hD,hO⟩) ⟨_,rfl⟩
    ·cases (show some _=some oq from hoq)
     have d9:=hd 9 (by kernel_rfl) (by decide)
     have hK':=hK
     simp only [updV,Nat.reduceEqDiff,↓reduceIte] at hK'
     clear hK hd
     generalize sq 0=x0,sq 1=x1,sq 2=x2,sq 3=x3,sq 4=x4,sq 5=x5,sq 6=x6,sq 7=x7,sq 8=x8,sq 9=x9,sq 10=x10,sq 11=x11,sq 12=x12 at *
     obtain ⟨z9,rfl⟩:=d9
     go_simp
     exact hK' _ _ (Only.refl _ _) (by obtain ⟨q,hq,hD,hO⟩:=hJ;exact ⟨q,by omega,hD,hO⟩) ⟨_,_,rfl⟩
    ·cases (show some _=some oq from hoq)
     have d3:=hd 3 (by kernel_rfl) (by decide)
     have d10:=hd 10 (by kernel_rfl) (by decide)
     have hK':=hK
     simp only [updV,Nat.reduceEqDiff,↓reduceIte] at hK'
     clear hK hd
     generalize sq 0=x0,sq 1=x1,sq 2=x2,sq 3=x3,sq 4=x4,sq 5=x5,sq 6=x6,sq 7=x7,sq 8=x8,sq 9=x9,sq 10=x10,sq 11=x11,sq 12=x12 at *
     obtain ⟨x3,y3,rfl⟩:=d3
     obtain ⟨x10,y10,rfl⟩:=d10
     go_simp
     exact hK' _ _ (Only.refl _ _) (by obtain ⟨q,hq,hD,hO⟩:=hJ;exact ⟨q,by omega,hD,hO⟩) ⟨(_,_,_,_),rfl⟩
    ·cases (show some _=some oq from hoq)
     have d11:=hd 11 (by kernel_rfl) (by decide)
     have hK':=hK
     simp only [updV,Nat.reduceEqDiff,↓reduceIte] at hK'
     clear hK hd
     generalize sq 0=x0,sq 1=x1,sq 2=x2,sq 3=x3,sq 4=x4,sq 5=x5,sq 6=x6,sq 7=x7,sq 8=x8,sq 9=x9,sq 10=x10,sq 11=x11,sq 12=x12 at *
     obtain ⟨b,rfl⟩:=d11
     go_simp
     obtain ⟨q,hq,hD,hO⟩:=hJ
     exact hK' _ _ (Only.of_below (ba (Below.refl _ _)) g) ⟨q,by omega,hD.next (ba (Below.refl _ _)),hO.next (ba (Below.refl _ _))⟩ ⟨_,b,rfl,hD.1.lt,Blk.new _ _ _⟩
   ·intro sq w' hJ hφ
    simp only [List.drop_succ_cons,List.drop_zero]
    have d1:=hφ 1 (by decide)
    have d12:=hφ 12 (by decide)
    clear hφ
    generalize sq 0=x0,sq 1=x1,sq 2=x2,sq 3=x3,sq 4=x4,sq 5=x5,sq 6=x6,sq 7=x7,sq 8=x8,sq 9=x9,sq 10=x10,sq 11=x11,sq 12=x12 at *
    obtain ⟨q2,hq2,hD,hO⟩:=hJ
    obtain rfl:=d1
    obtain ⟨e2,b2,rfl,he2,hbe⟩:=d12
    replace HD:=Lib.hid hD
    replace KR:=Lib.hid (KR.out.only hO hne)
    replace KL:=Lib.hid (KL.out.only hO hneL)
    have HOL:=Lib.hid (HOL.out.only hO hg)
    have HBE:=Lib.hid hbe
    have hmn:mg.n≤1000:=HOL.out.gn
    clear hD hO hbe
    refine wpList_append_ow _ rfl (.tmp 44) (.tmp 55) _ rfl w.heap.size 27 i0 _ 4 32 Tryz.underlying25 HI.out HZ.out HS.out HBY.out rfl (by omega) _ mg.n mg.c (cellsB m.gates) rfl HOL.out.gt _ 1 1 (cellsB [b2]) rfl (Src.blk HBE.out rfl) (cellsX_oneCell encB_one _) (by unfold maxLen;omega) (by omega) (by have:=HD.out.2.size;omega) ?_
    intro A3 c3 w8 hown hg8 hn8
    have hgk:=HGS.out
    have HOL8:=Lib.hid (HOL.out.gate (l':=⟨m.id,m.ticks,m.sx,m.sy,m.walls,m.gates ++ [b2],m.f,m.bans⟩) hown hg8 hn8 (by omega) rfl rfl)
    have HD8:=Lib.hid (HD.out.grown hg hg8 (row_base HOL.out.gt))
    have KR8:=Lib.hid (blk_apart KR.out HOL.out.gt (by decide) hg8)
    have KL8:=Lib.hid (blk_apart KL.out HOL.out.gt (by decide) hg8)
    clear hown hg8 hn8 hgk
    have cl:=fun o=>KL8.out.cell o
    have fl:=fun o=>KL8.out.frozen o
    have zl:=KL8.out.lt
    go_wp2_with fail
    have hgk:=HGS.out
    refine ⟨⟨_,k+1,⟨m.id,m.ticks,m.sx,m.sy,m.walls,m.gates ++ [b2],m.f,m.bans⟩,mw,⟨A3,mg.n+1,c3⟩,by omega,rfl,by go_num,q2,by omega,HD8.out.set (by simp;omega) hg _,KR8.out.far (p:=⟨w5.heap.size,5,none⟩) hneR _,KL8.out.set_ 5 _,HOL8.out.onlyT KL8.out (by decide) (Only.set_ (p:=⟨w5.heap.size,5,none⟩) (Only.refl _ w8) (.inl rfl) _),HWS.out,?_⟩,by simp [intOf];omega⟩
    show mg.n+1=k+1
    omega
  ·have hgk:=HGS.out
   go_wp2_with fail
   refine (pick_any g 20 _ _ HD.out.1 (by omega)).mono ?_
   rintro e w7 ⟨v7,rfl,a7,b7,hR,hO⟩
   replace HD:=Lib.hid (HD.out.step hR hO)
   replace KR:=Lib.hid (KR.out.only hO hne)
   replace KL:=Lib.hid (KL.out.only hO hneL)
   have HOL:=Lib.hid (HOL.out.only hO hg)
   clear b7 hR hO a7
   have cl:=fun o=>KL.out.cell o
   have fl:=fun o=>KL.out.frozen o
   have zl:=KL.out.lt
   go_upto_region 11 with (fail)
   refine into_world (fun Y=>Dr w g (q+1) Y∧Blk Y w.heap.size 29 (lvlC lv0 ⟨none,0,0⟩ ⟨none,0,0⟩)∧∃ m':Lvl,Blk Y w5.heap.size 29 (lvlC m' mw mg)∧OwLv w.heap.size Y m' mw mg) ⟨(((HD.out.set (by simp;omega) hg _).set (by simp;omega) hg _).set (by simp;omega) hg _).set (by simp;omega) hg _,(((KR.out.far (p:=⟨w5.heap.size,6,none⟩) hneR _).far (p:=⟨w5.heap.size,7,none⟩) hneR _).far (p:=⟨w5.heap.size,8,none⟩) hneR _).far (p:=⟨w5.heap.size,9,none⟩) hneR _,⟨m.id,m.ticks,m.sx,m.sy,m.walls,m.gates,(wrap64 (wrap64 (z+500)+wrap64 (v7 * 100)),-4000,wrap64 (wrap64 (wrap64 (z+500)+wrap64 (v7 * 100))+6000),4000),m.bans⟩,(((KL.out.set_ 6 _).set_ 7 _).set_ 8 _).set_ 9 _,?_⟩ ?_
   ·exact (HOL.out.onlyT KL.out (by decide) (Only.set_ (p:=⟨w5.heap.size,9,none⟩) (Only.set_ (p:=⟨w5.heap.size,8,none⟩) (Only.set_ (p:=⟨w5.heap.size,7,none⟩) (Only.set_ (p:=⟨w5.heap.size,6,none⟩) (Only.refl _ _) (.inl rfl) _) (.inl rfl) _) (.inl rfl) _) (.inl rfl) _)).of rfl rfl
   rintro Y ⟨hD,hKR,m',hKL,hOL⟩
   replace HD:=Lib.hid hD
   replace KR:=Lib.hid hKR
   replace KL:=Lib.hid hKL
   have HOL:=Lib.hid hOL
   clear hD hKR hKL hOL cl fl zl
   go_wp2_with fail
   refine (pick_any g 4 _ _ HD.out.1 (by omega)).mono ?_
   rintro e w10 ⟨v10,rfl,a10,b10,hR,hO⟩
   have c10:=b10 (by omega)
   obtain ⟨n10,rfl⟩:∃ n:Nat,v10=n:=⟨v10.toNat,by omega⟩
   replace HD:=Lib.hid (HD.out.step hR hO)
   replace KR:=Lib.hid (KR.out.only hO hne)
   replace KL:=Lib.hid (KL.out.only hO hneL)
   have HOL:=Lib.hid (HOL.out.only hO hg)
   clear b10 hR hO
   go_wp2_with fail
   have hwk:=HWS.out
   have hq48:q+2≤p+60:=by omega
   go_loopw [7,8] (fun i _ wr=>∃ (k:Nat) (m:Lvl) (mw mg:Sl),k≤n10∧i=.int .i64 k∧Hid (∃ q,q≤p+60+30 * k∧Dr w g q wr∧Blk wr w.heap.size 29 (lvlC lv0 ⟨none,0,0⟩ ⟨none,0,0⟩)∧Blk wr w5.heap.size 29 (lvlC m mw mg)∧OwLv w.heap.size wr m mw mg∧mw.n=k)) (fun i _ _=>n10 - (intOf i).toNat)
   case atStart=>exact ⟨0,m',mw,mg,Nat.zero_le _,rfl,q+2,by omega,HD.out.mono (by omega),KR.out,KL.out,HOL.out,hwk⟩
   case round =>
    obtain ⟨k2,r,rw,rg,hk2,rfl,HH⟩:=hrel
    obtain ⟨q3,hq3,hD,hKR,hKL,hOL,hws⟩:=HH.out
    have HWS2:=Lib.hid hws
    clear HH hws
    replace HD:=Lib.hid hD
    replace KR:=Lib.hid hKR
    replace KL:=Lib.hid hKL
    have HOL:=Lib.hid hOL
    clear hD hKR hKL hOL hwk
    by_cases hlt2:k2<n10
    ·go_wp2_with fail
     refine (pick_any g 40 _ _ (HD.out.next (Below.refl _ _)).1 (by omega)).mono ?_
     rintro e w11 ⟨v11,rfl,a11,b11,hR,hO⟩
     have c11:=b11 (by omega)
     replace HD:=Lib.hid ((HD.out.next (Below.refl _ _)).step hR hO)
     replace KR:=Lib.hid ((KR.out.next (Below.refl _ _)).only hO hne)
     replace KL:=Lib.hid ((KL.out.next (Below.refl _ _)).only hO hneL)
     have HOL:=Lib.hid ((HOL.out.next (Below.refl _ _)).only hO hg)
     clear b11 hR hO
     go_wp2_with fail
     refine (pick_any g 20 _ _ (HD.out.next (Below.refl _ _)).1 (by omega)).mono ?_
     rintro e w12 ⟨v12,rfl,a12,b12,hR,hO⟩
     have c12:=b12 (by omega)
     replace HD:=Lib.hid ((HD.out.next (Below.refl _ _)).step hR hO)
     replace KR:=Lib.hid ((KR.out.next (Below.refl _ _)).only hO hne)
     replace KL:=Lib.hid ((KL.out.next (Below.refl _ _)).only hO hneL)
     have HOL:=Lib.hid ((HOL.out.next (Below.refl _ _)).only hO hg)
     clear b12 hR hO
     go_wp2_with fail
     refine (pick_any g 2 _ _ (HD.out.next (Below.refl _ _)).1 (by omega)).mono ?_
     rintro e w13 ⟨v13,rfl,a13,b13,hR,hO⟩
     have c13:=b13 (by omega)
     replace HD:=Lib.hid ((HD.out.next (Below.refl _ _)).step hR hO)
     replace KR:=Lib.hid ((KR.out.next (Below.refl _ _)).only hO hne)
     replace KL:=Lib.hid ((KL.out.next (Below.refl _ _)).only hO hneL)
     have HOL:=Lib.hid ((HOL.out.next (Below.refl _ _)).only hO hg)
     clear b13 hR hO
     go_upto_region 16 with (fail)
     refine into_world (fun U=>Dr w g (q3+3) U∧Blk U w.heap.size 29 (lvlC lv0 ⟨none,0,0⟩ ⟨none,0,0⟩)∧Blk U w5.heap.size 29 (lvlC r rw rg)∧OwLv w.heap.size U r rw rg∧∃ a b:Int,Blk U w13.heap.size 24 #[.int .i64 a,.int .i64 b]) ⟨HD.out.next (ba (Below.refl _ _)),KR.out.next (ba (Below.refl _ _)),KL.out.next (ba (Below.refl _ _)),HOL.out.next (ba (Below.refl _ _)),_,_,Blk.new _ _ _⟩ ?_
     rintro U ⟨hD,hKR,hKL,hOL,xv,yv,hKV⟩
     have hneV:w13.heap.size≠g:=by have:=HD.out.1.lt;omega
     replace HD:=Lib.hid hD
     replace KR:=Lib.hid hKR
     replace KL:=Lib.hid hKL
     have HOL:=Lib.hid hOL
     have KV:=Lib.hid hKV
     clear hD hKR hKL hOL hKV
     refine wp_region_grow 21 (by kernel_rfl) (by kernel_rfl) (by kernel_rfl) (fun a b=>Only g a b) (fun mq w'=>∃ q,q≤p+60+30 * k2+3+mq∧Dr w g q w'∧Only g U w') (fun iq v w'=>match iq with|0=>(v=.pointer (some ⟨w5.heap.size,4,none⟩))|1=>(v=.slice rw.a rw.n rw.c)|2=>(v=.pointer (some ⟨w13.heap.size,0,none⟩))|3=>(∃ z:Int,v=.int .i64 z)|4=>(v=.pointer (some ⟨w13.heap.size,1,none⟩))|5=>(∃ z:Int,v=.int .i64 z)|6=>(∃ z:Int,v=.int .i64 z)|7=>(∃ a b:Int,v=.agg #[.int .i64 a,.int .i64 b])|8=>(v=.pointer (some ⟨w13.heap.size,0,none⟩))|9=>(∃ z:Int,v=.int .i64 z)|10=>(∃ z:Int,v=.int .i64 z)|11=>(v=.pointer (some ⟨g,0,none⟩))|12=>(∃ z:Int,v=.int .i64 z)|13=>(∃ z:Int,v=.int .i64 z)|14=>(∃ z:Int,v=.int .i64 z)|15=>(v=.pointer (some ⟨w13.heap.size,1,none⟩))|16=>(∃ z:Int,v=.int .i64 z)|17=>(∃ z:Int,v=.int .i64 z)|18=>(∃ a b:Int,v=.agg #[.int .i64 a,.int .i64 b])|19=>(∃ b:Bx,v=.agg #[.int .i64 b.1,.int .i64 b.2.1,.int .i64 b.2.2.1,.int .i64 b.2.2.2])|20=>(∃ (e:Nat) (b:Bx),v=.slice (some ⟨e,0,none⟩) 1 1∧g<e∧Blk w' e 27 (cellsB [b]).toArray)|_=>True) (fun sq=>{ tmps:=#[Value.pointer (some (⟨g,0,none⟩:Addr)),undef,Value.pointer (some (⟨w.heap.size,0,none⟩:Addr)),Value.pointer (some (⟨w5.heap.size,0,none⟩:Addr)),Value.int .i64 (wrap64 (wrap64 (z+500)+wrap64 (v7 * 100))),Value.int .i64 (n10:Int),Value.int .i64 (k:Int),Value.int .i64 (k2:Int),Value.pointer (some (⟨w13.heap.size,0,none⟩:Addr)),Value.pointer (some (⟨g,0,none⟩:Addr)),Value.int .i64 v1,Value.pointer (some (⟨g,0,none⟩:Addr)),Value.int .i64 v2,Value.int .i64 u1,Value.pointer (some (⟨g,0,none⟩:Addr)),Value.int .i64 v3,Value.int .i64 (v3 * 100),Value.pointer (some (⟨g,0,none⟩:Addr)),Value.int .i64 v4,Value.int .i64 (v4 * 100),Value.int .i64 (v4 * 100 - 500),Value.agg #[Value.int .i64 (v3 * 100),Value.int .i64 (v4 * 100 - 500)],Value.slice (some (⟨w4.heap.size,0,none⟩:Addr)) 0 0,Value.slice (some (⟨w4.heap.size+1,0,none⟩:Addr)) 0 0,Value.pointer (some (⟨g,0,none⟩:Addr)),Value.int .i64 v5,Value.agg #[Value.int .i64 v1,Value.int .i64 u1,Value.int .i64 (v3 * 100),Value.int .i64 (v4 * 100 - 500),Value.slice (some (⟨w4.heap.size,0,none⟩:Addr)) 0 0,Value.slice (some (⟨w4.heap.size+1,0,none⟩:Addr)) 0 0,Value.int .i64 0,Value.int .i64 0,Value.int .i64 0,Value.int .i64 0,Value.int .i64 v5],Value.pointer (some (⟨w5.heap.size,2,none⟩:Addr)),Value.pointer (some (⟨w5.heap.size,2,none⟩:Addr)),Value.int .i64 l.sx,Value.pointer (some (⟨g,0,none⟩:Addr)),Value.int .i64 (n6:Int),Value.int .i64 (k:Int),Value.int .i64 (n6:Int),Value.bool false,u35,u36,u37,u38,u39,u40,u41,u42,u43,u44,u45,u46,u47,u48,u49,u50,u51,u52,u53,u54,u55,u56,u57,Value.int .i64 z,Value.int .i64 (wrap64 (z+500)),Value.pointer (some (⟨g,0,none⟩:Addr)),Value.int .i64 v7,Value.int .i64 (wrap64 (v7 * 100)),Value.int .i64 (wrap64 (wrap64 (z+500)+wrap64 (v7 * 100))),Value.int .i64 (wrap64 (wrap64 (z+500)+wrap64 (v7 * 100))),Value.agg #[Value.int .i64 (wrap64 (wrap64 (z+500)+wrap64 (v7 * 100))),Value.int .i64 (-4000)],Value.int .i64 (wrap64 (wrap64 (z+500)+wrap64 (v7 * 100))),Value.int .i64 (wrap64 (wrap64 (wrap64 (z+500)+wrap64 (v7 * 100))+6000)),Value.agg #[Value.int .i64 (wrap64 (wrap64 (wrap64 (z+500)+wrap64 (v7 * 100))+6000)),Value.int .i64 4000],Value.agg #[Value.int .i64 (wrap64 (wrap64 (z+500)+wrap64 (v7 * 100))),Value.int .i64 (-4000),Value.int .i64 (wrap64 (wrap64 (wrap64 (z+500)+wrap64 (v7 * 100))+6000)),Value.int .i64 4000],Value.pointer (some (⟨w5.heap.size,6,none⟩:Addr)),Value.pointer (some (⟨g,0,none⟩:Addr)),Value.int .i64 (n10:Int),Value.int .i64 (k2:Int),Value.int .i64 (n10:Int),Value.bool true,u76,u77,Value.pointer (some (⟨g,0,none⟩:Addr)),Value.int .i64 v11,Value.int .i64 (v11 * 400),Value.int .i64 (v11 * 400 - 2000),Value.pointer (some (⟨g,0,none⟩:Addr)),Value.int .i64 v12,Value.int .i64 (v12 * 100),Value.int .i64 (1500+v12 * 100),Value.pointer (some (⟨g,0,none⟩:Addr)),Value.int .i64 v13,Value.int .i64 (2 * v13),Value.int .i64 (1 - 2 * v13),Value.int .i64 (wrap64 ((1500+v12 * 100) * (1 - 2 * v13))),Value.agg #[Value.int .i64 (v11 * 400 - 2000),Value.int .i64 (wrap64 ((1500+v12 * 100) * (1 - 2 * v13)))],sq 0,sq 1,sq 2,sq 3,sq 4,sq 5,sq 6,sq 7,sq 8,sq 9,sq 10,sq 11,sq 12,sq 13,sq 14,sq 15,sq 16,sq 17,sq 18,sq 19,sq 20,u113,u114,undef,undef,undef,undef,undef,undef,undef,undef,undef,undef,undef,undef,undef,undef,undef,undef,undef,undef,undef,undef,undef,undef],defers:=[] }) (fun j=>match j with|0=>u92|1=>u93|2=>u94|3=>u95|4=>u96|5=>u97|6=>u98|7=>u99|8=>u100|9=>u101|10=>u102|11=>u103|12=>u104|13=>u105|14=>u106|15=>u107|16=>u108|17=>u109|18=>u110|19=>u111|20=>u112|_=>undef) ?_ ?_ ?_ ?_
     ·rintro iq v a b hg h
      match iq,h with
      | 0,h=>exact h
      | 1,h=>exact h
      | 2,h=>exact h
      | 3,h=>exact h
      | 4,h=>exact h
      | 5,h=>exact h
      | 6,h=>exact h
      | 7,h=>exact h
      | 8,h=>exact h
      | 9,h=>exact h
      | 10,h=>exact h
      | 11,h=>exact h
      | 12,h=>exact h
      | 13,h=>exact h
      | 14,h=>exact h
      | 15,h=>exact h
      | 16,h=>exact h
      | 17,h=>exact h
      | 18,h=>exact h
      | 19,h=>exact h
      | 20,h=>exact (by obtain ⟨e,b,rfl,h1,h2⟩:=h;exact ⟨e,b,rfl,h1,h2.only hg (by omega)⟩)
      | (kq+21),_=>exact trivial
     ·exact ⟨_,by omega,HD.out.next ⟨rfl,rfl,rfl,Nat.le_refl _,fun _ _=>rfl⟩,(show Only g U U.drew from ⟨rfl,rfl,rfl,Nat.le_refl _,fun _ _ _=>rfl⟩)⟩
     ·intro mq sq w' iq oq hmq hiq hoq hJ hd Kq hK
      have hiq':iq=0∨iq=1∨iq=2∨iq=3∨iq=4∨iq=5∨iq=6∨iq=7∨iq=8∨iq=9∨iq=10∨iq=11∨iq=12∨iq=13∨iq=14∨iq=15∨iq=16∨iq=17∨iq=18∨iq=19∨iq=20:=by omega
      rcases hiq' with rfl|rfl|rfl|rfl|rfl|rfl|rfl|rfl|rfl|rfl|rfl|rfl|rfl|rfl|rfl|rfl|rfl|rfl|rfl|rfl|rfl
      ·cases (show some _=some oq from hoq)
       have hK':=hK
       simp only [updV,Nat.reduceEqDiff,↓reduceIte] at hK'
       clear hK hd
       generalize sq 0=x0,sq 1=x1,sq 2=x2,sq 3=x3,sq 4=x4,sq 5=x5,sq 6=x6,sq 7=x7,sq 8=x8,sq 9=x9,sq 10=x10,sq 11=x11,sq 12=x12,sq 13=x13,sq 14=x14,sq 15=x15,sq 16=x16,sq 17=x17,sq 18=x18,sq 19=x19,sq 20=x20 at *
       go_simp
       exact hK' _ _ (Only.refl _ _) (by obtain ⟨q,hq,hD,hO⟩:=hJ;exact ⟨q,by omega,hD,hO⟩) rfl
      ·cases (show some _=some oq from hoq)
       have d0:=hd 0 (by kernel_rfl) (by decide)
       have hK':=hK
       simp only [updV,Nat.reduceEqDiff,↓reduceIte] at hK'
       clear hK hd
       generalize sq 0=x0,sq 1=x1,sq 2=x2,sq 3=x3,sq 4=x4,sq 5=x5,sq 6=x6,sq 7=x7,sq 8=x8,sq 9=x9,sq 10=x10,sq 11=x11,sq 12=x12,sq 13=x13,sq 14=x14,sq 15=x15,sq 16=x16,sq 17=x17,sq 18=x18,sq 19=x19,sq 20=x20 at *
       obtain rfl:=d0
       have hcc:=(KL.out.only (by obtain ⟨q,hq,hD,hO⟩:=hJ;exact hO) hneL).cell 4
       go_simp
       exact hK' _ _ (Only.refl _ _) (by obtain ⟨q,hq,hD,hO⟩:=hJ;exact ⟨q,by omega,hD,hO⟩) rfl
      ·cases (show some _=some oq from hoq)
       have hK':=hK
       simp only [updV,Nat.reduceEqDiff,↓reduceIte] at hK'
       clear hK hd
       generalize sq 0=x0,sq 1=x1,sq 2=x2,sq 3=x3,sq 4=x4,sq 5=x5,sq 6=x6,sq 7=x7,sq 8=x8,sq 9=x9,sq 10=x10,sq 11=x11,sq 12=x12,sq 13=x13,sq 14=x14,sq 15=x15,sq 16=x16,sq 17=x17,sq 18=x18,sq 19=x19,sq 20=x20 at *
       go_simp
       exact hK' _ _ (Only.refl _ _) (by obtain ⟨q,hq,hD,hO⟩:=hJ;exact ⟨q,by omega,hD,hO⟩) rfl
      ·cases (show some _=some oq from hoq)
       have d2:=hd 2 (by kernel_rfl) (by decide)
       have hK':=hK
       simp only [updV,Nat.reduceEqDiff,↓reduceIte] at hK'
       clear hK hd
       generalize sq 0=x0,sq 1=x1,sq 2=x2,sq 3=x3,sq 4=x4,sq 5=x5,sq 6=x6,sq 7=x7,sq 8=x8,sq 9=x9,sq 10=x10,sq 11=x11,sq 12=x12,sq 13=x13,sq 14=x14,sq 15=x15,sq 16=x16,sq 17=x17,sq 18=x18,sq 19=x19,sq 20=x20 at *
       obtain rfl:=d2
       have hcc:=(KV.out.only (by obtain ⟨q,hq,hD,hO⟩:=hJ;exact hO) hneV).cell 0
       go_simp
       exact hK' _ _ (Only.refl _ _) (by obtain ⟨q,hq,hD,hO⟩:=hJ;exact ⟨q,by omega,hD,hO⟩) ⟨_,rfl⟩
      ·cases (show some _=some oq from hoq)
       have hK':=hK
       simp only [updV,Nat.reduceEqDiff,↓reduceIte] at hK'
       clear hK hd
       generalize sq 0=x0,sq 1=x1,sq 2=x2,sq 3=x3,sq 4=x4,sq 5=x5,sq 6=x6,sq 7=x7,sq 8=x8,sq 9=x9,sq 10=x10,sq 11=x11,sq 12=x12,sq 13=x13,sq 14=x14,sq 15=x15,sq 16=x16,sq 17=x17,sq 18=x18,sq 19=x19,sq 20=x20 at *
       go_simp
       exact hK' _ _ (Only.refl _ _) (by obtain ⟨q,hq,hD,hO⟩:=hJ;exact ⟨q,by omega,hD,hO⟩) rfl
      ·cases (show some _=some oq from hoq)
       have d4:=hd 4 (by kernel_rfl) (by decide)
       have hK':=hK
       simp only [updV,Nat.reduceEqDiff,↓reduceIte] at hK'
       clear hK hd
       generalize sq 0=x0,sq 1=x1,sq 2=x2,sq 3=x3,sq 4=x4,sq 5=x5,sq 6=x6,sq 7=x7,sq 8=x8,sq 9=x9,sq 10=x10,sq 11=x11,sq 12=x12,sq 13=x13,sq 14=x14,sq 15=x15,sq 16=x16,sq 17=x17,sq 18=x18,sq 19=x19,sq 20=x20 at *
       obtain rfl:=d4
       have hcc:=(KV.out.only (by obtain ⟨q,hq,hD,hO⟩:=hJ;exact hO) hneV).cell 1
       go_simp
       exact hK' _ _ (Only.refl _ _) (by obtain ⟨q,hq,hD,hO⟩:=hJ;exact ⟨q,by omega,hD,hO⟩) ⟨_,rfl⟩
      ·cases (show some _=some oq from hoq)
       have d5:=hd 5 (by kernel_rfl) (by decide)
       have hK':=hK
       simp only [updV,Nat.reduceEqDiff,↓reduceIte] at hK'
       clear hK hd
       generalize sq 0=x0,sq 1=x1,sq 2=x2,sq 3=x3,sq 4=x4,sq 5=x5,sq 6=x6,sq 7=x7,sq 8=x8,sq 9=x9,sq 10=x10,sq 11=x11,sq 12=x12,sq 13=x13,sq 14=x14,sq 15=x15,sq 16=x16,sq 17=x17,sq 18=x18,sq 19=x19,sq 20=x20 at *
       obtain ⟨z5,rfl⟩:=d5
       go_simp
       exact hK' _ _ (Only.refl _ _) (by obtain ⟨q,hq,hD,hO⟩:=hJ;exact ⟨q,by omega,hD,hO⟩) ⟨_,rfl⟩
      ·cases (show some _=some oq from hoq)
       have d3:=hd 3 (by kernel_rfl) (by decide)
       have d6:=hd 6 (by kernel_rfl) (by decide)
       have hK':=hK
       simp only [updV,Nat.reduceEqDiff,↓reduceIte] at hK'
       clear hK hd
       generalize sq 0=x0,sq 1=x1,sq 2=x2,sq 3=x3,sq 4=x4,sq 5=x5,sq 6=x6,sq 7=x7,sq 8=x8,sq 9=x9,sq 10=x10,sq 11=x11,sq 12=x12,sq 13=x13,sq 14=x14,sq 15=x15,sq 16=x16,sq 17=x17,sq 18=x18,sq 19=x19,sq 20=x20 at *
       obtain ⟨z3,rfl⟩:=d3
       obtain ⟨z6,rfl⟩:=d6
       go_simp
       exact hK' _ _ (Only.refl _ _) (by obtain ⟨q,hq,hD,hO⟩:=hJ;exact ⟨q,by omega,hD,hO⟩) ⟨_,_,rfl⟩
      ·cases (show some _=some oq from hoq)
       have hK':=hK
       simp only [updV,Nat.reduceEqDiff,↓reduceIte] at hK'
       clear hK hd
       generalize sq 0=x0,sq 1=x1,sq 2=x2,sq 3=x3,sq 4=x4,sq 5=x5,sq 6=x6,sq 7=x7,sq 8=x8,sq 9=x9,sq 10=x10,sq 11=x11,sq 12=x12,sq 13=x13,sq 14=x14,sq 15=x15,sq 16=x16,sq 17=x17,sq 18=x18,sq 19=x19,sq 20=x20 at *
       go_simp
       exact hK' _ _ (Only.refl _ _) (by obtain ⟨q,hq,hD,hO⟩:=hJ;exact ⟨q,by omega,hD,hO⟩) rfl
      ·cases (show some _=some oq from hoq)
       have d8:=hd 8 (by kernel_rfl) (by decide)
       have hK':=hK
       simp only [updV,Nat.reduceEqDiff,↓reduceIte] at hK'
       clear hK hd
       generalize sq 0=x0,sq 1=x1,sq 2=x2,sq 3=x3,sq 4=x4,sq 5=x5,sq 6=x6,sq 7=x7,sq 8=x8,sq 9=x9,sq 10=x10,sq 11=x11,sq 12=x12,sq 13=x13,sq 14=x14,sq 15=x15,sq 16=x16,sq 17=x17,sq 18=x18,sq 19=x19,sq 20=x20 at *
       obtain rfl:=d8
       have hcc:=(KV.out.only (by obtain ⟨q,hq,hD,hO⟩:=hJ;exact hO) hneV).cell 0
       go_simp
       exact hK' _ _ (Only.refl _ _) (by obtain ⟨q,hq,hD,hO⟩:=hJ;exact ⟨q,by omega,hD,hO⟩) ⟨_,rfl⟩
      ·cases (show some _=some oq from hoq)
       have d9:=hd 9 (by kernel_rfl) (by decide)
       have hK':=hK
       simp only [updV,Nat.reduceEqDiff,↓reduceIte] at hK'
       clear hK hd
       generalize sq 0=x0,sq 1=x1,sq 2=x2,sq 3=x3,sq 4=x4,sq 5=x5,sq 6=x6,sq 7=x7,sq 8=x8,sq 9=x9,sq 10=x10,sq 11=x11,sq 12=x12,sq 13=x13,sq 14=x14,sq 15=x15,sq 16=x16,sq 17=x17,sq 18=x18,sq 19=x19,sq 20=x20 at *
       obtain ⟨z9,rfl⟩:=d9
       go_simp
       exact hK' _ _ (Only.refl _ _) (by obtain ⟨q,hq,hD,hO⟩:=hJ;exact ⟨q,by omega,hD,hO⟩) ⟨_,rfl⟩
      ·cases (show some _=some oq from hoq)
       have hK':=hK
       simp only [updV,Nat.reduceEqDiff,↓reduceIte] at hK'
       clear hK hd
       generalize sq 0=x0,sq 1=x1,sq 2=x2,sq 3=x3,sq 4=x4,sq 5=x5,sq 6=x6,sq 7=x7,sq 8=x8,sq 9=x9,sq 10=x10,sq 11=x11,sq 12=x12,sq 13=x13,sq 14=x14,sq 15=x15,sq 16=x16,sq 17=x17,sq 18=x18,sq 19=x19,sq 20=x20 at *
       go_simp
       exact hK' _ _ (Only.refl _ _) (by obtain ⟨q,hq,hD,hO⟩:=hJ;exact ⟨q,by omega,hD,hO⟩) rfl
      ·cases (show some _=some oq from hoq)
       have d11:=hd 11 (by kernel_rfl) (by decide)
       have hK':=hK
       simp only [updV,Nat.reduceEqDiff,↓reduceIte] at hK'
       clear hK hd
       generalize sq 0=x0,sq 1=x1,sq 2=x2,sq 3=x3,sq 4=x4,sq 5=x5,sq 6=x6,sq 7=x7,sq 8=x8,sq 9=x9,sq 10=x10,sq 11=x11,sq 12=x12,sq 13=x13,sq 14=x14,sq 15=x15,sq 16=x16,sq 17=x17,sq 18=x18,sq 19=x19,sq 20=x20 at *
       obtain rfl:=d11
       go_simp
       obtain ⟨q,hq,hD,hO⟩:=hJ
       refine (pick_any g 30 q _ hD.1 (by omega)).mono ?_
       rintro e w2 ⟨u,rfl,a9,b9,hR,hO2⟩
       exact hK' _ _ hO2 ⟨q+1,by omega,hD.step hR hO2,hO.trans hO2⟩ ⟨_,rfl⟩
      ·cases (show some _=some oq from hoq)
       have d12:=hd 12 (by kernel_rfl) (by decide)
       have hK':=hK
       simp only [updV,Nat.reduceEqDiff,↓reduceIte] at hK'
       clear hK hd
       generalize sq 0=x0,sq 1=x1,sq 2=x2,sq 3=x3,sq 4=x4,sq 5=x5,sq 6=x6,sq 7=x7,sq 8=x8,sq 9=x9,sq 10=x10,sq 11=x11,sq 12=x12,sq 13=x13,sq 14=x14,sq 15=x15,sq 16=x16,sq 17=x17,sq 18=x18,sq 19=x19,sq 20=x20 at *
       obtain ⟨z12,rfl⟩:=d12
       go_simp
       exact hK' _ _ (Only.refl _ _) (by obtain ⟨q,hq,hD,hO⟩:=hJ;exact ⟨q,by omega,hD,hO⟩) ⟨_,rfl⟩
      ·cases (show some _=some oq from hoq)
       have d10:=hd 10 (by kernel_rfl) (by decide)
       have d13:=hd 13 (by kernel_rfl) (by decide)
       have hK':=hK
       simp only [updV,Nat.reduceEqDiff,↓reduceIte] at hK'
       clear hK hd
       generalize sq 0=x0,sq 1=x1,sq 2=x2,sq 3=x3,sq 4=x4,sq 5=x5,sq 6=x6,sq 7=x7,sq 8=x8,sq 9=x9,sq 10=x10,sq 11=x11,sq 12=x12,sq 13=x13,sq 14=x14,sq 15=x15,sq 16=x16,sq 17=x17,sq 18=x18,sq 19=x19,sq 20=x20 at *
       obtain ⟨z10,rfl⟩:=d10
       obtain ⟨z13,rfl⟩:=d13
       go_simp
       exact hK' _ _ (Only.refl _ _) (by obtain ⟨q,hq,hD,hO⟩:=hJ;exact ⟨q,by omega,hD,hO⟩) ⟨_,rfl⟩
      ·cases (show some _=some oq from hoq)
       have hK':=hK
       simp only [updV,Nat.reduceEqDiff,↓reduceIte] at hK'
       clear hK hd
       generalize sq 0=x0,sq 1=x1,sq 2=x2,sq 3=x3,sq 4=x4,sq 5=x5,sq 6=x6,sq 7=x7,sq 8=x8,sq 9=x9,sq 10=x10,sq 11=x11,sq 12=x12,sq 13=x13,sq 14=x14,sq 15=x15,sq 16=x16,sq 17=x17,sq 18=x18,sq 19=x19,sq 20=x20 at *
       go_simp
       exact hK' _ _ (Only.refl _ _) (by obtain ⟨q,hq,hD,hO⟩:=hJ;exact ⟨q,by omega,hD,hO⟩) rfl
      ·cases (show some _=some oq from hoq)
       have d15:=hd 15 (by kernel_rfl) (by decide)
       have hK':=hK
       simp only [updV,Nat.reduceEqDiff,↓reduceIte] at hK'
       clear hK hd
       generalize sq 0=x0,sq 1=x1,sq 2=x2,sq 3=x3,sq 4=x4,sq 5=x5,sq 6=x6,sq 7=x7,sq 8=x8,sq 9=x9,sq 10=x10,sq 11=x11,sq 12=x12,sq 13=x13,sq 14=x14,sq 15=x15,sq 16=x16,sq 17=x17,sq 18=x18,sq 19=x19,sq 20=x20 at *
       obtain rfl:=d15
       have hcc:=(KV.out.only (by obtain ⟨q,hq,hD,hO⟩:=hJ;exact hO) hneV).cell 1
       go_simp
       exact hK' _ _ (Only.refl _ _) (by obtain ⟨q,hq,hD,hO⟩:=hJ;exact ⟨q,by omega,hD,hO⟩) ⟨_,rfl⟩
      ·cases (show some _=some oq from hoq)
       have d16:=hd 16 (by kernel_rfl) (by decide)
       have hK':=hK
       simp only [updV,Nat.reduceEqDiff,↓reduceIte] at hK'
       clear hK hd
       generalize sq 0=x0,sq 1=x1,sq 2=x2,sq 3=x3,sq 4=x4,sq 5=x5,sq 6=x6,sq 7=x7,sq 8=x8,sq 9=x9,sq 10=x10,sq 11=x11,sq 12=x12,sq 13=x13,sq 14=x14,sq 15=x15,sq 16=x16,sq 17=x17,sq 18=x18,sq 19=x19,sq 20=x20 at *
       obtain ⟨z16,rfl⟩:=d16
       go_simp
       exact hK' _ _ (Only.refl _ _) (by obtain ⟨q,hq,hD,hO⟩:=hJ;exact ⟨q,by omega,hD,hO⟩) ⟨_,rfl⟩
      ·cases (show some _=some oq from hoq)
       have d14:=hd 14 (by kernel_rfl) (by decide)
       have d17:=hd 17 (by kernel_rfl) (by decide)
       have hK':=hK
       simp only [updV,Nat.reduceEqDiff,↓reduceIte] at hK'
       clear hK hd
       generalize sq 0=x0,sq 1=x1,sq 2=x2,sq 3=x3,sq 4=x4,sq 5=x5,sq 6=x6,sq 7=x7,sq 8=x8,sq 9=x9,sq 10=x10,sq 11=x11,sq 12=x12,sq 13=x13,sq 14=x14,sq 15=x15,sq 16=x16,sq 17=x17,sq 18=x18,sq 19=x19,sq 20=x20 at *
       obtain ⟨z14,rfl⟩:=d14
       obtain ⟨z17,rfl⟩:=d17
       go_simp
       exact hK' _ _ (Only.refl _ _) (by obtain ⟨q,hq,hD,hO⟩:=hJ;exact ⟨q,by omega,hD,hO⟩) ⟨_,_,rfl⟩
      ·cases (show some _=some oq from hoq)
       have d7:=hd 7 (by kernel_rfl) (by decide)
       have d18:=hd 18 (by kernel_rfl) (by decide)
       have hK':=hK
       simp only [updV,Nat.reduceEqDiff,↓reduceIte] at hK'
       clear hK hd
       generalize sq 0=x0,sq 1=x1,sq 2=x2,sq 3=x3,sq 4=x4,sq 5=x5,sq 6=x6,sq 7=x7,sq 8=x8,sq 9=x9,sq 10=x10,sq 11=x11,sq 12=x12,sq 13=x13,sq 14=x14,sq 15=x15,sq 16=x16,sq 17=x17,sq 18=x18,sq 19=x19,sq 20=x20 at *
       obtain ⟨x3,y3,rfl⟩:=d7
       obtain ⟨x10,y10,rfl⟩:=d18
       go_simp
       exact hK' _ _ (Only.refl _ _) (by obtain ⟨q,hq,hD,hO⟩:=hJ;exact ⟨q,by omega,hD,hO⟩) ⟨(_,_,_,_),rfl⟩
      ·cases (show some _=some oq from hoq)
       have d19:=hd 19 (by kernel_rfl) (by decide)
       have hK':=hK
       simp only [updV,Nat.reduceEqDiff,↓reduceIte] at hK'
       clear hK hd
       generalize sq 0=x0,sq 1=x1,sq 2=x2,sq 3=x3,sq 4=x4,sq 5=x5,sq 6=x6,sq 7=x7,sq 8=x8,sq 9=x9,sq 10=x10,sq 11=x11,sq 12=x12,sq 13=x13,sq 14=x14,sq 15=x15,sq 16=x16,sq 17=x17,sq 18=x18,sq 19=x19,sq 20=x20 at *
       obtain ⟨b,rfl⟩:=d19
       go_simp
       obtain ⟨q,hq,hD,hO⟩:=hJ
       exact hK' _ _ (Only.of_below (ba (Below.refl _ _)) g) ⟨q,by omega,hD.next (ba (Below.refl _ _)),hO.next (ba (Below.refl _ _))⟩ ⟨_,b,rfl,hD.1.lt,Blk.new _ _ _⟩
     ·intro sq w' hJ hφ
      simp only [List.drop_succ_cons,List.drop_zero]
      have d1:=hφ 1 (by decide)
      have d20:=hφ 20 (by decide)
      clear hφ
      generalize sq 0=x0,sq 1=x1,sq 2=x2,sq 3=x3,sq 4=x4,sq 5=x5,sq 6=x6,sq 7=x7,sq 8=x8,sq 9=x9,sq 10=x10,sq 11=x11,sq 12=x12,sq 13=x13,sq 14=x14,sq 15=x15,sq 16=x16,sq 17=x17,sq 18=x18,sq 19=x19,sq 20=x20 at *
      obtain ⟨q2,hq2,hD,hO⟩:=hJ
      obtain rfl:=d1
      obtain ⟨e2,b2,rfl,he2,hbe⟩:=d20
      replace HD:=Lib.hid hD
      replace KR:=Lib.hid (KR.out.only hO hne)
      replace KL:=Lib.hid (KL.out.only hO hneL)
      have HOL:=Lib.hid (HOL.out.only hO hg)
      have HBE:=Lib.hid hbe
      have hmn:rw.n≤1000:=HOL.out.wn
      clear hD hO hbe
      refine wpList_append_ow _ rfl (.tmp 93) (.tmp 112) _ rfl w.heap.size 27 i0 _ 4 32 Tryz.underlying25 HI.out HZ.out HS.out HBY.out rfl (by omega) _ rw.n rw.c (cellsB r.walls) rfl HOL.out.wl _ 1 1 (cellsB [b2]) rfl (Src.blk HBE.out rfl) (cellsX_oneCell encB_one _) (by unfold maxLen;omega) (by omega) (by have:=HD.out.2.size;omega) ?_
      intro A3 c3 w8 hown hg8 hn8
      have hgk:=HWS2.out
      have HOL8:=Lib.hid (HOL.out.wall (l':=⟨r.id,r.ticks,r.sx,r.sy,r.walls ++ [b2],r.gates,r.f,r.bans⟩) hown hg8 hn8 (by omega) rfl rfl)
      have HD8:=Lib.hid (HD.out.grown hg hg8 (row_base HOL.out.wl))
      have KR8:=Lib.hid (blk_apart KR.out HOL.out.wl (by decide) hg8)
      have KL8:=Lib.hid (blk_apart KL.out HOL.out.wl (by decide) hg8)
      clear hown hg8 hn8 hgk
      have cl:=fun o=>KL8.out.cell o
      have fl:=fun o=>KL8.out.frozen o
      have zl:=KL8.out.lt
      go_wp2_with fail
      have hgk:=HWS2.out
      refine ⟨⟨k2+1,⟨r.id,r.ticks,r.sx,r.sy,r.walls ++ [b2],r.gates,r.f,r.bans⟩,⟨A3,rw.n+1,c3⟩,rg,by omega,by go_num,q2,by omega,HD8.out.set (by simp;omega) hg _,KR8.out.far (p:=⟨w5.heap.size,4,none⟩) hneR _,KL8.out.set_ 4 _,HOL8.out.onlyT KL8.out (by decide) (Only.set_ (p:=⟨w5.heap.size,4,none⟩) (Only.refl _ w8) (.inl rfl) _),?_⟩,by simp [intOf];omega⟩
      show rw.n+1=k2+1
      omega
    ·go_wp2_with fail
     refine (pick_any g 6 _ _ (HD.out.next (Below.refl _ _)).1 (by omega)).mono ?_
     rintro e w14 ⟨v14,rfl,a14,b14,hR,hO⟩
     have c14:=b14 (by omega)
     replace HD:=Lib.hid ((HD.out.next (Below.refl _ _)).step hR hO)
     replace KR:=Lib.hid ((KR.out.next (Below.refl _ _)).only hO hne)
     replace KL:=Lib.hid ((KL.out.next (Below.refl _ _)).only hO hneL)
     have HOL:=Lib.hid ((HOL.out.next (Below.refl _ _)).only hO hg)
     clear b14 hR hO
     have cl:=fun o=>KL.out.cell o
     have fl:=fun o=>KL.out.frozen o
     have zl:=KL.out.lt
     by_cases h0:v14=0
     rotate_left
     ·have h0':(v14 == 0)=false:=by simpa using h0
      clear h0
      go_upto_region 19 with (fail)
      have KR2:=Lib.hid (setLv (l:=r) (ws:=rw) (gs:=rg) KR.out)
      have HRA:=Lib.hid (rangeLv KL.out)
      have HTH:=Lib.hid (thereLv KR.out)
      have HD2:=Lib.hid (Dr.sets hg (Nat.le_refl _) (lvlC r rw rg).toList 0 _ HD.out)
      have HOL2:=Lib.hid (OwLv.onlyT HOL.out KR.out (by decide) (onlySets (.inl rfl) (lvlC r rw rg).toList 0 _ (Only.refl _ _)))
      clear cl fl zl HI HZ HS HBY
      go_wp2_with (refine wpList_load_mid rfl 29 (.tmp 3) rfl w5.heap.size 0 rfl (lvlC r rw rg).toList _ HRA.out Tryz.underlying29 rfl (by kernel_rfl) ?_;refine wpList_store_mid rfl 29 (.tmp 2) (.tmp 136) rfl w.heap.size 0 (lvlC r rw rg) rfl rfl HTH.out (by kernel_rfl) (oneLv _ _ _) ?_;clear HRA HTH KR KL HD HOL;generalize World.setCells _ _ _ _=Z at *;have cr:=fun o=>KR2.out.cell o)
      refine bodyPost_ret (v:=lvlV r rw rg) (by simp [results,Tryz.results45,go_sem,cr]) rfl ?_
      exact ⟨r,rw,rg,q3+1,rfl,HOL2.out,by omega,HD2.out⟩
     have h0':(v14 == 0)=true:=by simpa using h0
     clear h0
     by_cases h4:rw.n<4
     rotate_left
     ·have h4':decide ((rw.n:Int)<4)=false:=by simp;omega
      clear h4
      go_upto_region 19 with (fail)
      have KR2:=Lib.hid (setLv (l:=r) (ws:=rw) (gs:=rg) KR.out)
      have HRA:=Lib.hid (rangeLv KL.out)
      have HTH:=Lib.hid (thereLv KR.out)
      have HD2:=Lib.hid (Dr.sets hg (Nat.le_refl _) (lvlC r rw rg).toList 0 _ HD.out)
      have HOL2:=Lib.hid (OwLv.onlyT HOL.out KR.out (by decide) (onlySets (.inl rfl) (lvlC r rw rg).toList 0 _ (Only.refl _ _)))
      clear cl fl zl HI HZ HS HBY
      go_wp2_with (refine wpList_load_mid rfl 29 (.tmp 3) rfl w5.heap.size 0 rfl (lvlC r rw rg).toList _ HRA.out Tryz.underlying29 rfl (by kernel_rfl) ?_;refine wpList_store_mid rfl 29 (.tmp 2) (.tmp 136) rfl w.heap.size 0 (lvlC r rw rg) rfl rfl HTH.out (by kernel_rfl) (oneLv _ _ _) ?_;clear HRA HTH KR KL HD HOL;generalize World.setCells _ _ _ _=Z at *;have cr:=fun o=>KR2.out.cell o)
      refine bodyPost_ret (v:=lvlV r rw rg) (by simp [results,Tryz.results45,go_sem,cr]) rfl ?_
      exact ⟨r,rw,rg,q3+1,rfl,HOL2.out,by omega,HD2.out⟩
     have h4':decide ((rw.n:Int)<4)=true:=by simp;omega
     have hmn:rw.n≤1000:=HOL.out.wn
     have hws14:=HD.out.2.size
     go_upto_region 19 with (at_builtin;refine wpList_append_ow _ rfl (.tmp 125) (.tmp 133) _ rfl w.heap.size 27 i0 _ 4 32 Tryz.underlying25 HI.out HZ.out HS.out HBY.out rfl (by omega) _ rw.n rw.c (cellsB r.walls) rfl (Ow.next HOL.out.wl (ba (Below.refl _ _))) _ 1 1 (cellsB [(wrap64 (wrap64 (wrap64 (z+500)+wrap64 (v7 * 100))+7000),-9000,wrap64 (wrap64 (wrap64 (z+500)+wrap64 (v7 * 100))+8000),9000)]) rfl (Src.blk (Blk.new _ _ _) rfl) (cellsX_oneCell encB_one _) (by unfold maxLen;omega) (by omega) (by simp;omega) ?_;intro A3 c3 w8 hown hg8 hn8;have HOL8:=Lib.hid ((HOL.out.next (ba (Below.refl _ _))).wall (l':=⟨r.id,r.ticks,r.sx,r.sy,r.walls ++ [(wrap64 (wrap64 (wrap64 (z+500)+wrap64 (v7 * 100))+7000),-9000,wrap64 (wrap64 (wrap64 (z+500)+wrap64 (v7 * 100))+8000),9000)],r.gates,r.f,r.bans⟩) hown hg8 hn8 (by omega) rfl rfl);have HD8:=Lib.hid ((HD.out.next (ba (Below.refl _ _))).grown hg hg8 (row_base HOL.out.wl));have KR8:=Lib.hid (blk_apart (KR.out.next (ba (Below.refl _ _))) (Ow.next HOL.out.wl (ba (Below.refl _ _))) (by decide) hg8);have KL8:=Lib.hid (blk_apart (KL.out.next (ba (Below.refl _ _))) (Ow.next HOL.out.wl (ba (Below.refl _ _))) (by decide) hg8);clear hown hg8 hn8 cl fl zl KR KL HD HOL;have cl:=fun o=>KL8.out.cell o;have fl:=fun o=>KL8.out.frozen o;have zl:=KL8.out.lt)
     refine into_world (fun Y=>Dr w g (q3+1) Y∧Blk Y w.heap.size 29 (lvlC lv0 ⟨none,0,0⟩ ⟨none,0,0⟩)∧∃ r' rw' rg',Blk Y w5.heap.size 29 (lvlC r' rw' rg')∧OwLv w.heap.size Y r' rw' rg') ⟨HD8.out.set (by simp;omega) hg _,KR8.out.far (p:=⟨w5.heap.size,4,none⟩) hneR _,⟨r.id,r.ticks,r.sx,r.sy,r.walls ++ [(wrap64 (wrap64 (wrap64 (z+500)+wrap64 (v7 * 100))+7000),-9000,wrap64 (wrap64 (wrap64 (z+500)+wrap64 (v7 * 100))+8000),9000)],r.gates,r.f,r.bans⟩,⟨A3,rw.n+1,c3⟩,rg,KL8.out.set_ 4 _,HOL8.out.onlyT KL8.out (by decide) (Only.set_ (p:=⟨w5.heap.size,4,none⟩) (Only.refl _ w8) (.inl rfl) _)⟩ ?_
     rintro Y ⟨hD,hKR,r',rw',rg',hKL,hOL⟩
     have HD:=Lib.hid hD
     have KR:=Lib.hid hKR
     have KL:=Lib.hid hKL
     have HOL:=Lib.hid hOL
     clear hD hKR hKL hOL HD8 KR8 KL8 HOL8
     go_upto_region 19 with (fail)
     have KR2:=Lib.hid (setLv (l:=r') (ws:=rw') (gs:=rg') KR.out)
     have HRA:=Lib.hid (rangeLv KL.out)
     have HTH:=Lib.hid (thereLv KR.out)
     have HD2:=Lib.hid (Dr.sets hg (Nat.le_refl _) (lvlC r' rw' rg').toList 0 _ HD.out)
     have HOL2:=Lib.hid (OwLv.onlyT HOL.out KR.out (by decide) (onlySets (.inl rfl) (lvlC r' rw' rg').toList 0 _ (Only.refl _ _)))
     clear cl fl zl HI HZ HS HBY
     go_wp2_with (refine wpList_load_mid rfl 29 (.tmp 3) rfl w5.heap.size 0 rfl (lvlC r' rw' rg').toList _ HRA.out Tryz.underlying29 rfl (by kernel_rfl) ?_;refine wpList_store_mid rfl 29 (.tmp 2) (.tmp 136) rfl w.heap.size 0 (lvlC r' rw' rg') rfl rfl HTH.out (by kernel_rfl) (oneLv _ _ _) ?_;clear HRA HTH KR KL HD HOL;generalize World.setCells _ _ _ _=Z at *;have cr:=fun o=>KR2.out.cell o)
     refine bodyPost_ret (v:=lvlV r' rw' rg') (by simp [results,Tryz.results45,go_sem,cr]) rfl ?_
     exact ⟨r',rw',rg',q3+1,rfl,HOL2.out,by omega,HD2.out⟩
end Go.Proofs.YtkgfmgajhgfgjaaGreatDoor

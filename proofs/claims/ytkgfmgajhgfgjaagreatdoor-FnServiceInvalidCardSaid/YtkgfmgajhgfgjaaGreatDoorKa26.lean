/-
  Lemmas and contracts: Ev Ew Lo Kl Lt. No condition.
-/
import Derived.Deep.CutBlock
import Derived.Test.YtkgfmgajhgfgjaaGreatDoorChecked
import Derived.Conc.Holds
import Derived.Handed
import Derived.SevenTiedAt
import Derived.Stop.LaidErr
import Derived.Lib.LaidTab
import Derived.Shelf.Vars
import Derived.LaidSub
import Derived.Test.YtkgfmgajhgfgjaaGreatDoorRows
import Derived.Conc.HoldsTime
import Derived.Clock
import Derived.LaidMore
import Derived.MakeChecks
import Derived.Lay
import Derived.Test.YtkgfmgajhgfgjaaGreatDoorKa19
import Derived.Test.YtkgfmgajhgfgjaaGreatDoorKa21
import Derived.Test.YtkgfmgajhgfgjaaGreatDoorKa22
import Derived.Test.YtkgfmgajhgfgjaaGreatDoorKa25
set_option linter.unusedSimpArgs false
set_option linter.unusedVariables false
set_option linter.unusedSectionVars false
namespace Go.Proofs.YtkgfmgajhgfgjaaGreatDoor
open Go.RowKit Go.Sort
def OwU (lo hi:Nat) (w:World) (t k g:Sl) (S:Svc):Prop :=
 OwS lo hi w t k g S∨∃ (b c n:Nat) (z:Int),OwS lo hi w t ⟨some ⟨b,0,none⟩,n+1,c+1⟩ g ⟨S.ts,z :: S.keys,S.tags⟩∧k=⟨if c=0 then some ⟨b,0,none⟩ else some ⟨b,1,none⟩,n,c⟩
section
variable {lo hi:Nat} {w w':World} {t k g:Sl} {S:Svc}
theorem OwU.onlyT {o T':Nat} {cs:Array Value} (h:OwU lo hi w t k g S) (b:Blk w o T' cs) (h1:27≠T') (h2:55≠T') (h3:65≠T') (h4:3≠T') (ho:Only o w w'):OwU lo hi w' t k g S:=by
 rcases h with h|⟨x,c,n,z,h,hk⟩
 ·exact .inl (h.onlyT b h1 h2 h3 h4 ho)
 ·exact .inr ⟨x,c,n,z,h.onlyT b h1 h2 h3 h4 ho,hk⟩
theorem OwU.keepB (h:OwU lo hi w t k g S) (hk:∀ i,lo≤i→i<w.heap.size→w'.heap[i]?=w.heap[i]?):OwU lo hi w' t k g S:=by
 rcases h with h|⟨x,c,n,z,h,he⟩
 ·exact .inl (h.keepB hk)
 ·exact .inr ⟨x,c,n,z,h.keepB hk,he⟩
theorem OwU.rd (h:OwU lo hi w t k g S):RdS w t k g S:=by
 rcases h with h|⟨b,c,n,z,h,rfl⟩
 ·exact h.rd
 ·obtain ⟨h1,h2,h3,h4,h5,h6⟩:=h.rd
  refine ⟨h1,?_,h3,h4,⟨Nat.le_of_succ_le_succ h5.1,by have:=h5.2;simp only at this ⊢;omega⟩,h6⟩
  have hl:=h2.1
  simp only [List.length_cons] at hl
  refine ⟨by show S.keys.length=n;omega,fun hn=>?_⟩
  have hn:0<n:=hn
  have hc:¬ c=0:=by have:=h5.1;simp only at this;omega
  obtain ⟨b',off,hA,hb,hcell⟩:=h2.2 (by simp only;omega)
  injection hA with hA
  injection hA with hb1 ho1
  subst hb1
  subst ho1
  refine ⟨b,1,by simp [hc],hb,fun j e he=>?_⟩
  have:=hcell (j+1) e (by simpa using he)
  rw [Nat.zero_add] at this
  rw [Nat.add_comm 1 j]
  exact this
theorem OwU.ds {q r:Nat} (h:OwU lo hi w t k g S) (hq:q<lo) (hr:r+1<lo):DS q r w t k g S:=fun _ hX=>(h.keepB fun i h1 h2=>hX.block i h2 (by omega) (by omega) (by omega)).rd
end
abbrev trkV (y:Row):Value:=.agg #[.int .i64 y.2.l.id,.int .i64 y.2.l.ticks,.int .i64 y.2.l.sx,.int .i64 y.2.l.sy,.slice y.1.w.a y.1.w.n y.1.w.c,.slice y.1.g.a y.1.g.n y.1.g.c,.int .i64 y.2.l.f.1,.int .i64 y.2.l.f.2.1,.int .i64 y.2.l.f.2.2.1,.int .i64 y.2.l.f.2.2.2,.int .i64 y.2.l.bans,.slice y.1.b.a y.1.b.n y.1.b.c]
def TrkAt (B:Nat) (w:World) (y:Row):Prop:=OwLv B w y.2.l y.1.w y.1.g∧y.2.b=[(3,9)]∧∃ e,y.1.b=⟨some ⟨e,0,none⟩,1,1⟩∧B≤e∧Blk w e 55 #[.int .i64 3,.int .i64 9]
section
variable {B g:Nat} {w w':World} {y:Row}
theorem TrkAt.only (h:TrkAt B w y) (ho:Only g w w') (hg:g<B):TrkAt B w' y:=by
 obtain ⟨h1,h2,e,h3,h4,h5⟩:=h
 exact ⟨h1.only ho hg,h2,e,h3,h4,h5.only ho (by omega)⟩
theorem TrkAt.next (h:TrkAt B w y) (hb:Below w.heap.size w w'):TrkAt B w' y:=by
 obtain ⟨h1,h2,e,h3,h4,h5⟩:=h
 exact ⟨h1.next hb,h2,e,h3,h4,h5.next hb⟩
theorem TrkAt.own (h:TrkAt B w y):OwT B w.heap.size w y:=by
 obtain ⟨h1,h2,e,h3,h4,h5⟩:=h
 refine ⟨⟨OwI.of h1.wl,OwI.of h1.gt,by have:=h1.wn;omega,by have:=h1.gn;omega⟩,?_,by rw [h3];simp⟩
 rw [h3,h2]
 exact OwI.of (Ow.of_blk h5 rfl (show 1≤1048576 by omega) h4)
theorem TrkAt.nodup (h:TrkAt B w y):(blkOf y.1.w ++ blkOf y.1.g).Nodup:=by
 rw [List.nodup_append]
 refine ⟨blkOf_nodup _,blkOf_nodup _,fun a ha b hb e=>?_⟩
 subst e
 have h1:ownB y.1.w.a y.1.w.c=some a:=by simpa [blkOf] using ha
 have h2:ownB y.1.g.a y.1.g.c=some a:=by simpa [blkOf] using hb
 exact h.1.dj a h1 h2
end
def RuPost (g r p K:Nat) (w:World) (e:Ending) (w':World):Prop :=
 ∃ (t k gg:Sl) (S:Svc) (q:Nat),e=.returned (svV t k gg)∧DS g r w' t k gg S∧q≤p+K∧Dr w g q w'
def RuMid (g p K:Nat) (w wx:World):Prop :=
 ∃ (t k gg:Sl) (S:Svc) (q lo hi:Nat),w.heap.size+2≤lo∧q≤p+K∧Dr w g q wx∧Blk wx (w.heap.size+1) 42 #[.slice none 0 0,.slice none 0 0,.slice none 0 0]∧Blk wx w.heap.size 42 #[.slice t.a t.n t.c,.slice k.a k.n k.c,.slice gg.a gg.n gg.c]∧OwU lo hi wx t k gg S
set_option maxRecDepth 100000 in
set_option maxHeartbeats 8000000 in
theorem l92Ruined_any (g p r:Nat) (t k gg:Sl) (S:Svc) (w:World) (h:Rdr w g p) (hp:p≤900000) (hs:DS g r w t k gg S) (hr:r<w.heap.size) (hid:idsOk S) :
  Calls Tryz.prog 77 #[.pointer (some ⟨g,0,none⟩),svV t k gg] w (RuPost g r p 2000 w):=by
 have hg:=h.lt
 obtain ⟨j0,hj0,hy0,hy1,hy2⟩:=info_parts infoZ
 have JI:=Lib.hid hj0
 have JZ:=Lib.hid hy0
 have JS:=Lib.hid hy1
 have JB:=Lib.hid hy2
 obtain ⟨i0,hi0,hz0,hz1,hz2⟩:=info_parts infoT
 have HI:=Lib.hid hi0
 have HZ:=Lib.hid hz0
 have HS:=Lib.hid hz1
 have HBY:=Lib.hid hz2
 have HID:=Lib.hid hid
 clear hj0 hy0 hy1 hy2 hi0 hz0 hz1 hz2 hid
 have H:=Lib.hid h
 have HDS:=Lib.hid hs
 have hkl:=hs.rd.2.1.1
 clear h hs
 obtain ⟨ka,kn,kc⟩:=k
 simp only at hkl
 have n0:w.heap.size≠g:=by omega
 have n1:w.heap.size+1≠g:=by omega
 go_enter Tryz.func77,Tryz.ntmps77
 go_upto_region 1 with (fail)
 refine into_world (fun W=>Dr w g p W∧Blk W w.heap.size 42 #[.slice t.a t.n t.c,.slice ka kn kc,.slice gg.a gg.n gg.c]∧Blk W (w.heap.size+1) 42 #[.slice none 0 0,.slice none 0 0,.slice none 0 0]∧W.heap.size=w.heap.size+1+1) ⟨Dr.next ⟨H.out,Only.refl _ _⟩ (ba (ba (Below.refl _ _))),(Blk.new _ _ _).alloc _,Blk.newAt _ _ _ _ (by simp),by simp⟩ ?_
 rintro W ⟨hD,hKS,hKR,hWz⟩
 have HD:=Lib.hid hD
 have KS:=Lib.hid hKS
 have KR:=Lib.hid hKR
 have HWZ:=Lib.hid hWz
 have hwW:w.heap.size+2≤W.heap.size:=by omega
 clear hD hKS hKR hWz
 have cs:=fun o=>KS.out.cell o
 have fs:=fun o=>KS.out.frozen o
 have zs:=KS.out.lt
 rcases Nat.eq_zero_or_pos kn with rfl|hk0
 ·have cr:=fun o=>KR.out.cell o
  have fr:=fun o=>KR.out.frozen o
  have zr:=KR.out.lt
  clear hkl
  go_wp2_with fail
  refine bodyPost_ret (v:=svV t ⟨ka,0,kc⟩ gg) (by simp [results,Tryz.results77,go_sem,cr]) rfl ?_
  refine (fun hd=>⟨t,⟨ka,0,kc⟩,gg,S,p,rfl,HDS.out.only hd.2,by omega,hd⟩:Dr w g p _→RuPost g r p 2000 w _ _) ?_
  exact (((HD.out.set (by show w.heap.size≤w.heap.size+1;omega) hg _).set (by show w.heap.size≤w.heap.size+1;omega) hg _).set (by show w.heap.size≤w.heap.size+1;omega) hg _)
 have hk0':decide (kn=0)=false:=by simp;omega
 go_wp2_with fail
 refine (l41Copy_any t ⟨ka,kn,kc⟩ gg S _ (HDS.out.only HD.out.2).rd).mono ?_
 rintro e w1 ⟨⟨ta,tn,tc⟩,⟨xa,xn,xc⟩,⟨ya,yn,yc⟩,rfl,ho,hb⟩
 have hz1:=hb.size
 have HO:=Lib.hid ho
 have hk2:0<xn:=by have:=ho.2.1.ow.rdI.1;simp only at this;omega
 replace HD:=Lib.hid (HD.out.next hb)
 replace KS:=Lib.hid (KS.out.next hb)
 replace KR:=Lib.hid (KR.out.next hb)
 clear hb ho cs fs zs hk0'
 have cs:=fun o=>KS.out.cell o
 have fs:=fun o=>KS.out.frozen o
 have zs:=KS.out.lt
 go_upto_region 4 with (fail)
 refine into_world (fun Y=>Dr w g p Y∧Blk Y w.heap.size 42 #[.slice ta tn tc,.slice xa xn xc,.slice ya yn yc]∧Blk Y (w.heap.size+1) 42 #[.slice none 0 0,.slice none 0 0,.slice none 0 0]∧OwS W.heap.size Y.heap.size Y ⟨ta,tn,tc⟩ ⟨xa,xn,xc⟩ ⟨ya,yn,yc⟩ S∧W.heap.size≤Y.heap.size) ⟨(((HD.out.set (Nat.le_refl _) hg _).set (Nat.le_refl _) hg _).set (Nat.le_refl _) hg _),((KS.out.set_ 0 _).set_ 1 _).set_ 2 _,(((KR.out.far (p:=⟨w.heap.size,0,none⟩) (by show w.heap.size+1≠w.heap.size;omega) _).far (p:=⟨w.heap.size,1,none⟩) (by show w.heap.size+1≠w.heap.size;omega) _).far (p:=⟨w.heap.size,2,none⟩) (by show w.heap.size+1≠w.heap.size;omega) _),(HO.out.onlyT KS.out (by decide) (by decide) (by decide) (by decide) (Only.set_ (p:=⟨w.heap.size,2,none⟩) (Only.set_ (p:=⟨w.heap.size,1,none⟩) (Only.set_ (p:=⟨w.heap.size,0,none⟩) (Only.refl _ _) (.inl rfl) _) (.inl rfl) _) (.inl rfl) _)).mono (Nat.le_refl _) (by simp),by simpa using hz1⟩ ?_
 rintro Y ⟨hD,hKS,hKR,ho,hzY⟩
 replace HD:=Lib.hid hD
 replace KS:=Lib.hid hKS
 replace KR:=Lib.hid hKR
 replace HO:=Lib.hid ho
 clear hD hKS hKR ho cs fs zs
 go_wp2_with fail
 refine (pick_any g 20 _ _ HD.out.1 (by omega)).mono ?_
 rintro e w2 ⟨vw,rfl,a1,b1,hR,hO⟩
 have hz2:=hO.size
 replace HD:=Lib.hid (HD.out.step hR hO)
 replace KS:=Lib.hid (KS.out.only hO n0)
 replace KR:=Lib.hid (KR.out.only hO n1)
 replace HO:=Lib.hid ((HO.out.only hO (by omega)).mono (Nat.le_refl _) hz2)
 clear b1 hR hO
 go_upto_block 0 with (fail)
 go_cut [14] (fun _ wx=>Hid (RuMid g p 2000 w wx))
 case rest =>
  obtain ⟨t,k,gg,S,q,lo,hi,hlo,hq,hD,hKR,hKS,ho⟩:=hcut.out
  replace HD:=Lib.hid hD
  replace KS:=Lib.hid hKS
  replace KR:=Lib.hid hKR
  replace HO:=Lib.hid ho
  clear hcut hD hKS hKR ho
  have cs:=fun o=>KS.out.cell o
  have fs:=fun o=>KS.out.frozen o
  have zs:=KS.out.lt
  have cr:=fun o=>KR.out.cell o
  have fr:=fun o=>KR.out.frozen o
  have zr:=KR.out.lt
  go_wp2_with fail
  refine bodyPost_ret (v:=svV t k gg) (by simp [results,Tryz.results77,go_sem,cr]) rfl ?_
  exact ⟨t,k,gg,S,q,rfl,(HO.out.onlyT KR.out (by decide) (by decide) (by decide) (by decide) (Only.set_ (p:=⟨w.heap.size+1,2,none⟩) (Only.set_ (p:=⟨w.heap.size+1,1,none⟩) (Only.set_ (p:=⟨w.heap.size+1,0,none⟩) (Only.refl _ _) (.inl rfl) _) (.inl rfl) _) (.inl rfl) _)).ds (by omega) (by omega),hq,(((HD.out.set (by show w.heap.size≤w.heap.size+1;omega) hg _).set (by show w.heap.size≤w.heap.size+1;omega) hg _).set (by show w.heap.size≤w.heap.size+1;omega) hg _)⟩
 case first =>
  have hlw:w.heap.size+2≤W.heap.size:=hwW
  have hkb:∃ (b:Nat) (cur:Array Value),xa=some ⟨b,0,none⟩∧W.heap.size≤b∧Blk w2 b 3 cur∧0<xc:=by
   have hle:=HO.out.2.1.ow.le
   simp only at hle
   obtain ⟨b,cur,h1,h2,h3,_⟩:=HO.out.2.1.ow.blk (show 0<xc by omega)
   exact ⟨b,cur,h1,h2,h3,by omega⟩
  obtain ⟨kb,kcur,hkb1,hkb2,hkb3,hkc⟩:=hkb
  subst hkb1
  have KK:=Lib.hid hkb3
  clear hkb3
  have cs:=fun o=>KS.out.cell o
  have fs:=fun o=>KS.out.frozen o
  have zs:=KS.out.lt
  by_cases h0:vw=0
  ·have h0':(vw == 0)=true:=by simpa using h0
   clear h0
   go_upto_region 6 with (fail)
   refine wp_region_grow 12 (by kernel_rfl) (by kernel_rfl) (by kernel_rfl) (fun a b=>Only g a b) (fun mq w'=>∃ q,q≤p+1+1 * mq∧Dr w g q w'∧Only g w2 w') (fun iq v w'=>match iq with|0=>(v=.pointer (some ⟨w.heap.size,1,none⟩))|1=>(v=.slice (some ⟨kb,0,none⟩) xn xc)|2=>(v=.pointer (some ⟨g,0,none⟩))|3=>(v=.pointer (some ⟨w.heap.size,1,none⟩))|4=>(v=.slice (some ⟨kb,0,none⟩) xn xc)|5=>(v=.int .i64 xn)|6=>(∃ u:Nat,v=.int .i64 u∧u<xn)|7=>(∃ e:Nat,v=.slice (some ⟨e,0,none⟩) 3 3∧g<e∧Blk w' e 3 #[.int .i64 0,.int .i64 (-1),.int .i64 10000])|8=>(v=.pointer (some ⟨g,0,none⟩))|9=>(∃ u:Nat,v=.int .i64 u∧u<3)|10=>(∃ e u:Nat,v=.pointer (some ⟨e,u,none⟩)∧u<3∧g<e∧Blk w' e 3 #[.int .i64 0,.int .i64 (-1),.int .i64 10000])|11=>(∃ z:Int,v=.int .i64 z)|_=>True) (fun sq=>{ tmps:=#[Value.pointer (some (⟨g,0,none⟩:Addr)),svV t ⟨ka,kn,kc⟩ gg,undef,Value.pointer (some (⟨w.heap.size,0,none⟩:Addr)),Value.pointer (some (⟨w.heap.size+1,0,none⟩:Addr)),Value.pointer (some (⟨w.heap.size,1,none⟩:Addr)),Value.slice ka kn kc,Value.int .i64 (kn:Int),Value.bool false,undef,Value.agg #[Value.slice t.a t.n t.c,Value.slice ka kn kc,Value.slice gg.a gg.n gg.c],svV ⟨ta,tn,tc⟩ { a:=some (⟨kb,0,none⟩:Addr),n:=xn,c:=xc } ⟨ya,yn,yc⟩,Value.pointer (some (⟨g,0,none⟩:Addr)),Value.int .i64 vw,Value.bool true,Value.bool true,sq 0,sq 1,sq 2,sq 3,sq 4,sq 5,sq 6,sq 7,sq 8,sq 9,sq 10,sq 11,undef,undef,undef,undef,undef,undef,undef,undef,undef,undef,undef,undef,undef,undef,undef,undef,undef,undef,undef,undef,undef,undef,undef,undef,undef,undef,undef],defers:=[] }) (fun _=>undef) ?_ ?_ ?_ ?_
   ·rintro iq v a b hg h
    match iq,h with
    | 0,h=>exact h
    | 1,h=>exact h
    | 2,h=>exact h
    | 3,h=>exact h
    | 4,h=>exact h
    | 5,h=>exact h
    | 6,h=>exact h
    | 7,h=>exact (by obtain ⟨e,rfl,h1,h2⟩:=h;exact ⟨e,rfl,h1,h2.only hg (by omega)⟩)
    | 8,h=>exact h
    | 9,h=>exact h
    | 10,h=>exact (by obtain ⟨e,u,rfl,h0,h1,h2⟩:=h;exact ⟨e,u,rfl,h0,h1,h2.only hg (by omega)⟩)
    | 11,h=>exact h
    | (kq+12),_=>exact trivial
   ·exact ⟨p+1,by omega,HD.out.next ⟨rfl,rfl,rfl,Nat.le_refl _,fun _ _=>rfl⟩,(show Only g w2 w2.drew from ⟨rfl,rfl,rfl,Nat.le_refl _,fun _ _ _=>rfl⟩)⟩
   ·intro mq sq w' iq oq hmq hiq hoq hJ hd Kq hK
    have hiq':iq=0∨iq=1∨iq=2∨iq=3∨iq=4∨iq=5∨iq=6∨iq=7∨iq=8∨iq=9∨iq=10∨iq=11:=by omega
    rcases hiq' with rfl|rfl|rfl|rfl|rfl|rfl|rfl|rfl|rfl|rfl|rfl|rfl
    ·cases (show some _=some oq from hoq)
     have hK':=hK
     simp only [updV,Nat.reduceEqDiff,↓reduceIte] at hK'
     clear hK hd
     generalize sq 0=x0,sq 1=x1,sq 2=x2,sq 3=x3,sq 4=x4,sq 5=x5,sq 6=x6,sq 7=x7,sq 8=x8,sq 9=x9,sq 10=x10,sq 11=x11 at *
     go_simp
     exact hK' _ _ (Only.refl _ _) (by obtain ⟨q,hq,hD,hO⟩:=hJ;exact ⟨q,by omega,hD,hO⟩) rfl
    ·cases (show some _=some oq from hoq)
     have d0:=hd 0 (by kernel_rfl) (by decide)
     have hK':=hK
     simp only [updV,Nat.reduceEqDiff,↓reduceIte] at hK'
     clear hK hd
     generalize sq 0=x0,sq 1=x1,sq 2=x2,sq 3=x3,sq 4=x4,sq 5=x5,sq 6=x6,sq 7=x7,sq 8=x8,sq 9=x9,sq 10=x10,sq 11=x11 at *
     obtain rfl:=d0
     have hcc:=fun o=>(KS.out.only (by obtain ⟨q,hq,hD,hO⟩:=hJ;exact hO) n0).cell o
     go_simp
     exact hK' _ _ (Only.refl _ _) (by obtain ⟨q,hq,hD,hO⟩:=hJ;exact ⟨q,by omega,hD,hO⟩) rfl
    ·cases (show some _=some oq from hoq)
     have hK':=hK
     simp only [updV,Nat.reduceEqDiff,↓reduceIte] at hK'
     clear hK hd
     generalize sq 0=x0,sq 1=x1,sq 2=x2,sq 3=x3,sq 4=x4,sq 5=x5,sq 6=x6,sq 7=x7,sq 8=x8,sq 9=x9,sq 10=x10,sq 11=x11 at *
     go_simp
     exact hK' _ _ (Only.refl _ _) (by obtain ⟨q,hq,hD,hO⟩:=hJ;exact ⟨q,by omega,hD,hO⟩) rfl
    ·cases (show some _=some oq from hoq)
     have hK':=hK
     simp only [updV,Nat.reduceEqDiff,↓reduceIte] at hK'
     clear hK hd
     generalize sq 0=x0,sq 1=x1,sq 2=x2,sq 3=x3,sq 4=x4,sq 5=x5,sq 6=x6,sq 7=x7,sq 8=x8,sq 9=x9,sq 10=x10,sq 11=x11 at *
     go_simp
     exact hK' _ _ (Only.refl _ _) (by obtain ⟨q,hq,hD,hO⟩:=hJ;exact ⟨q,by omega,hD,hO⟩) rfl
    ·cases (show some _=some oq from hoq)
     have d3:=hd 3 (by kernel_rfl) (by decide)
     have hK':=hK
     simp only [updV,Nat.reduceEqDiff,↓reduceIte] at hK'
     clear hK hd
     generalize sq 0=x0,sq 1=x1,sq 2=x2,sq 3=x3,sq 4=x4,sq 5=x5,sq 6=x6,sq 7=x7,sq 8=x8,sq 9=x9,sq 10=x10,sq 11=x11 at *
     obtain rfl:=d3
     have hcc:=fun o=>(KS.out.only (by obtain ⟨q,hq,hD,hO⟩:=hJ;exact hO) n0).cell o
     go_simp
     exact hK' _ _ (Only.refl _ _) (by obtain ⟨q,hq,hD,hO⟩:=hJ;exact ⟨q,by omega,hD,hO⟩) rfl
    ·cases (show some _=some oq from hoq)
     have d4:=hd 4 (by kernel_rfl) (by decide)
     have hK':=hK
     simp only [updV,Nat.reduceEqDiff,↓reduceIte] at hK'
     clear hK hd
     generalize sq 0=x0,sq 1=x1,sq 2=x2,sq 3=x3,sq 4=x4,sq 5=x5,sq 6=x6,sq 7=x7,sq 8=x8,sq 9=x9,sq 10=x10,sq 11=x11 at *
     obtain rfl:=d4
     go_simp
     exact hK' _ _ (Only.refl _ _) (by obtain ⟨q,hq,hD,hO⟩:=hJ;exact ⟨q,by omega,hD,hO⟩) rfl
    ·cases (show some _=some oq from hoq)
     have d2:=hd 2 (by kernel_rfl) (by decide)
     have d5:=hd 5 (by kernel_rfl) (by decide)
     have hK':=hK
     simp only [updV,Nat.reduceEqDiff,↓reduceIte] at hK'
     clear hK hd
     generalize sq 0=x0,sq 1=x1,sq 2=x2,sq 3=x3,sq 4=x4,sq 5=x5,sq 6=x6,sq 7=x7,sq 8=x8,sq 9=x9,sq 10=x10,sq 11=x11 at *
     obtain rfl:=d2
     obtain rfl:=d5
     go_simp
     obtain ⟨q,hq,hD,hO⟩:=hJ
     refine (pick_any g xn q _ hD.1 (by omega)).mono ?_
     rintro e w9 ⟨u,rfl,a9,b9,hR,hO2⟩
     have c9:=b9 (by omega)
     obtain ⟨un,rfl⟩:∃ n:Nat,u=n:=⟨u.toNat,by omega⟩
     exact hK' _ _ hO2 ⟨q+1,by omega,hD.step hR hO2,hO.trans hO2⟩ ⟨un,rfl,by omega⟩
    ·cases (show some _=some oq from hoq)
     have hK':=hK
     simp only [updV,Nat.reduceEqDiff,↓reduceIte] at hK'
     clear hK hd
     generalize sq 0=x0,sq 1=x1,sq 2=x2,sq 3=x3,sq 4=x4,sq 5=x5,sq 6=x6,sq 7=x7,sq 8=x8,sq 9=x9,sq 10=x10,sq 11=x11 at *
     go_simp
     obtain ⟨q,hq,hD,hO⟩:=hJ
     exact hK' _ _ (Only.of_below (ba (Below.refl _ _)) g) ⟨q,by omega,hD.next (ba (Below.refl _ _)),hO.next (ba (Below.refl _ _))⟩ ⟨_,rfl,hD.1.lt,Blk.new _ _ _⟩
    ·cases (show some _=some oq from hoq)
     have hK':=hK
     simp only [updV,Nat.reduceEqDiff,↓reduceIte] at hK'
     clear hK hd
     generalize sq 0=x0,sq 1=x1,sq 2=x2,sq 3=x3,sq 4=x4,sq 5=x5,sq 6=x6,sq 7=x7,sq 8=x8,sq 9=x9,sq 10=x10,sq 11=x11 at *
     go_simp
     exact hK' _ _ (Only.refl _ _) (by obtain ⟨q,hq,hD,hO⟩:=hJ;exact ⟨q,by omega,hD,hO⟩) rfl
    ·cases (show some _=some oq from hoq)
     have d8:=hd 8 (by kernel_rfl) (by decide)
     have hK':=hK
     simp only [updV,Nat.reduceEqDiff,↓reduceIte] at hK'
     clear hK hd
     generalize sq 0=x0,sq 1=x1,sq 2=x2,sq 3=x3,sq 4=x4,sq 5=x5,sq 6=x6,sq 7=x7,sq 8=x8,sq 9=x9,sq 10=x10,sq 11=x11 at *
     obtain rfl:=d8
     go_simp
     obtain ⟨q,hq,hD,hO⟩:=hJ
     refine (pick_any g 3 q _ hD.1 (by omega)).mono ?_
     rintro e w9 ⟨u,rfl,a9,b9,hR,hO2⟩
     have c9:=b9 (by omega)
     obtain ⟨un,rfl⟩:∃ n:Nat,u=n:=⟨u.toNat,by omega⟩
     exact hK' _ _ hO2 ⟨q+1,by omega,hD.step hR hO2,hO.trans hO2⟩ ⟨un,rfl,by omega⟩
    ·cases (show some _=some oq from hoq)
     have d7:=hd 7 (by kernel_rfl) (by decide)
     have d9:=hd 9 (by kernel_rfl) (by decide)
     have hK':=hK
     simp only [updV,Nat.reduceEqDiff,↓reduceIte] at hK'
     clear hK hd
     generalize sq 0=x0,sq 1=x1,sq 2=x2,sq 3=x3,sq 4=x4,sq 5=x5,sq 6=x6,sq 7=x7,sq 8=x8,sq 9=x9,sq 10=x10,sq 11=x11 at *
     obtain ⟨e,rfl,h1,h2⟩:=d7
     obtain ⟨u,rfl,hu⟩:=d9
     have hu1:(u:Int)<3:=by omega
     go_simp
     exact hK' _ _ (Only.refl _ _) (by obtain ⟨q,hq,hD,hO⟩:=hJ;exact ⟨q,by omega,hD,hO⟩) ⟨e,u,rfl,hu,h1,h2⟩
    ·cases (show some _=some oq from hoq)
     have d10:=hd 10 (by kernel_rfl) (by decide)
     have hK':=hK
     simp only [updV,Nat.reduceEqDiff,↓reduceIte] at hK'
     clear hK hd
     generalize sq 0=x0,sq 1=x1,sq 2=x2,sq 3=x3,sq 4=x4,sq 5=x5,sq 6=x6,sq 7=x7,sq 8=x8,sq 9=x9,sq 10=x10,sq 11=x11 at *
     obtain ⟨e,u,rfl,hu,h1,h2⟩:=d10
     obtain ⟨z,hz⟩:∃ z:Int,w'.cell? ⟨e,u,none⟩=some (.int .i64 z):=by
      rw [h2.cell]
      have:u=0∨u=1∨u=2:=by omega
      rcases this with rfl|rfl|rfl <;> exact ⟨_,rfl⟩
     go_simp
     exact hK' _ _ (Only.refl _ _) (by obtain ⟨q,hq,hD,hO⟩:=hJ;exact ⟨q,by omega,hD,hO⟩) ⟨_,rfl⟩
   ·intro sq w' hJ hφ
    simp only [List.drop_succ_cons,List.drop_zero]
    have d1:=hφ 1 (by decide)
    have d6:=hφ 6 (by decide)
    have d11:=hφ 11 (by decide)
    clear hφ
    generalize sq 0=x0,sq 1=x1,sq 2=x2,sq 3=x3,sq 4=x4,sq 5=x5,sq 6=x6,sq 7=x7,sq 8=x8,sq 9=x9,sq 10=x10,sq 11=x11 at *
    obtain ⟨q,hq,hD,hO⟩:=hJ
    obtain rfl:=d1
    obtain ⟨u,rfl,hu⟩:=d6
    obtain ⟨z,rfl⟩:=d11
    have HO3:=Lib.hid (HO.out.only hO (by omega))
    have KK3:=Lib.hid (KK.out.only hO (by omega))
    replace HD:=Lib.hid hD
    replace KS:=Lib.hid (KS.out.only hO n0)
    replace KR:=Lib.hid (KR.out.only hO n1)
    have hz9:=hO.size
    obtain ⟨z0,hz0⟩:∃ z0:Int,w'.cell? ⟨kb,u,none⟩=some (.int .i64 z0):=by
     obtain ⟨hl,hc⟩:=HO3.out.2.1.ow.rdI
     obtain ⟨b,off,hA,_,hc⟩:=hc hk2
     injection hA with hA
     injection hA with hb ho
     subst hb
     subst ho
     simp only at hl
     have:=hc u _ (List.getElem?_eq_getElem (show u<S.keys.length by omega))
     rw [Nat.zero_add] at this
     exact ⟨_,this⟩
    have hu1:(u:Int)<xn:=by omega
    have ck:=fun o=>KK3.out.cell o
    have fk:=fun o=>KK3.out.frozen o
    have zk:=KK3.out.lt
    clear hD hO cs fs zs
    go_wp2_with fail
    go_meet
    exact ⟨⟨ta,tn,tc⟩,⟨some ⟨kb,0,none⟩,xn,xc⟩,⟨ya,yn,yc⟩,_,q,W.heap.size,w2.heap.size,hlw,by omega,HD.out.set (by show w.heap.size≤kb;omega) hg _,KR.out.far (p:=⟨kb,u,none⟩) (by show w.heap.size+1≠kb;omega) _,KS.out.far (p:=⟨kb,u,none⟩) (by show w.heap.size≠kb;omega) _,.inl (OwS.setKey HO3.out rfl hu z)⟩
  have h0':(vw == 0)=false:=by simpa using h0
  by_cases h1:vw=1
  ·have h1':(vw == 1)=true:=by simpa using h1
   clear h0 h1
   obtain ⟨n',rfl⟩:∃ n,xn=n+1:=⟨xn - 1,by omega⟩
   obtain ⟨c',rfl⟩:∃ n,xc=n+1:=⟨xc - 1,by omega⟩
   have hnc:n'+1≤c'+1:=HO.out.2.1.ow.le
   clear hkc hk2
   obtain ⟨z,zs,hzs⟩:∃ z zs,S.keys=z :: zs:=by
    have hl:=HO.out.2.1.ow.rdI.1
    cases hS:S.keys with
    | nil=>rw [hS] at hl;simp at hl
    | cons z zs=>exact ⟨z,zs,rfl⟩
   have HZS:=Lib.hid hzs
   clear hzs
   rcases Nat.eq_zero_or_pos c' with rfl|hc'
   ·obtain rfl:n'=0:=by omega
    go_wp2_with fail
    go_meet
    have hzs:=HZS.out
    exact ⟨⟨ta,tn,tc⟩,⟨some ⟨kb,0,none⟩,0,0⟩,⟨ya,yn,yc⟩,⟨S.ts,zs,S.tags⟩,p+1,W.heap.size,_,hlw,by omega,HD.out.set (by show w.heap.size≤w.heap.size;omega) hg _,KR.out.far (p:=⟨w.heap.size,1,none⟩) (by show w.heap.size+1≠w.heap.size;omega) _,KS.out.set_ 1 _,OwU.onlyT (.inr ⟨kb,0,0,z,by rw [← hzs];exact HO.out,by simp⟩) KS.out (by decide) (by decide) (by decide) (by decide) (Only.set_ (p:=⟨w.heap.size,1,none⟩) (Only.refl w.heap.size w2) (.inl rfl) _)⟩
   ·have hc2:¬ c'=0:=by omega
    go_wp2_with fail
    go_meet
    have hzs:=HZS.out
    exact ⟨⟨ta,tn,tc⟩,⟨some ⟨kb,1,none⟩,n',c'⟩,⟨ya,yn,yc⟩,⟨S.ts,zs,S.tags⟩,p+1,W.heap.size,_,hlw,by omega,HD.out.set (by show w.heap.size≤w.heap.size;omega) hg _,KR.out.far (p:=⟨w.heap.size,1,none⟩) (by show w.heap.size+1≠w.heap.size;omega) _,KS.out.set_ 1 _,OwU.onlyT (.inr ⟨kb,c',n',z,by rw [← hzs];exact HO.out,by simp [hc2]⟩) KS.out (by decide) (by decide) (by decide) (by decide) (Only.set_ (p:=⟨w.heap.size,1,none⟩) (Only.refl w.heap.size w2) (.inl rfl) _)⟩
  have h1':(vw == 1)=false:=by simpa using h1
  by_cases h2:vw=2
  ·have h2':(vw == 2)=true:=by simpa using h2
   clear h0 h1 h2
   have hyl:S.tags.length=yn:=HO.out.2.2.1.ow.rdI.1
   have hy12:yn≤12:=by have:=HID.out.2.1;omega
   clear hyl
   go_wp2_with (at_builtin;refine wpList_append_ow _ rfl (.tmp 38) (.tmp 39) _ rfl W.heap.size 3 j0 _ 1 8 Tryz.underlying33 JI.out JZ.out JS.out JB.out rfl (by omega) _ yn yc (cellsI S.tags) rfl (HO.out.2.2.1.ow.alloc _) _ 1 1 (cellsI [-1]) rfl (Src.blk (Blk.new _ _ _) rfl) (cellsI_one _) (by unfold maxLen;omega) (by omega) (by simp;omega) ?_;intro A5 c5 w5 hown hg5 hn5;have KS5:=Lib.hid (blk_apart (KS.out.alloc (.cells #[.int .i64 (-1)] 3)) (HO.out.2.2.1.ow.alloc (.cells #[.int .i64 (-1)] 3)) (by decide) hg5);clear cs fs zs;have c5s:=fun o=>KS5.out.cell o;have f5s:=fun o=>KS5.out.frozen o;have z5s:=KS5.out.lt)
   go_meet
   have hW:Below w2.heap.size w2 (w2.alloc (.cells #[.int .i64 (-1)] 3)):=ba (Below.refl _ _)
   have hz5:=hg5.size
   simp only [World.size_alloc] at hz5 hn5
   have KR5:=blk_apart (KR.out.next hW) (HO.out.2.2.1.ow.next hW) (by decide) hg5
   have HD5:=(HD.out.next hW).grown hg hg5 (fun b hb=>by have:=row_base HO.out.2.2.1.ow b hb;omega)
   rw [← List.map_append] at hown
   have hlt5:∀ b,A5.map (·.block)=some b→0<c5→b<w5.heap.size:=fun b hb hc=>(hown.lt hb hc).2
   have HO5:=OwS.addTag (HO.out.next hW) hown hg5 (fun b hb hc=>(hn5 b hb hc).imp id (fun e=>by omega)) hlt5 (by omega) (by omega)
   exact ⟨⟨ta,tn,tc⟩,⟨some ⟨kb,0,none⟩,xn,xc⟩,⟨A5,yn+1,c5⟩,_,p+1,W.heap.size,w5.heap.size,hlw,by omega,HD5.set (by show w.heap.size≤w.heap.size;omega) hg _,KR5.far (p:=⟨w.heap.size,2,none⟩) (by show w.heap.size+1≠w.heap.size;omega) _,KS5.out.set_ 2 _,OwU.onlyT (.inl HO5) KS5.out (by decide) (by decide) (by decide) (by decide) (Only.set_ (p:=⟨w.heap.size,2,none⟩) (Only.refl w.heap.size w5) (.inl rfl) _)⟩
  have h2':(vw == 2)=false:=by simpa using h2
  by_cases h3:vw=3
  ·have h3':(vw == 3)=true:=by simpa using h3
   clear h0 h1 h2 h3
   go_upto_region 12 with (fail)
   have hg2:g<w2.heap.size:=HD.out.1.lt
   refine wp_region_grow 8 (by kernel_rfl) (by kernel_rfl) (by kernel_rfl) (fun a b=>Only g a b) (fun mq w'=>∃ q,q≤p+1+200 * mq∧Dr w g q w'∧Only g w2 w') (fun iq v w'=>match iq with|0=>(v=.pointer (some ⟨w.heap.size,0,none⟩))|1=>(v=.slice ta tn tc)|2=>(v=.pointer (some ⟨g,0,none⟩))|3=>(∃ (l:Lvl) (ws gs:Sl),v=lvlV l ws gs∧OwLv w2.heap.size w' l ws gs)|4=>(v=.agg #[.int .i64 3,.int .i64 9])|5=>(∃ e:Nat,v=.slice (some ⟨e,0,none⟩) 1 1∧w2.heap.size≤e∧Blk w' e 55 #[.int .i64 3,.int .i64 9])|6=>(∃ y:Row,v=trkV y∧TrkAt w2.heap.size w' y)|7=>(∃ (y:Row) (e:Nat),v=.slice (some ⟨e,0,none⟩) 1 1∧g<e∧Blk w' e 65 (encT y).toArray∧TrkAt w2.heap.size w' y)|_=>True) (fun sq=>{ tmps:=#[Value.pointer (some (⟨g,0,none⟩:Addr)),svV t ⟨ka,kn,kc⟩ gg,undef,Value.pointer (some (⟨w.heap.size,0,none⟩:Addr)),Value.pointer (some (⟨w.heap.size+1,0,none⟩:Addr)),Value.pointer (some (⟨w.heap.size,1,none⟩:Addr)),Value.slice ka kn kc,Value.int .i64 (kn:Int),Value.bool false,undef,Value.agg #[Value.slice t.a t.n t.c,Value.slice ka kn kc,Value.slice gg.a gg.n gg.c],svV ⟨ta,tn,tc⟩ { a:=some (⟨kb,0,none⟩:Addr),n:=xn,c:=xc } ⟨ya,yn,yc⟩,Value.pointer (some (⟨g,0,none⟩:Addr)),Value.int .i64 vw,Value.bool false,Value.bool false,undef,undef,undef,undef,undef,undef,undef,undef,undef,undef,undef,undef,undef,Value.bool false,Value.bool false,undef,undef,undef,undef,Value.bool false,Value.bool false,undef,undef,undef,undef,undef,Value.bool true,Value.bool true,sq 0,sq 1,sq 2,sq 3,sq 4,sq 5,sq 6,sq 7,undef,undef,undef],defers:=[] }) (fun _=>undef) ?_ ?_ ?_ ?_
   ·rintro iq v a b hg h
    match iq,h with
    | 0,h=>exact h
    | 1,h=>exact h
    | 2,h=>exact h
    | 3,h=>exact (by obtain ⟨l,ws,gs,rfl,h1⟩:=h;exact ⟨l,ws,gs,rfl,h1.only hg hg2⟩)
    | 4,h=>exact h
    | 5,h=>exact (by obtain ⟨e,rfl,h1,h2⟩:=h;exact ⟨e,rfl,h1,h2.only hg (by omega)⟩)
    | 6,h=>exact (by obtain ⟨y,rfl,h1⟩:=h;exact ⟨y,rfl,h1.only hg hg2⟩)
    | 7,h=>exact (by obtain ⟨y,e,rfl,h0,h1,h2⟩:=h;exact ⟨y,e,rfl,h0,h1.only hg (by omega),h2.only hg hg2⟩)
    | (kq+8),_=>exact trivial
   ·exact ⟨p+1,by omega,HD.out.next ⟨rfl,rfl,rfl,Nat.le_refl _,fun _ _=>rfl⟩,(show Only g w2 w2.drew from ⟨rfl,rfl,rfl,Nat.le_refl _,fun _ _ _=>rfl⟩)⟩
   ·intro mq sq w' iq oq hmq hiq hoq hJ hd Kq hK
    have hiq':iq=0∨iq=1∨iq=2∨iq=3∨iq=4∨iq=5∨iq=6∨iq=7:=by omega
    rcases hiq' with rfl|rfl|rfl|rfl|rfl|rfl|rfl|rfl
    ·cases (show some _=some oq from hoq)
     have hK':=hK
     simp only [updV,Nat.reduceEqDiff,↓reduceIte] at hK'
     clear hK hd
     generalize sq 0=x0,sq 1=x1,sq 2=x2,sq 3=x3,sq 4=x4,sq 5=x5,sq 6=x6,sq 7=x7 at *
     go_simp
     exact hK' _ _ (Only.refl _ _) (by obtain ⟨q,hq,hD,hO⟩:=hJ;exact ⟨q,by omega,hD,hO⟩) rfl
    ·cases (show some _=some oq from hoq)
     have d0:=hd 0 (by kernel_rfl) (by decide)
     have hK':=hK
     simp only [updV,Nat.reduceEqDiff,↓reduceIte] at hK'
     clear hK hd
     generalize sq 0=x0,sq 1=x1,sq 2=x2,sq 3=x3,sq 4=x4,sq 5=x5,sq 6=x6,sq 7=x7 at *
     obtain rfl:=d0
     have hcc:=fun o=>(KS.out.only (by obtain ⟨q,hq,hD,hO⟩:=hJ;exact hO) n0).cell o
     go_simp
     exact hK' _ _ (Only.refl _ _) (by obtain ⟨q,hq,hD,hO⟩:=hJ;exact ⟨q,by omega,hD,hO⟩) rfl
    ·cases (show some _=some oq from hoq)
     have hK':=hK
     simp only [updV,Nat.reduceEqDiff,↓reduceIte] at hK'
     clear hK hd
     generalize sq 0=x0,sq 1=x1,sq 2=x2,sq 3=x3,sq 4=x4,sq 5=x5,sq 6=x6,sq 7=x7 at *
     go_simp
     exact hK' _ _ (Only.refl _ _) (by obtain ⟨q,hq,hD,hO⟩:=hJ;exact ⟨q,by omega,hD,hO⟩) rfl
    ·cases (show some _=some oq from hoq)
     have d2:=hd 2 (by kernel_rfl) (by decide)
     have hK':=hK
     simp only [updV,Nat.reduceEqDiff,↓reduceIte] at hK'
     clear hK hd
     generalize sq 0=x0,sq 1=x1,sq 2=x2,sq 3=x3,sq 4=x4,sq 5=x5,sq 6=x6,sq 7=x7 at *
     obtain rfl:=d2
     go_simp
     obtain ⟨q,hq,hD,hO⟩:=hJ
     refine (l91Level_any g q _ hD.1 (by omega)).mono ?_
     rintro e9 w9 ⟨l,ws,gs,q9,rfl,hol,hq9,hD9⟩
     exact hK' _ _ hD9.2 ⟨q9,by omega,hD.step hD9.1 hD9.2,hO.trans hD9.2⟩ ⟨l,ws,gs,rfl,hol.mono hO.size⟩
    ·cases (show some _=some oq from hoq)
     have hK':=hK
     simp only [updV,Nat.reduceEqDiff,↓reduceIte] at hK'
     clear hK hd
     generalize sq 0=x0,sq 1=x1,sq 2=x2,sq 3=x3,sq 4=x4,sq 5=x5,sq 6=x6,sq 7=x7 at *
     go_simp
     exact hK' _ _ (Only.refl _ _) (by obtain ⟨q,hq,hD,hO⟩:=hJ;exact ⟨q,by omega,hD,hO⟩) rfl
    ·cases (show some _=some oq from hoq)
     have d4:=hd 4 (by kernel_rfl) (by decide)
     have hK':=hK
     simp only [updV,Nat.reduceEqDiff,↓reduceIte] at hK'
     clear hK hd
     generalize sq 0=x0,sq 1=x1,sq 2=x2,sq 3=x3,sq 4=x4,sq 5=x5,sq 6=x6,sq 7=x7 at *
     obtain rfl:=d4
     go_simp
     obtain ⟨q,hq,hD,hO⟩:=hJ
     exact hK' _ _ (Only.of_below (ba (Below.refl _ _)) g) ⟨q,by omega,hD.next (ba (Below.refl _ _)),hO.next (ba (Below.refl _ _))⟩ ⟨_,rfl,hO.size,Blk.new _ _ _⟩
    ·cases (show some _=some oq from hoq)
     have d3:=hd 3 (by kernel_rfl) (by decide)
     have d5:=hd 5 (by kernel_rfl) (by decide)
     have hK':=hK
     simp only [updV,Nat.reduceEqDiff,↓reduceIte] at hK'
     clear hK hd
     generalize sq 0=x0,sq 1=x1,sq 2=x2,sq 3=x3,sq 4=x4,sq 5=x5,sq 6=x6,sq 7=x7 at *
     obtain ⟨l,ws,gs,rfl,hol⟩:=d3
     obtain ⟨e,rfl,he,hbe⟩:=d5
     go_simp
     exact hK' _ _ (Only.refl _ _) (by obtain ⟨q,hq,hD,hO⟩:=hJ;exact ⟨q,by omega,hD,hO⟩) ⟨(⟨ws,gs,⟨some ⟨e,0,none⟩,1,1⟩⟩,⟨l,[(3,9)]⟩),rfl,hol,rfl,e,rfl,he,hbe⟩
    ·cases (show some _=some oq from hoq)
     have d6:=hd 6 (by kernel_rfl) (by decide)
     have hK':=hK
     simp only [updV,Nat.reduceEqDiff,↓reduceIte] at hK'
     clear hK hd
     generalize sq 0=x0,sq 1=x1,sq 2=x2,sq 3=x3,sq 4=x4,sq 5=x5,sq 6=x6,sq 7=x7 at *
     obtain ⟨y,rfl,hy⟩:=d6
     go_simp
     obtain ⟨q,hq,hD,hO⟩:=hJ
     exact hK' _ _ (Only.of_below (ba (Below.refl _ _)) g) ⟨q,by omega,hD.next (ba (Below.refl _ _)),hO.next (ba (Below.refl _ _))⟩ ⟨y,_,rfl,hD.1.lt,Blk.new _ _ _,hy.next (ba (Below.refl _ _))⟩
   ·intro sq w' hJ hφ
    simp only [List.drop_succ_cons,List.drop_zero]
    have d1:=hφ 1 (by decide)
    have d7:=hφ 7 (by decide)
    clear hφ
    generalize sq 0=x0,sq 1=x1,sq 2=x2,sq 3=x3,sq 4=x4,sq 5=x5,sq 6=x6,sq 7=x7 at *
    obtain ⟨q,hq,hD,hO⟩:=hJ
    obtain rfl:=d1
    obtain ⟨y,e7,rfl,_,hb7,hy7⟩:=d7
    obtain ⟨⟨xs,hxs,hT⟩,hK3,hG3,hnd3,hkn3,hgn3⟩:=HO.out.only hO (show g<W.heap.size by omega)
    have htl:xs.length=tn:=(hT.1.ow.rd encT_len (by omega)).1
    have ht4:tn≤4:=by have:=HID.out.1;rw [← hxs] at this;simp at this;omega
    have HT:=Lib.hid hT
    have HXS:=Lib.hid hxs
    have HB7:=Lib.hid hb7
    have HY:=Lib.hid hy7
    have HK3:=Lib.hid hK3
    have HG3:=Lib.hid hG3
    have HTL:=Lib.hid htl
    replace HD:=Lib.hid hD
    replace KS:=Lib.hid (KS.out.only hO n0)
    replace KR:=Lib.hid (KR.out.only hO n1)
    have hz9:=hO.size
    clear hT hxs hb7 hy7 hK3 hG3 htl hD hO cs fs zs
    refine wpList_append_ow _ rfl (.tmp 45) (.tmp 51) _ rfl W.heap.size 65 i0 _ 12 144 Tryz.underlying40 HI.out HZ.out HS.out HBY.out rfl (by omega) _ tn tc (cellsT xs) rfl HT.out.1.ow _ 1 1 (encT y) rfl (Src.blk HB7.out rfl) (encT_one y) (by unfold maxLen;omega) (by omega) (by omega) ?_
    intro A5 c5 w5 hown hg5 hn5
    have KS5:=Lib.hid (blk_apart KS.out HT.out.1.ow (by decide) hg5)
    have cs:=fun o=>KS5.out.cell o
    have fs:=fun o=>KS5.out.frozen o
    have zs:=KS5.out.lt
    go_wp2_with fail
    go_meet
    have hz5:=hg5.size
    have KR5:=blk_apart KR.out HT.out.1.ow (by decide) hg5
    have HD5:=HD.out.grown hg hg5 (fun b hb=>by have:=row_base HT.out.1.ow b hb;omega)
    have hcl:(cellsT xs).length=tn * 12:=by rw [cellsT_len,HTL.out]
    have hT5:=OwTs.insert (k:=tn) (hi:=w'.heap.size) HT.out HY.out.own HY.out.nodup (by omega) hz9 hz5 (fun hc b hb=>(hown.lt hb hc).2) (by rw [List.take_of_length_le (by omega),List.drop_of_length_le (by omega),List.append_nil];exact hown) hg5 (by omega)
    exact ⟨⟨A5,tn+1,c5⟩,⟨some ⟨kb,0,none⟩,xn,xc⟩,⟨ya,yn,yc⟩,⟨_,S.keys,S.tags⟩,q,W.heap.size,w5.heap.size,hlw,by omega,HD5.set (by show w.heap.size≤w.heap.size;omega) hg _,KR5.far (p:=⟨w.heap.size,0,none⟩) (by show w.heap.size+1≠w.heap.size;omega) _,KS5.out.set_ 0 _,OwU.onlyT (.inl ⟨⟨_,rfl,hT5⟩,(OwI.apart HK3.out HT.out.1.ow (by decide) hg5).mono (Nat.le_refl _) (by omega),(OwI.apart HG3.out HT.out.1.ow (by decide) hg5).mono (Nat.le_refl _) (by omega),hnd3,hkn3,hgn3⟩) KS5.out (by decide) (by decide) (by decide) (by decide) (Only.set_ (p:=⟨w.heap.size,0,none⟩) (Only.refl w.heap.size w5) (.inl rfl) _)⟩
  have h3':(vw == 3)=false:=by simpa using h3
  clear h0 h1 h2 h3
  go_wp2_with fail
  go_meet
  exact ⟨⟨ta,tn,tc⟩,⟨some ⟨kb,0,none⟩,xn,xc⟩,⟨ya,yn,yc⟩,S,p+1,W.heap.size,_,hlw,by omega,HD.out,KR.out,KS.out,.inl HO.out⟩
end Go.Proofs.YtkgfmgajhgfgjaaGreatDoor
namespace Go.Proofs.YtkgfmgajhgfgjaaGreatDoor
open Go.RowKit Go.Sort
def Bys (w:World) (A:Option Addr) (n c:Nat) (zs:List Int):Prop:=RdI .u8 w A n zs∧(∀ z ∈ zs,0≤z∧z≤255)∧n≤c∧c≤maxLen
def SvOut (w:World) (e:Ending) (w':World):Prop:=∃ (t k g:Sl) (S:Svc),e=.returned (svV t k g)∧RdS w' t k g S∧Below w.heap.size w w'
theorem only_set3 (o:Nat) (w:World) (v0 v1 v2:Value):Only o w (((w.setCell ⟨o,0,none⟩ v0).setCell ⟨o,1,none⟩ v1).setCell ⟨o,2,none⟩ v2):=onlySets (.inl rfl) [v0,v1,v2] 0 w (Only.refl _ _)
set_option maxRecDepth 100000 in
set_option maxHeartbeats 2000000 in
theorem drawServiceValid_any (A:Option Addr) (n c:Nat) (zs:List Int) (w:World) (h:Bys w A n c zs):Calls Tryz.prog 26 #[.slice A n c] w (SvOut w):=by
 obtain ⟨hr,hz,hn,hc⟩:=h
 have HR:=Lib.hid hr
 have HZS:=Lib.hid hz
 clear hr hz
 go_enter Tryz.func26,Tryz.ntmps26
 go_wp2_with fail
 refine (l6Open_any _ _ _ zs _ (HR.out.below (ba (Below.refl _ _))) HZS.out hn hc).mono ?_
 rintro e w1 ⟨g,rfl,hg,hR1,hb1⟩
 simp only [World.size_alloc] at hg
 have hgl:=hR1.lt
 have n0:w.heap.size≠g:=by omega
 have KR:=Lib.hid ((Blk.new w 42 (svC sl0 sl0 sl0)).next hb1)
 have HB:=Lib.hid (show Below w.heap.size w w1 from ba hb1)
 have HR1:=Lib.hid hR1
 clear hb1 hR1
 go_wp2_with fail
 refine (l92Service_any g 0 _ HR1.out (by omega)).mono ?_
 rintro e w2 ⟨t,k,gg,S,sx,q,rfl,ho,hid,_,hq,hD⟩
 have hz2:=hD.2.size
 replace HB:=Lib.hid (HB.out.trans (hD.2.below (by omega) (by omega)))
 replace KR:=Lib.hid (KR.out.only hD.2 n0)
 have HRD:=Lib.hid hD.1
 have HO:=Lib.hid ho
 have HID:=Lib.hid hid
 clear hD ho hid
 go_upto_region 3 with (fail)
 refine into_world (fun Y=>Rdr Y g q∧Below w.heap.size w Y∧Blk Y w.heap.size 42 (svC sl0 sl0 sl0)∧Blk Y w2.heap.size 42 (svC t k gg)∧OwS (g+1) w2.heap.size Y t k gg S) ⟨HRD.out.next (ba (Below.refl _ _)),HB.out.alloc HB.out.size _,KR.out.alloc _,Blk.new _ _ _,HO.out.next (ba (Below.refl _ _))⟩ ?_
 rintro Y ⟨hR,hB,hKR,hKS,ho⟩
 replace HRD:=Lib.hid hR
 replace HB:=Lib.hid hB
 replace KR:=Lib.hid hKR
 have KS:=Lib.hid hKS
 replace HO:=Lib.hid ho
 clear hR hB hKR hKS ho
 have HDS:=Lib.hid (DS.of (q:=g) (r:=w.heap.size) HO.out (by omega) (by omega))
 have hgY:=HRD.out.lt
 have hsY:=KS.out.lt
 have cs:=fun o=>KS.out.cell o
 have fs:=fun o=>KS.out.frozen o
 have zs:=KS.out.lt
 go_wp2_with fail
 refine (l92Ruined_any g q w.heap.size t k gg S _ HRD.out (by omega) HDS.out (by omega) HID.out).mono ?_
 rintro e w3 ⟨t2,k2,g2,S2,q2,rfl,hds,hq2,hD⟩
 have hz3:=hD.2.size
 replace HB:=Lib.hid (HB.out.trans (hD.2.below (by omega) (by omega)))
 replace KR:=Lib.hid (KR.out.only hD.2 n0)
 replace HRD:=Lib.hid hD.1
 replace HDS:=Lib.hid hds
 clear hds hD cs fs zs
 have cr:=fun o=>KR.out.cell o
 have fr:=fun o=>KR.out.frozen o
 have zr:=KR.out.lt
 go_wp2_with fail
 refine bodyPost_ret (v:=svV t2 k2 g2) (by simp [results,Tryz.results26,go_sem,cr]) rfl ?_
 exact ⟨t2,k2,g2,S2,rfl,(HDS.out.step (Kp.of_only2 (only_set3 _ _ _ _ _) g)).rd,below_set3 HB.out (Nat.le_refl _)⟩
end Go.Proofs.YtkgfmgajhgfgjaaGreatDoor
namespace Go.Proofs.YtkgfmgajhgfgjaaGreatDoor
open Go Go.RowKit
theorem leaving_of_alone {P:Program} (last:Machine) (w:World) (t:Trace) (h:aloneAtReturn P last w t):leavingAtReturn P last w t:=by
 obtain ⟨⟨h1,h2⟩,h3,h4⟩:=h
 refine ⟨h3,⟨?_,h2⟩,h4⟩
 intro g hg
 refine ⟨0,?_⟩
 unfold Machine.othersDone at h1
 have h5:=List.all_eq_true.1 h1 g hg
 show g.status=.finished
 cases hs:g.status <;> rw [hs] at h5 <;> first|rfl|cases h5
section
variable {H:Type} {enc:TypeId × Value→H}
end
theorem holds_tied_goes_at (Lk:Looks) {p:Pinned} {s:OpenSpec} {c:OpenClaim} (kinds:List LaidKind) (tests:Bool) (har:Bool × String) (lk:Bool)
  (hc:c.holds p s) (hw:c.wfByText s=true)
  (htie:c.laidByTextAt Lk p kinds tests)
  (hst:c.start=.entering) (hnb:c.noBlocks=false∧c.again=false) (hm:p.checked.prog.mainIs=some (har.1,har.2.toList)) (hn:(!har.1 && har.2.isEmpty && !lk)=false)
  (hl:∀ f fn,p.checked.prog.funcNamed c.func=some f→p.checked.prog.funcs[f]?=some fn→lk=p.checked.prog.looks []∧∀ (j:Nat) t,fn.params[j]?=some t→p.checked.prog.wantsStandIn t=false)
  (hg:true=c.goesBy p.checked.prog) :
  Claim7.holds p (.plain s) { stood:={ row:=c,standIns:=[],harness:=har,looks:=lk },kinds:=[],alts:=[],goes:=true,laidByText:=true,laidKinds:=kinds,laidTests:=tests,laidLooks:=Lk }:=by
 have h6:∀ r:OpenClaim,Claim7.isSixth { stood:={ row:=r,standIns:=[],harness:=har,looks:=lk },kinds:=[] }=false:=fun r=>by simpa [Claim7.isSixth] using hn
 refine ⟨Claim7.tied_new_at Lk kinds tests (Claim7.new_of_sixth hc har lk hst hnb hm (h6 c) hl) hw,(fun D hD=>by cases hD),htie,(fun h=>by cases h),hg⟩
end Go.Proofs.YtkgfmgajhgfgjaaGreatDoor
namespace Go.Proofs.YtkgfmgajhgfgjaaGreatDoor
open Go
section
variable {H:Type} {enc:TypeId × Value→H}
theorem trodVars_len {P:Program} {W:World} {sp:Nat→Bool}:∀ {ns:List String} {gs:List (DataW H)} {ps:List MemPlace},DataW.TrodVars enc P W sp ns gs ps→gs.length=ns.length
 | [],[],_,_=>rfl
 | [],_ :: _,_,h=>h.elim
 | _ :: _,[],_,h=>h.elim
 |n :: ns,d :: ds,ps,h=>by
  obtain ⟨g,t,cs,fuel,p,q,h1,h2,h3,h4,hs,e⟩:=h
  simp only [List.length_cons]
  rw [trodVars_len hs]
end
end Go.Proofs.YtkgfmgajhgfgjaaGreatDoor
namespace Go.Proofs.YtkgfmgajhgfgjaaGreatDoor
open Go Go.RowKit Go.Conc
theorem post_os {H:Type} {enc:TypeId × Value→H} {P:Program} {f:Func} {s:ChangeSpec} {apart fresh handsOn again:Bool} {W W':World} {args:Array Value} {v:Value} (ho:W'.os=W.os) (h:s.post enc P f apart fresh handsOn again W args v W'):s.post enc P f apart fresh handsOn again W args v { W' with os:=W.os }:=by
 rw [← ho]
 exact h
noncomputable def laidN:List (String × DataW Unit):=Rows.fnSubmitRow.laid.filter fun x=>x.2.handleName?.isNone
noncomputable def laidW (os:Os):World :=
 let w0:=World.laidAll Tryz.prog os laidN
 { w0 with heap:=w0.heap.modify 8 fun
   | .cells _ t frozen=>.cells #[.iface 259 (.agg #[.pointer (some ⟨18,115,none⟩)])] t frozen
   | o=>o }
theorem laidW_met (os:Os) (args:Array Value):laidMetH Tryz.prog Rows.fnSubmitRow.laid ((laidW os).forCall (fun _ _=>0) ⟨#[],args,[]⟩).memory :=
 laidMetH_of_parts (laidMet_of_run' 8 (by kernel_rfl) (by kernel_rfl)) (by kernel_rfl)
theorem laidW_shaped (os:Os):((laidW os).forCall (fun _ _=>0) ⟨#[],#[.slice none 0 0],[]⟩).Shaped Tryz.prog:=World.shaped_of_ZipB (by kernel_rfl) (by kernel_rfl)
end Go.Proofs.YtkgfmgajhgfgjaaGreatDoor

/-
  Lemmas and contracts: YHh. No condition.
-/
import Derived.Test.YtpcjdalgebgofaaGreatDoorKa15
import Derived.Test.YtpcjdalgebgofaaGreatDoorKa16
import Derived.Test.YtpcjdalgebgofaaGreatDoorKa36
import Derived.Test.YtpcjdalgebgofaaGreatDoorKa37
set_option linter.unusedSimpArgs false
set_option linter.unusedVariables false
set_option linter.unusedSectionVars false
namespace Go.Proofs.YtpcjdalgebgofaaGreatDoorY
open Go.RowKit Go.Sort
set_option maxRecDepth 100000 in
set_option maxHeartbeats 8000000 in
theorem walk_fineHash (E:Nat→Addr) (a0:Option Addr) (len0 cap0:Nat) (z0:List Int) (a1:Option Addr) (len1 cap1:Nat) (z1:List Int) (w:World) (hE:Errs E w) (hr:RdI .u8 w a0 len0 z0) (hz:∀ z ∈ z0,0≤z∧z≤255) (hlc:len0≤cap0) (hcm:cap0≤maxLen) (hr1:RdI .u8 w a1 len1 z1) (hz1:∀ z ∈ z1,0≤z∧z≤255) (hlc1:len1≤cap1) (hcm1:cap1≤maxLen) :
  Calls Qy.prog 7 #[.slice a0 len0 cap0,.slice a1 len1 cap1] w fun e w'=>e=.returned (.bool true)∧Below w.heap.size w w':=by
 clear hr1 hz1 hlc1 hcm1
 by_cases hsz:(1048576:Int)<len0
 ·clear hr hlc hcm hz hE
  go_enter Qy.func7,Tryz.ntmps7
  go_wp2
  go_ret
  exact ⟨rfl,Below.refl _ _⟩
 by_cases hsz1:(1048576:Int)<len1
 ·clear hr hlc hcm hz hE
  go_enter Qy.func7,Tryz.ntmps7
  go_wp2
  go_ret
  exact ⟨rfl,Below.refl _ _⟩
 obtain ⟨i0,hi0,hy0,hy1,hy2⟩:=info_parts infoZ
 have HI:=Lib.hid hi0
 have HZ:=Lib.hid hy0
 have HS:=Lib.hid hy1
 have HBY:=Lib.hid hy2
 clear hi0 hy0 hy1 hy2
 have H1:=Lib.hid (drawVerifyReplay_any a0 len0 cap0 z0 w hr hz hlc hcm)
 have HEE:=Lib.hid hE
 clear hr hE hz hlc hcm
 go_enter Qy.func7,Tryz.ntmps7
 go_wp2_with fail
 refine H1.out.mono ?_
 rintro e w1 ⟨l,ws,gs,key,r,si,sh,rfl,hl,hrr,hb⟩
 have hz1:=hb.size
 clear H1
 go_upto_region 4 with (fail)
 refine into_world (fun Y=>Below w.heap.size w Y∧Blk Y w1.heap.size 29 (lvlC l ws gs)∧Blk Y (w1.heap.size+1) 33 (repC r si sh)∧RdL Y l ws gs∧RdR Y r si sh) ⟨(hb.alloc hz1 _).alloc (by simp;omega) _,(Blk.new _ _ _).alloc _,Blk.newAt _ _ _ _ (by simp),(hl.below (ba (Below.refl _ _))).below (ba (Below.refl _ _)),(hrr.below (ba (Below.refl _ _))).below (ba (Below.refl _ _))⟩ ?_
 clear hb hl hrr
 rintro Y ⟨HB,KL,KX,HL,HR⟩
 replace HB:=Lib.hid HB
 replace KL:=Lib.hid KL
 replace KX:=Lib.hid KX
 replace HL:=Lib.hid HL
 replace HR:=Lib.hid HR
 replace HEE:=Lib.hid (HEE.out.next HB.out)
 have cl:=fun o=>KL.out.cell o
 have fl:=fun o=>KL.out.frozen o
 have zl:=KL.out.lt
 have cx:=fun o=>KX.out.cell o
 have fx:=fun o=>KX.out.frozen o
 have zx:=KX.out.lt
 go_wp2_with fail
 refine (verifyReplay_any E l ws gs key r si sh _ HEE.out HL.out HR.out).mono ?_
 rintro e w2 ⟨rfl,hb⟩
 replace KL:=Lib.hid (KL.out.next hb)
 replace KX:=Lib.hid (KX.out.next hb)
 replace HL:=Lib.hid (HL.out.below hb)
 replace HR:=Lib.hid (HR.out.below hb)
 replace HEE:=Lib.hid (HEE.out.next hb)
 replace HB:=Lib.hid (below_next HB.out hb)
 clear hb
 clear cl fl zl cx fx zx
 have cl:=fun o=>KL.out.cell o
 have fl:=fun o=>KL.out.frozen o
 have zl:=KL.out.lt
 have cx:=fun o=>KX.out.cell o
 have fx:=fun o=>KX.out.frozen o
 have zx:=KX.out.lt
 go_wp2_with fail
 refine (specVerifyReplay_any l ws gs key r si sh _ HL.out HR.out).mono ?_
 rintro e w3 ⟨rfl,hb⟩
 replace KL:=Lib.hid (KL.out.next hb)
 replace KX:=Lib.hid (KX.out.next hb)
 replace HL:=Lib.hid (HL.out.below hb)
 replace HR:=Lib.hid (HR.out.below hb)
 replace HEE:=Lib.hid (HEE.out.next hb)
 replace HB:=Lib.hid (below_next HB.out hb)
 clear hb
 clear cl fl zl cx fx zx
 have hv:=verd l key r
 generalize verdW l key r=V at *
 by_cases h0:V=0
 rotate_left
 ·have h0':(V == 0)=false:=by simpa using h0
  have h0n:(V != 0)=true:=by simpa using h0
  clear hv h0
  go_wp2_with fail
  go_ret
  exact ⟨ret_bool (by simp),HB.out⟩
 have HF:=Lib.hid (fine_of hv h0)
 subst h0
 clear hv
 by_cases hs0:(sh.n:Int)=0
 ·have hs0':((sh.n:Int) == 0)=true:=by simpa using hs0
  have cx:=fun o=>KX.out.cell o
  have fx:=fun o=>KX.out.frozen o
  have zx:=KX.out.lt
  go_wp2_with fail
  go_ret
  exact ⟨ret_bool (by simp),HB.out⟩
 have hs0':((sh.n:Int) == 0)=false:=by simpa using hs0
 obtain ⟨k,hk⟩:∃ k:Nat,len1 % sh.n=k:=⟨_,rfl⟩
 have hkn:k<sh.n:=by rw [← hk];exact Nat.mod_lt _ (by omega)
 have e1:(len1:Int).tmod (sh.n:Int)=(k:Int):=by rw [Int.tmod_eq_emod_of_nonneg (by omega)];omega
 clear hk
 have cx:=fun o=>KX.out.cell o
 have fx:=fun o=>KX.out.frozen o
 have zx:=KX.out.lt
 have hrep:=repOk_facts HF.out.rep
 have hhn:=HR.out.2.1.len
 have h64:sh.n≤64:=by have h1:=hrep.2.2.2.2.2.2.1;have h2:=hrep.2.2.2.2.2.2.2;omega
 obtain ⟨b,off,h,hA,hblt,hhk,hcell⟩:=HR.out.2.1.at_ hkn
 have hh:=hrep.2.2.2.2.1 h (List.mem_of_getElem? hhk)
 obtain ⟨d,hd⟩:∃ d:Nat,len0 % 1000=d:=⟨_,rfl⟩
 have hd1:d<1000:=by omega
 have e2:IntKind.i64.wrap (h+1)=h+1:=IntWalk.i64_in _ (by omega)
 have e3:(len0:Int).tmod 1000=(d:Int):=by rw [Int.tmod_eq_emod_of_nonneg (by omega)];omega
 have e4:IntKind.i64.wrap (h+1+d)=h+1+d:=IntWalk.i64_in _ (by omega)
 obtain ⟨z,hzz⟩:∃ z:Int,(h+1+d) % 1000003=z:=⟨_,rfl⟩
 have e5:(h+1+d).tmod 1000003=z:=by rw [Int.tmod_eq_emod_of_nonneg (by omega)];exact hzz
 have hz0:0≤z∧z≤1000002:=by omega
 have hne:r.hs[k]?≠some z:=by
  rw [hhk]
  intro e
  injection e with e
  omega
 have HQ:=Lib.hid (HF.out.reHash (by rw [hhn];exact hkn) hz0.1 hz0.2 hne)
 have HRP:=Lib.hid (show repOk { r with hs:=r.hs.set k z }=true from repOk_hs HF.out.rep (t:=r.tag) (by rw [hhn];exact hkn) hz0.1 hz0.2 hrep.2.2.2.1.1 hrep.2.2.2.1.2)
 have HNH:=Lib.hid hne
 have HCE:=Lib.hid hcell
 have HA:=Lib.hid hA
 clear hrep hzz hd hhk hne hcell hA
 go_upto_region 10 with (fail)
 refine into_world (fun Y=>Below w3.heap.size w3 Y∧Blk Y w3.heap.size 33 (repC r si sh)) ⟨ba (Below.refl _ _),Blk.new _ _ _⟩ ?_
 clear cx fx zx
 rintro Z ⟨HC,KY⟩
 replace HC:=Lib.hid HC
 replace KY:=Lib.hid KY
 have zy:=KY.out.lt
 have hx1:=KX.out.lt
 have cx:=fun o=>(KX.out.next HC.out).cell o
 have fx:=fun o=>(KX.out.next HC.out).frozen o
 have zx:=(KX.out.next HC.out).lt
 have hsn:=Src.ints ((HR.out.2.1.below HC.out).below (ba (Below.refl _ _):Below Z.heap.size Z (Z.alloc (.cells #[] 3))))
 go_upto_region 11 with (at_builtin;refine wpList_append_ow _ rfl (.tmp 57) (.tmp 59) _ rfl (w3.heap.size+1) 3 i0 _ 1 8 (Qy.un Tryz.underlying31) HI.out HZ.out HS.out HBY.out rfl (by omega) _ 0 0 _ rfl (Ow.bare _ _ _ _ _) _ sh.n sh.c (cellsI r.hs) rfl hsn (cellsI_one _) (by unfold maxLen;omega) (by omega) (by simp;omega) ?_;intro A2 c2 w5 hown1 hg1 hn1;have HO2:=Lib.hid hown1;have HB2:=Lib.hid ((ba (Below.refl _ _):Below Z.heap.size Z (Z.alloc (.cells #[] 3))).grown hg1 (by simp) (fun b hb=>by simp [ownB] at hb));clear hown1 hg1 hn1;have k1:=fun o=>(KY.out.next HB2.out).cell o;have k2:=fun o=>(KY.out.next HB2.out).frozen o;have k3:=(KY.out.next HB2.out).lt)
 have hon:=(Only.refl w3.heap.size w5).set_ (p:=⟨w3.heap.size,4,none⟩) (.inl rfl) (.slice A2 sh.n c2)
 refine into_world (fun Y=>Below w3.heap.size w3 Y∧Blk Y w3.heap.size 33 (repC r si ⟨A2,sh.n,c2⟩)∧Ow (w3.heap.size+1) Y 3 1 A2 sh.n c2 (cellsI r.hs)) ⟨(below_at HC.out HC.out.size HB2.out).trans (hon.below (Nat.le_refl _) (Nat.le_trans HC.out.size HB2.out.size)),(KY.out.next HB2.out).set_ 4 _,by have h:=HO2.out;rw [Nat.zero_add,List.nil_append] at h;exact h.low (by omega)⟩ ?_
 clear HC KY HO2 HB2 hon k1 k2 k3 hsn cx fx zx zy
 rintro W ⟨HC,KY,HO⟩
 obtain ⟨g,cur,rfl,hgB,hbk,hnc,hcm2,hcs,_⟩:=HO.blk (by have:=HO.le;omega)
 replace HC:=Lib.hid HC
 replace KY:=Lib.hid KY
 replace HO:=Lib.hid HO
 have HBK:=Lib.hid hbk
 clear hbk
 refine wp_region_grow 15 (by kernel_rfl) (by kernel_rfl) (by kernel_rfl) (fun a b=>Below a.heap.size a b) (fun mq w'=>Below W.heap.size W w') (fun iq v w'=>match iq with|0=>(v=.pointer (some ⟨w3.heap.size,4,none⟩))|1=>(v=.slice (some ⟨g,0,none⟩) sh.n c2)|2=>(v=.int .i64 (k:Int))|3=>(v=.pointer (some ⟨w1.heap.size+1,4,none⟩))|4=>(v=.slice sh.a sh.n sh.c)|5=>(v=.int .i64 (k:Int))|6=>(v=.pointer (some ⟨b,off+k,none⟩))|7=>(v=.int .i64 h)|8=>(v=.int .i64 (h+1))|9=>(v=.slice a0 len0 cap0)|10=>(v=.int .i64 (len0:Int))|11=>(v=.int .i64 (d:Int))|12=>(v=.int .i64 (h+1+d))|13=>(v=.int .i64 z)|14=>(v=.pointer (some ⟨g,k,none⟩))|_=>True) (fun sq=>{ tmps:=#[Value.slice a0 len0 cap0,Value.slice a1 len1 cap1,undef,undef,Value.bool false,Value.pointer (some (⟨w1.heap.size,0,none⟩:Addr)),Value.int .i64 key,Value.pointer (some (⟨w1.heap.size+1,0,none⟩:Addr)),Value.int .i64 0,Value.int .i64 0,Value.int .i64 (k:Int),Value.pointer (some (⟨w3.heap.size,0,none⟩:Addr)),Value.slice a0 len0 cap0,Value.int .i64 (len0:Int),Value.bool false,Value.bool false,Value.slice a1 len1 cap1,Value.int .i64 (len1:Int),Value.bool false,Value.bool false,Value.tuple #[lvlV l ws gs,Value.int .i64 key,repV r si sh],Value.slice a0 len0 cap0,Value.tuple #[lvlV l ws gs,Value.int .i64 key,repV r si sh],lvlV l ws gs,Value.int .i64 key,repV r si sh,Value.agg #[Value.int .i64 l.id,Value.int .i64 l.ticks,Value.int .i64 l.sx,Value.int .i64 l.sy,Value.slice ws.a ws.n ws.c,Value.slice gs.a gs.n gs.c,Value.int .i64 l.f.1,Value.int .i64 l.f.2.1,Value.int .i64 l.f.2.2.1,Value.int .i64 l.f.2.2.2,Value.int .i64 l.bans],Value.int .i64 key,Value.agg #[Value.int .i64 r.lv,Value.int .i64 r.pl,Value.int .i64 r.sc,Value.slice si.a si.n si.c,Value.slice sh.a sh.n sh.c,Value.int .i64 r.tag],Value.int .i64 0,Value.agg #[Value.int .i64 l.id,Value.int .i64 l.ticks,Value.int .i64 l.sx,Value.int .i64 l.sy,Value.slice ws.a ws.n ws.c,Value.slice gs.a gs.n gs.c,Value.int .i64 l.f.1,Value.int .i64 l.f.2.1,Value.int .i64 l.f.2.2.1,Value.int .i64 l.f.2.2.2,Value.int .i64 l.bans],Value.int .i64 key,Value.agg #[Value.int .i64 r.lv,Value.int .i64 r.pl,Value.int .i64 r.sc,Value.slice si.a si.n si.c,Value.slice sh.a sh.n sh.c,Value.int .i64 r.tag],Value.int .i64 0,Value.int .i64 0,Value.int .i64 0,Value.bool false,Value.bool false,Value.int .i64 0,Value.bool false,Value.bool false,Value.bool false,Value.pointer (some (⟨w1.heap.size+1,4,none⟩:Addr)),Value.slice sh.a sh.n sh.c,Value.int .i64 (sh.n:Int),Value.bool false,Value.bool false,undef,undef,undef,Value.slice a1 len1 cap1,Value.int .i64 (len1:Int),Value.pointer (some (⟨w1.heap.size+1,4,none⟩:Addr)),Value.slice sh.a sh.n sh.c,Value.int .i64 (sh.n:Int),Value.int .i64 (k:Int),Value.agg #[Value.int .i64 r.lv,Value.int .i64 r.pl,Value.int .i64 r.sc,Value.slice si.a si.n si.c,Value.slice sh.a sh.n sh.c,Value.int .i64 r.tag],Value.slice (some (⟨Z.heap.size,0,none⟩:Addr)) 0 0,Value.pointer (some (⟨w1.heap.size+1,4,none⟩:Addr)),Value.slice sh.a sh.n sh.c,Value.slice (some (⟨g,0,none⟩:Addr)) sh.n c2,Value.pointer (some (⟨w3.heap.size,4,none⟩:Addr)),sq 0,sq 1,sq 2,sq 3,sq 4,sq 5,sq 6,sq 7,sq 8,sq 9,sq 10,sq 11,sq 12,sq 13,sq 14,undef,undef,undef,undef,undef,undef,undef,undef,undef,undef,undef,undef,undef,undef,undef,undef,undef,undef],defers:=[] }) (fun _=>undef) ?_ ?_ ?_ ?_
 ·rintro iq v a b hg h
  match iq,h with
  | 0,h=>exact h
  | 1,h=>exact h
  | 2,h=>exact h
  | 3,h=>exact h
  | 4,h=>exact h
  | 5,h=>exact h
  | 6,h=>exact h
  | 7,h=>exact h
  | 8,h=>exact h
  | 9,h=>exact h
  | 10,h=>exact h
  | 11,h=>exact h
  | 12,h=>exact h
  | 13,h=>exact h
  | 14,h=>exact h
  | (kq+15),_=>exact trivial
 ·exact ⟨rfl,rfl,rfl,Nat.le_refl _,fun _ _=>rfl⟩
 ·intro mq sq w' iq oq hmq hiq hoq hJ hd Kq hK
  have hiq':iq=0∨iq=1∨iq=2∨iq=3∨iq=4∨iq=5∨iq=6∨iq=7∨iq=8∨iq=9∨iq=10∨iq=11∨iq=12∨iq=13∨iq=14:=by omega
  rcases hiq' with rfl|rfl|rfl|rfl|rfl|rfl|rfl|rfl|rfl|rfl|rfl|rfl|rfl|rfl|rfl
  ·cases (show some _=some oq from hoq)
   have hK':=hK
   simp only [updV,Nat.reduceEqDiff,↓reduceIte] at hK'
   clear hK hd
   generalize sq 0=x0,sq 1=x1,sq 2=x2,sq 3=x3,sq 4=x4,sq 5=x5,sq 6=x6,sq 7=x7,sq 8=x8,sq 9=x9,sq 10=x10,sq 11=x11,sq 12=x12,sq 13=x13,sq 14=x14 at *
   go_simp
   exact hK' _ _ (Below.refl _ _) hJ rfl
  ·cases (show some _=some oq from hoq)
   have d0:=hd 0 (by kernel_rfl) (by decide)
   have hK':=hK
   simp only [updV,Nat.reduceEqDiff,↓reduceIte] at hK'
   clear hK hd
   generalize sq 0=x0,sq 1=x1,sq 2=x2,sq 3=x3,sq 4=x4,sq 5=x5,sq 6=x6,sq 7=x7,sq 8=x8,sq 9=x9,sq 10=x10,sq 11=x11,sq 12=x12,sq 13=x13,sq 14=x14 at *
   obtain rfl:=d0
   have hcc:=(KY.out.next hJ).cell 4
   go_simp
   exact hK' _ _ (Below.refl _ _) hJ rfl
  ·cases (show some _=some oq from hoq)
   have hK':=hK
   simp only [updV,Nat.reduceEqDiff,↓reduceIte] at hK'
   clear hK hd
   generalize sq 0=x0,sq 1=x1,sq 2=x2,sq 3=x3,sq 4=x4,sq 5=x5,sq 6=x6,sq 7=x7,sq 8=x8,sq 9=x9,sq 10=x10,sq 11=x11,sq 12=x12,sq 13=x13,sq 14=x14 at *
   go_simp
   exact hK' _ _ (Below.refl _ _) hJ rfl
  ·cases (show some _=some oq from hoq)
   have hK':=hK
   simp only [updV,Nat.reduceEqDiff,↓reduceIte] at hK'
   clear hK hd
   generalize sq 0=x0,sq 1=x1,sq 2=x2,sq 3=x3,sq 4=x4,sq 5=x5,sq 6=x6,sq 7=x7,sq 8=x8,sq 9=x9,sq 10=x10,sq 11=x11,sq 12=x12,sq 13=x13,sq 14=x14 at *
   go_simp
   exact hK' _ _ (Below.refl _ _) hJ rfl
  ·cases (show some _=some oq from hoq)
   have d3:=hd 3 (by kernel_rfl) (by decide)
   have hK':=hK
   simp only [updV,Nat.reduceEqDiff,↓reduceIte] at hK'
   clear hK hd
   generalize sq 0=x0,sq 1=x1,sq 2=x2,sq 3=x3,sq 4=x4,sq 5=x5,sq 6=x6,sq 7=x7,sq 8=x8,sq 9=x9,sq 10=x10,sq 11=x11,sq 12=x12,sq 13=x13,sq 14=x14 at *
   obtain rfl:=d3
   have hcc:=((KX.out.next HC.out).next hJ).cell 4
   go_simp
   exact hK' _ _ (Below.refl _ _) hJ rfl
  ·cases (show some _=some oq from hoq)
   have hK':=hK
   simp only [updV,Nat.reduceEqDiff,↓reduceIte] at hK'
   clear hK hd
   generalize sq 0=x0,sq 1=x1,sq 2=x2,sq 3=x3,sq 4=x4,sq 5=x5,sq 6=x6,sq 7=x7,sq 8=x8,sq 9=x9,sq 10=x10,sq 11=x11,sq 12=x12,sq 13=x13,sq 14=x14 at *
   go_simp
   exact hK' _ _ (Below.refl _ _) hJ rfl
  ·cases (show some _=some oq from hoq)
   have d4:=hd 4 (by kernel_rfl) (by decide)
   have d5:=hd 5 (by kernel_rfl) (by decide)
   have hK':=hK
   simp only [updV,Nat.reduceEqDiff,↓reduceIte] at hK'
   clear hK hd
   generalize sq 0=x0,sq 1=x1,sq 2=x2,sq 3=x3,sq 4=x4,sq 5=x5,sq 6=x6,sq 7=x7,sq 8=x8,sq 9=x9,sq 10=x10,sq 11=x11,sq 12=x12,sq 13=x13,sq 14=x14 at *
   obtain rfl:=d4
   obtain rfl:=d5
   rw [HA.out] at hK' ⊢
   go_simp
   exact hK' _ _ (Below.refl _ _) hJ rfl
  ·cases (show some _=some oq from hoq)
   have d6:=hd 6 (by kernel_rfl) (by decide)
   have hK':=hK
   simp only [updV,Nat.reduceEqDiff,↓reduceIte] at hK'
   clear hK hd
   generalize sq 0=x0,sq 1=x1,sq 2=x2,sq 3=x3,sq 4=x4,sq 5=x5,sq 6=x6,sq 7=x7,sq 8=x8,sq 9=x9,sq 10=x10,sq 11=x11,sq 12=x12,sq 13=x13,sq 14=x14 at *
   obtain rfl:=d6
   have hcc:=((bcell (below_next HC.out hJ)).1 b (off+k) hblt).trans HCE.out
   go_simp
   exact hK' _ _ (Below.refl _ _) hJ rfl
  ·cases (show some _=some oq from hoq)
   have d7:=hd 7 (by kernel_rfl) (by decide)
   have hK':=hK
   simp only [updV,Nat.reduceEqDiff,↓reduceIte] at hK'
   clear hK hd
   generalize sq 0=x0,sq 1=x1,sq 2=x2,sq 3=x3,sq 4=x4,sq 5=x5,sq 6=x6,sq 7=x7,sq 8=x8,sq 9=x9,sq 10=x10,sq 11=x11,sq 12=x12,sq 13=x13,sq 14=x14 at *
   obtain rfl:=d7
   go_simp
   exact hK' _ _ (Below.refl _ _) hJ rfl
  ·cases (show some _=some oq from hoq)
   have hK':=hK
   simp only [updV,Nat.reduceEqDiff,↓reduceIte] at hK'
   clear hK hd
   generalize sq 0=x0,sq 1=x1,sq 2=x2,sq 3=x3,sq 4=x4,sq 5=x5,sq 6=x6,sq 7=x7,sq 8=x8,sq 9=x9,sq 10=x10,sq 11=x11,sq 12=x12,sq 13=x13,sq 14=x14 at *
   go_simp
   exact hK' _ _ (Below.refl _ _) hJ rfl
  ·cases (show some _=some oq from hoq)
   have d9:=hd 9 (by kernel_rfl) (by decide)
   have hK':=hK
   simp only [updV,Nat.reduceEqDiff,↓reduceIte] at hK'
   clear hK hd
   generalize sq 0=x0,sq 1=x1,sq 2=x2,sq 3=x3,sq 4=x4,sq 5=x5,sq 6=x6,sq 7=x7,sq 8=x8,sq 9=x9,sq 10=x10,sq 11=x11,sq 12=x12,sq 13=x13,sq 14=x14 at *
   obtain rfl:=d9
   go_simp
   exact hK' _ _ (Below.refl _ _) hJ rfl
  ·cases (show some _=some oq from hoq)
   have d10:=hd 10 (by kernel_rfl) (by decide)
   have hK':=hK
   simp only [updV,Nat.reduceEqDiff,↓reduceIte] at hK'
   clear hK hd
   generalize sq 0=x0,sq 1=x1,sq 2=x2,sq 3=x3,sq 4=x4,sq 5=x5,sq 6=x6,sq 7=x7,sq 8=x8,sq 9=x9,sq 10=x10,sq 11=x11,sq 12=x12,sq 13=x13,sq 14=x14 at *
   obtain rfl:=d10
   go_simp
   exact hK' _ _ (Below.refl _ _) hJ rfl
  ·cases (show some _=some oq from hoq)
   have d8:=hd 8 (by kernel_rfl) (by decide)
   have d11:=hd 11 (by kernel_rfl) (by decide)
   have hK':=hK
   simp only [updV,Nat.reduceEqDiff,↓reduceIte] at hK'
   clear hK hd
   generalize sq 0=x0,sq 1=x1,sq 2=x2,sq 3=x3,sq 4=x4,sq 5=x5,sq 6=x6,sq 7=x7,sq 8=x8,sq 9=x9,sq 10=x10,sq 11=x11,sq 12=x12,sq 13=x13,sq 14=x14 at *
   obtain rfl:=d8
   obtain rfl:=d11
   go_simp
   exact hK' _ _ (Below.refl _ _) hJ rfl
  ·cases (show some _=some oq from hoq)
   have d12:=hd 12 (by kernel_rfl) (by decide)
   have hK':=hK
   simp only [updV,Nat.reduceEqDiff,↓reduceIte] at hK'
   clear hK hd
   generalize sq 0=x0,sq 1=x1,sq 2=x2,sq 3=x3,sq 4=x4,sq 5=x5,sq 6=x6,sq 7=x7,sq 8=x8,sq 9=x9,sq 10=x10,sq 11=x11,sq 12=x12,sq 13=x13,sq 14=x14 at *
   obtain rfl:=d12
   go_simp
   exact hK' _ _ (Below.refl _ _) hJ rfl
  ·cases (show some _=some oq from hoq)
   have d1:=hd 1 (by kernel_rfl) (by decide)
   have d2:=hd 2 (by kernel_rfl) (by decide)
   have hK':=hK
   simp only [updV,Nat.reduceEqDiff,↓reduceIte] at hK'
   clear hK hd
   generalize sq 0=x0,sq 1=x1,sq 2=x2,sq 3=x3,sq 4=x4,sq 5=x5,sq 6=x6,sq 7=x7,sq 8=x8,sq 9=x9,sq 10=x10,sq 11=x11,sq 12=x12,sq 13=x13,sq 14=x14 at *
   obtain rfl:=d1
   obtain rfl:=d2
   go_simp
   exact hK' _ _ (Below.refl _ _) hJ rfl
 ·intro sq w' hJ hφ
  simp only [List.drop_succ_cons,List.drop_zero]
  have d13:=hφ 13 (by decide)
  have d14:=hφ 14 (by decide)
  clear hφ
  generalize sq 0=x0,sq 1=x1,sq 2=x2,sq 3=x3,sq 4=x4,sq 5=x5,sq 6=x6,sq 7=x7,sq 8=x8,sq 9=x9,sq 10=x10,sq 11=x11,sq 12=x12,sq 13=x13,sq 14=x14 at *
  obtain rfl:=d13
  obtain rfl:=d14
  obtain ⟨b2,off2,h2,hA2,_,_,hc2⟩:=(Ow.next HO.out hJ).rdI.at_ hkn
  injection hA2 with hA2
  injection hA2 with hA2 hA3
  subst hA2 hA3
  rw [Nat.zero_add] at hc2
  have hfz:=(HBK.out.next hJ).frozen k
  go_upto_region 12 with (fail)
  refine into_world (fun Y=>Below w3.heap.size w3 Y∧Blk Y w3.heap.size 33 (repC r si ⟨some ⟨g,0,none⟩,sh.n,c2⟩)∧Ow (w3.heap.size+1) Y 3 1 (some ⟨g,0,none⟩) sh.n c2 (cellsI (r.hs.set k z))) ⟨(below_next HC.out hJ).setCell (p:=⟨g,k,none⟩) (by show w3.heap.size≤g;omega) _,(KY.out.next hJ).far (p:=⟨g,k,none⟩) (by simp;omega) _,by rw [show cellsI (r.hs.set k z)=(cellsI r.hs).set k (.int .i64 z) by simp [cellsI,List.map_set]];exact Ow.set_ (Ow.next HO.out hJ) (by simp [cellsI];omega) _⟩ ?_
  clear hJ hc2 hfz HC KY HO HBK
  rintro X ⟨HC,KY,HO⟩
  replace HC:=Lib.hid HC
  replace KY:=Lib.hid KY
  replace HO:=Lib.hid HO
  have cy:=fun o=>KY.out.cell o
  have fy:=fun o=>KY.out.frozen o
  have zy:=KY.out.lt
  obtain ⟨NL,hnl⟩:∃ n:Nat,(listW { r with hs:=r.hs.set k z }).length=n:=⟨_,rfl⟩
  have hnb:NL≤1048576:=by
   rw [listW_len] at hnl
   have h1:=(repOk_facts HF.out.rep).2.2.2.2.2.2.1
   simp only [List.length_set] at hnl
   omega
  have HLI:=Lib.hid (show listI { r with hs:=r.hs.set k z }=listW { r with hs:=r.hs.set k z } by unfold listI;rw [HRP.out];rfl)
  have HNL:=Lib.hid hnl
  have HTO:=Lib.hid (tagO_rep (key:=key) HRP.out HF.out.ky)
  clear hnl
  go_wp2_with fail
  refine (implReplayList_any { r with hs:=r.hs.set k z } si ⟨some ⟨g,0,none⟩,sh.n,c2⟩ _ ⟨HR.out.1.below HC.out,HO.out.rdI,HR.out.2.2.1,⟨hnc,by show sh.n≤1048576;omega⟩⟩).mono ?_
  rintro e w6 ⟨A3,c3,rfl,ho,hb⟩
  rw [HLI.out,HNL.out] at ho
  rw [HLI.out,HNL.out]
  replace HC:=Lib.hid (below_next HC.out hb)
  replace KY:=Lib.hid (KY.out.next hb)
  replace HO:=Lib.hid (Ow.next HO.out hb)
  clear hb cy fy zy
  have cy:=fun o=>KY.out.cell o
  have fy:=fun o=>KY.out.frozen o
  have zy:=KY.out.lt
  go_wp2_with fail
  refine (tagOf_any key A3 NL c3 (listW { r with hs:=r.hs.set k z }) _ ho.rdI hnb).mono ?_
  rintro e w7 ⟨rfl,hb⟩
  rw [HTO.out]
  replace HC:=Lib.hid (below_next HC.out hb)
  replace KY:=Lib.hid (KY.out.next hb)
  replace HO:=Lib.hid (Ow.next HO.out hb)
  clear hb cy fy zy ho
  obtain ⟨T,hT⟩:∃ T,tagW key (listW { r with hs:=r.hs.set k z })=T:=⟨_,rfl⟩
  rw [hT]
  replace HQ:=HQ.out
  rw [hT] at HQ
  clear hT HTO
  replace HQ:=Lib.hid HQ
  have cy:=fun o=>KY.out.cell o
  have fy:=fun o=>KY.out.frozen o
  have zy:=KY.out.lt
  go_upto_region 13 with (fail)
  refine into_world (fun Y=>Below w3.heap.size w3 Y∧Blk Y w3.heap.size 33 (repC { r with hs:=r.hs.set k z,tag:=T } si ⟨some ⟨g,0,none⟩,sh.n,c2⟩)∧Ow (w3.heap.size+1) Y 3 1 (some ⟨g,0,none⟩) sh.n c2 (cellsI (r.hs.set k z))) ⟨HC.out.setCell (p:=⟨w3.heap.size,5,none⟩) (Nat.le_refl _) _,KY.out.set_ 5 _,HO.out.low (by omega)⟩ ?_
  clear HC KY HO cy fy zy
  rintro X2 ⟨HC,KY,HO⟩
  replace HC:=Lib.hid HC
  replace KY:=Lib.hid KY
  replace HO:=Lib.hid HO
  have e6:IntKind.i64.wrap ((k:Int) * 5)=k * 5:=IntWalk.i64_in _ (by omega)
  have cl:=fun o=>(KL.out.next HC.out).cell o
  have fl:=fun o=>(KL.out.next HC.out).frozen o
  have zl:=(KL.out.next HC.out).lt
  have cy:=fun o=>KY.out.cell o
  have fy:=fun o=>KY.out.frozen o
  have zy:=KY.out.lt
  go_wp2_with fail
  refine (verifyReplay_any E l ws gs key { r with hs:=r.hs.set k z,tag:=T } si ⟨some ⟨g,0,none⟩,sh.n,c2⟩ _ (HEE.out.next HC.out) (HL.out.below HC.out) ⟨HR.out.1.below HC.out,HO.out.rdI,HR.out.2.2.1,⟨hnc,by show sh.n≤1048576;omega⟩⟩).mono ?_
  rw [HQ.out.1]
  rintro e w8 ⟨rfl,hb⟩
  replace HC:=Lib.hid (below_next HC.out hb)
  replace KY:=Lib.hid (KY.out.next hb)
  replace HO:=Lib.hid (Ow.next HO.out hb)
  clear hb cy fy zy cl fl zl
  have cl:=fun o=>(KL.out.next HC.out).cell o
  have fl:=fun o=>(KL.out.next HC.out).frozen o
  have zl:=(KL.out.next HC.out).lt
  have cy:=fun o=>KY.out.cell o
  have fy:=fun o=>KY.out.frozen o
  have zy:=KY.out.lt
  go_wp2_with fail
  refine (verifyTick_any l ws gs { r with hs:=r.hs.set k z,tag:=T } si ⟨some ⟨g,0,none⟩,sh.n,c2⟩ _ (HL.out.below HC.out) ⟨HR.out.1.below HC.out,HO.out.rdI,HR.out.2.2.1,⟨hnc,by show sh.n≤1048576;omega⟩⟩).mono ?_
  rw [HQ.out.2]
  rintro e w9 ⟨rfl,hb⟩
  have HBB:=Lib.hid (below_next HB.out (below_next HC.out hb))
  clear hb cy fy zy cl fl zl
  go_wp2_with fail
  go_ret
  exact ⟨ret_bool (by simp),HBB.out⟩
end Go.Proofs.YtpcjdalgebgofaaGreatDoorY

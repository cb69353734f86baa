/-
  Lemmas and contracts: YHo. No condition.
-/
import Derived.Test.YtpcjdalgebgofaaGreatDoorKa36
import Derived.Test.YtpcjdalgebgofaaGreatDoorKa37
set_option linter.unusedSimpArgs false
set_option linter.unusedVariables false
set_option linter.unusedSectionVars false
namespace Go.Proofs.YtpcjdalgebgofaaGreatDoorY
open Go.RowKit Go.Sort
set_option maxRecDepth 100000 in
set_option maxHeartbeats 8000000 in
theorem walk_order (E:Nat→Addr) (a0:Option Addr) (len0 cap0:Nat) (z0:List Int) (w:World) (hE:Errs E w) (hr:RdI .u8 w a0 len0 z0) (hz:∀ z ∈ z0,0≤z∧z≤255) (hlc:len0≤cap0) (hcm:cap0≤maxLen) :
  Calls Qy.prog 4 #[.slice a0 len0 cap0] w fun e w'=>e=.returned (.bool true)∧Below w.heap.size w w':=by
 by_cases hsz:(1048576:Int)<len0
 ·clear hr hlc hcm hz hE
  go_enter Qy.func4,Tryz.ntmps4
  go_wp2
  go_ret
  exact ⟨rfl,Below.refl _ _⟩
 have H1:=Lib.hid (drawVerifyReplay_any a0 len0 cap0 z0 w hr hz hlc hcm)
 have HEE:=Lib.hid hE
 clear hr hE hz hlc hcm
 go_enter Qy.func4,Tryz.ntmps4
 go_wp2_with fail
 refine H1.out.mono ?_
 rintro e w1 ⟨l,ws,gs,key,r,si,sh,rfl,hl,hrr,hb⟩
 have hz1:=hb.size
 clear H1
 go_upto_region 4 with (fail)
 refine into_world (fun Y=>Below w.heap.size w Y∧Blk Y w1.heap.size 29 (lvlC l ws gs)∧Blk Y (w1.heap.size+1) 33 (repC r si sh)∧RdL Y l ws gs∧RdR Y r si sh) ⟨(hb.alloc hz1 _).alloc (by simp;omega) _,(Blk.new _ _ _).alloc _,Blk.newAt _ _ _ _ (by simp),(hl.below (ba (Below.refl _ _))).below (ba (Below.refl _ _)),(hrr.below (ba (Below.refl _ _))).below (ba (Below.refl _ _))⟩ ?_
 clear hb hl hrr
 rintro Y ⟨HB,KL,KX,HL,HR⟩
 replace HB:=Lib.hid HB
 replace KL:=Lib.hid KL
 replace KX:=Lib.hid KX
 replace HL:=Lib.hid HL
 replace HR:=Lib.hid HR
 replace HEE:=Lib.hid (HEE.out.next HB.out)
 have cl:=fun o=>KL.out.cell o
 have fl:=fun o=>KL.out.frozen o
 have zl:=KL.out.lt
 have cx:=fun o=>KX.out.cell o
 have fx:=fun o=>KX.out.frozen o
 have zx:=KX.out.lt
 go_wp2_with fail
 refine (verifyReplay_any E l ws gs key r si sh _ HEE.out HL.out HR.out).mono ?_
 rintro e w2 ⟨rfl,hb⟩
 replace KL:=Lib.hid (KL.out.next hb)
 replace KX:=Lib.hid (KX.out.next hb)
 replace HL:=Lib.hid (HL.out.below hb)
 replace HR:=Lib.hid (HR.out.below hb)
 replace HEE:=Lib.hid (HEE.out.next hb)
 replace HB:=Lib.hid (below_next HB.out hb)
 clear hb
 clear cl fl zl cx fx zx
 have cl:=fun o=>KL.out.cell o
 have fl:=fun o=>KL.out.frozen o
 have zl:=KL.out.lt
 have cx:=fun o=>KX.out.cell o
 have fx:=fun o=>KX.out.frozen o
 have zx:=KX.out.lt
 go_wp2_with fail
 refine (specVerifyReplay_any l ws gs key r si sh _ HL.out HR.out).mono ?_
 rintro e w3 ⟨rfl,hb⟩
 replace KL:=Lib.hid (KL.out.next hb)
 replace KX:=Lib.hid (KX.out.next hb)
 replace HL:=Lib.hid (HL.out.below hb)
 replace HR:=Lib.hid (HR.out.below hb)
 replace HEE:=Lib.hid (HEE.out.next hb)
 replace HB:=Lib.hid (below_next HB.out hb)
 clear hb
 clear cl fl zl cx fx zx
 have hv:=verd l key r
 generalize verdW l key r=V at *
 cases verd2 hv with
 | text h =>
  have HV:=Lib.hid h
  clear h
  have cx:=fun o=>KX.out.cell o
  have fx:=fun o=>KX.out.frozen o
  have zx:=KX.out.lt
  go_wp2_with fail
  refine (implReplayValid_any r si sh _ HR.out).mono ?_
  rintro e w4 ⟨rfl,hb⟩
  rw [HV.out]
  replace KL:=Lib.hid (KL.out.next hb)
  replace KX:=Lib.hid (KX.out.next hb)
  replace HL:=Lib.hid (HL.out.below hb)
  replace HR:=Lib.hid (HR.out.below hb)
  replace HEE:=Lib.hid (HEE.out.next hb)
  replace HB:=Lib.hid (below_next HB.out hb)
  clear hb
  clear cx fx zx
  go_wp2_with fail
  go_ret
  exact ⟨ret_bool (by simp),HB.out⟩
 | level h hh =>
  have HV:=Lib.hid h
  clear h
  have cx:=fun o=>KX.out.cell o
  have fx:=fun o=>KX.out.frozen o
  have zx:=KX.out.lt
  go_wp2_with fail
  refine (implReplayValid_any r si sh _ HR.out).mono ?_
  rintro e w4 ⟨rfl,hb⟩
  rw [HV.out]
  replace KL:=Lib.hid (KL.out.next hb)
  replace KX:=Lib.hid (KX.out.next hb)
  replace HL:=Lib.hid (HL.out.below hb)
  replace HR:=Lib.hid (HR.out.below hb)
  replace HEE:=Lib.hid (HEE.out.next hb)
  replace HB:=Lib.hid (below_next HB.out hb)
  clear hb
  clear cx fx zx
  cases hl:levelOk l
  ·have HLV:=Lib.hid hl
   clear hl hh
   have cl:=fun o=>KL.out.cell o
   have fl:=fun o=>KL.out.frozen o
   have zl:=KL.out.lt
   go_wp2_with fail
   refine (implLevelValid_any l ws gs _ HL.out).mono ?_
   rintro e w5 ⟨rfl,hb⟩
   rw [HLV.out]
   replace KL:=Lib.hid (KL.out.next hb)
   replace KX:=Lib.hid (KX.out.next hb)
   replace HL:=Lib.hid (HL.out.below hb)
   replace HR:=Lib.hid (HR.out.below hb)
   replace HEE:=Lib.hid (HEE.out.next hb)
   replace HB:=Lib.hid (below_next HB.out hb)
   clear hb
   clear cl fl zl
   go_wp2_with fail
   go_ret
   exact ⟨ret_bool (by simp),HB.out⟩
  have hne:l.id≠r.lv:=by
   rcases hh with h|h
   ·rw [hl] at h;cases h
   ·exact h
  have hne':(l.id == r.lv)=false:=by simpa using hne
  have hnn:(l.id != r.lv)=true:=by simpa using hne
  have HLV:=Lib.hid hl
  clear hl hh hne
  have cl:=fun o=>KL.out.cell o
  have fl:=fun o=>KL.out.frozen o
  have zl:=KL.out.lt
  go_wp2_with fail
  refine (implLevelValid_any l ws gs _ HL.out).mono ?_
  rintro e w5 ⟨rfl,hb⟩
  rw [HLV.out]
  replace KL:=Lib.hid (KL.out.next hb)
  replace KX:=Lib.hid (KX.out.next hb)
  replace HL:=Lib.hid (HL.out.below hb)
  replace HR:=Lib.hid (HR.out.below hb)
  replace HEE:=Lib.hid (HEE.out.next hb)
  replace HB:=Lib.hid (below_next HB.out hb)
  clear hb
  clear cl fl zl
  have cl:=fun o=>KL.out.cell o
  have fl:=fun o=>KL.out.frozen o
  have zl:=KL.out.lt
  have cx:=fun o=>KX.out.cell o
  have fx:=fun o=>KX.out.frozen o
  have zx:=KX.out.lt
  go_wp2_with fail
  go_ret
  exact ⟨ret_bool (by simp),HB.out⟩
 | key h1 h2 h3 h4 =>
  have H1:=Lib.hid h1
  have H2:=Lib.hid h2
  have h3':(l.id == r.lv)=true:=by simpa using h3
  have h3n:(l.id != r.lv)=false:=by simpa using h3
  clear h1 h2 h3
  have hk:key<1∨9999<key:=by simp [inR] at h4;omega
  clear h4
  have cx:=fun o=>KX.out.cell o
  have fx:=fun o=>KX.out.frozen o
  have zx:=KX.out.lt
  go_wp2_with fail
  refine (implReplayValid_any r si sh _ HR.out).mono ?_
  rintro e w4 ⟨rfl,hb⟩
  rw [H1.out]
  replace KL:=Lib.hid (KL.out.next hb)
  replace KX:=Lib.hid (KX.out.next hb)
  replace HL:=Lib.hid (HL.out.below hb)
  replace HR:=Lib.hid (HR.out.below hb)
  replace HEE:=Lib.hid (HEE.out.next hb)
  replace HB:=Lib.hid (below_next HB.out hb)
  clear hb
  clear cx fx zx
  have cl:=fun o=>KL.out.cell o
  have fl:=fun o=>KL.out.frozen o
  have zl:=KL.out.lt
  go_wp2_with fail
  refine (implLevelValid_any l ws gs _ HL.out).mono ?_
  rintro e w5 ⟨rfl,hb⟩
  rw [H2.out]
  replace KL:=Lib.hid (KL.out.next hb)
  replace KX:=Lib.hid (KX.out.next hb)
  replace HL:=Lib.hid (HL.out.below hb)
  replace HR:=Lib.hid (HR.out.below hb)
  replace HEE:=Lib.hid (HEE.out.next hb)
  replace HB:=Lib.hid (below_next HB.out hb)
  clear hb
  clear cl fl zl
  have cl:=fun o=>KL.out.cell o
  have fl:=fun o=>KL.out.frozen o
  have zl:=KL.out.lt
  have cx:=fun o=>KX.out.cell o
  have fx:=fun o=>KX.out.frozen o
  have zx:=KX.out.lt
  by_cases hk1:key<1
  ·have hk1':decide (key<1)=true:=by simpa using hk1
   clear hk
   go_wp2_with fail
   go_ret
   exact ⟨ret_bool (by simp),HB.out⟩
  ·have hk1':decide (key<1)=false:=by simpa using hk1
   have hk2:9999<key:=by omega
   have hk2':decide (9999<key)=true:=by simpa using hk2
   clear hk
   go_wp2_with fail
   go_ret
   exact ⟨ret_bool (by simp),HB.out⟩
 | late _ h1 h2 h3 h4 h5 =>
  have H1:=Lib.hid h1
  have H2:=Lib.hid h2
  have h3':(l.id == r.lv)=true:=by simpa using h3
  have h3n:(l.id != r.lv)=false:=by simpa using h3
  have hf:=repOk_facts h1
  have H4:=Lib.hid h4
  have hk1:decide (key<1)=false:=by simp [inR] at h4;simpa using h4.1
  have hk2:decide (9999<key)=false:=by simp [inR] at h4;simpa using h4.2
  have HV:=Lib.hid h5
  have HF:=Lib.hid hf
  clear h1 h2 h3 h4 h5 hv hf
  have cx:=fun o=>KX.out.cell o
  have fx:=fun o=>KX.out.frozen o
  have zx:=KX.out.lt
  go_wp2_with fail
  refine (implReplayValid_any r si sh _ HR.out).mono ?_
  rintro e w4 ⟨rfl,hb⟩
  rw [H1.out]
  replace KL:=Lib.hid (KL.out.next hb)
  replace KX:=Lib.hid (KX.out.next hb)
  replace HL:=Lib.hid (HL.out.below hb)
  replace HR:=Lib.hid (HR.out.below hb)
  replace HEE:=Lib.hid (HEE.out.next hb)
  replace HB:=Lib.hid (below_next HB.out hb)
  clear hb
  clear cx fx zx
  have cl:=fun o=>KL.out.cell o
  have fl:=fun o=>KL.out.frozen o
  have zl:=KL.out.lt
  go_wp2_with fail
  refine (implLevelValid_any l ws gs _ HL.out).mono ?_
  rintro e w5 ⟨rfl,hb⟩
  rw [H2.out]
  replace KL:=Lib.hid (KL.out.next hb)
  replace KX:=Lib.hid (KX.out.next hb)
  replace HL:=Lib.hid (HL.out.below hb)
  replace HR:=Lib.hid (HR.out.below hb)
  replace HEE:=Lib.hid (HEE.out.next hb)
  replace HB:=Lib.hid (below_next HB.out hb)
  clear hb
  clear cl fl zl
  have cl:=fun o=>KL.out.cell o
  have fl:=fun o=>KL.out.frozen o
  have zl:=KL.out.lt
  have cx:=fun o=>KX.out.cell o
  have fx:=fun o=>KX.out.frozen o
  have zx:=KX.out.lt
  go_upto_region 14 with (fail)
  obtain ⟨W,hW⟩:∃ W,W=w5:=⟨_,rfl⟩
  rw [← hW] at HB HL HR KL KX HEE ⊢
  clear hW
  obtain ⟨NL,hnl⟩:∃ n:Nat,(listW r).length=n:=⟨_,rfl⟩
  have hnb:NL≤1048576:=by have h1:=HF.out;rw [listW_len] at hnl;omega
  have HLI:=Lib.hid (show listI r=listW r by unfold listI;rw [H1.out];rfl)
  have HNL:=Lib.hid hnl
  have HTO:=Lib.hid (tagO_rep (key:=key) H1.out H4.out)
  have HLE:=Lib.hid (show legI l r.ins=legalW l r.ins by unfold legI;rw [H2.out];rfl)
  have htg:0≤r.tag:=HF.out.2.2.2.1.1
  obtain ⟨tc,htc⟩:∃ b,decide (r.tag=tagW key (listW r))=b:=⟨_,rfl⟩
  have HTC:=Lib.hid htc
  clear hnl htc
  refine wp_region_grow 7 (by kernel_rfl) (by kernel_rfl) (by kernel_rfl) (fun a b=>Below a.heap.size a b) (fun mq w'=>Below W.heap.size W w') (fun iq v w'=>match iq with|0=>(v=.int .i64 key)|1=>(v=repV r si sh)|2=>(∃ A c,v=.slice A NL c∧Ow 0 w' 3 1 A NL c (cellsI (listW r)))|3=>(v=.pointer (some ⟨w1.heap.size+1,5,none⟩))|4=>(v=.int .i64 r.tag)|5=>(v=.bool tc)|6=>(v=.bool (!tc))|_=>True) (fun sq=>{ tmps:=#[Value.slice a0 len0 cap0,undef,Value.bool false,Value.pointer (some (⟨w1.heap.size,0,none⟩:Addr)),Value.int .i64 key,Value.pointer (some (⟨w1.heap.size+1,0,none⟩:Addr)),Value.int .i64 V,Value.int .i64 V,Value.slice a0 len0 cap0,Value.int .i64 (len0:Int),Value.bool false,Value.tuple #[lvlV l ws gs,Value.int .i64 key,repV r si sh],Value.slice a0 len0 cap0,Value.tuple #[lvlV l ws gs,Value.int .i64 key,repV r si sh],lvlV l ws gs,Value.int .i64 key,repV r si sh,Value.agg #[Value.int .i64 l.id,Value.int .i64 l.ticks,Value.int .i64 l.sx,Value.int .i64 l.sy,Value.slice ws.a ws.n ws.c,Value.slice gs.a gs.n gs.c,Value.int .i64 l.f.1,Value.int .i64 l.f.2.1,Value.int .i64 l.f.2.2.1,Value.int .i64 l.f.2.2.2,Value.int .i64 l.bans],Value.int .i64 key,Value.agg #[Value.int .i64 r.lv,Value.int .i64 r.pl,Value.int .i64 r.sc,Value.slice si.a si.n si.c,Value.slice sh.a sh.n sh.c,Value.int .i64 r.tag],Value.int .i64 V,Value.agg #[Value.int .i64 l.id,Value.int .i64 l.ticks,Value.int .i64 l.sx,Value.int .i64 l.sy,Value.slice ws.a ws.n ws.c,Value.slice gs.a gs.n gs.c,Value.int .i64 l.f.1,Value.int .i64 l.f.2.1,Value.int .i64 l.f.2.2.1,Value.int .i64 l.f.2.2.2,Value.int .i64 l.bans],Value.int .i64 key,Value.agg #[Value.int .i64 r.lv,Value.int .i64 r.pl,Value.int .i64 r.sc,Value.slice si.a si.n si.c,Value.slice sh.a sh.n sh.c,Value.int .i64 r.tag],Value.int .i64 V,Value.int .i64 V,Value.int .i64 V,Value.bool false,Value.bool false,Value.bool false,undef,undef,undef,Value.bool false,Value.agg #[Value.int .i64 r.lv,Value.int .i64 r.pl,Value.int .i64 r.sc,Value.slice si.a si.n si.c,Value.slice sh.a sh.n sh.c,Value.int .i64 r.tag],Value.bool true,Value.bool false,undef,undef,Value.bool false,Value.agg #[Value.int .i64 l.id,Value.int .i64 l.ticks,Value.int .i64 l.sx,Value.int .i64 l.sy,Value.slice ws.a ws.n ws.c,Value.slice gs.a gs.n gs.c,Value.int .i64 l.f.1,Value.int .i64 l.f.2.1,Value.int .i64 l.f.2.2.1,Value.int .i64 l.f.2.2.2,Value.int .i64 l.bans],Value.bool true,Value.bool false,Value.bool false,Value.pointer (some (⟨w1.heap.size,0,none⟩:Addr)),Value.int .i64 l.id,Value.pointer (some (⟨w1.heap.size+1,0,none⟩:Addr)),Value.int .i64 r.lv,Value.bool false,Value.bool false,undef,undef,Value.bool false,Value.int .i64 key,Value.bool false,Value.bool false,Value.int .i64 key,Value.bool false,Value.bool false,undef,undef,undef,sq 0,sq 1,sq 2,sq 3,sq 4,sq 5,sq 6,undef,undef,undef,undef,undef,undef,undef,undef,undef,undef,undef,undef,undef,undef,undef,undef,undef,undef,undef,undef],defers:=[] }) (fun _=>undef) ?_ ?_ ?_ ?_
  ·rintro iq v a b hg h
   match iq,h with
   | 0,h=>exact h
   | 1,h=>exact h
   | 2,h=>exact (by obtain ⟨A,c,rfl,ho⟩:=h;exact ⟨A,c,rfl,Ow.next ho hg⟩)
   | 3,h=>exact h
   | 4,h=>exact h
   | 5,h=>exact h
   | 6,h=>exact h
   | (kq+7),_=>exact trivial
  ·exact ⟨rfl,rfl,rfl,Nat.le_refl _,fun _ _=>rfl⟩
  ·intro mq sq w' iq oq hmq hiq hoq hJ hd Kq hK
   have hiq':iq=0∨iq=1∨iq=2∨iq=3∨iq=4∨iq=5∨iq=6:=by omega
   rcases hiq' with rfl|rfl|rfl|rfl|rfl|rfl|rfl
   ·cases (show some _=some oq from hoq)
    have hK':=hK
    simp only [updV,Nat.reduceEqDiff,↓reduceIte] at hK'
    clear hK hd
    generalize sq 0=x0,sq 1=x1,sq 2=x2,sq 3=x3,sq 4=x4,sq 5=x5,sq 6=x6 at *
    go_simp
    exact hK' _ _ (Below.refl _ _) hJ rfl
   ·cases (show some _=some oq from hoq)
    have hK':=hK
    simp only [updV,Nat.reduceEqDiff,↓reduceIte] at hK'
    clear hK hd
    generalize sq 0=x0,sq 1=x1,sq 2=x2,sq 3=x3,sq 4=x4,sq 5=x5,sq 6=x6 at *
    have hcc:=fun q=>(KX.out.next hJ).cell q
    go_simp
    exact hK' _ _ (Below.refl _ _) hJ rfl
   ·cases (show some _=some oq from hoq)
    have d1:=hd 1 (by kernel_rfl) (by decide)
    have hK':=hK
    simp only [updV,Nat.reduceEqDiff,↓reduceIte] at hK'
    clear hK hd
    generalize sq 0=x0,sq 1=x1,sq 2=x2,sq 3=x3,sq 4=x4,sq 5=x5,sq 6=x6 at *
    obtain rfl:=d1
    go_simp
    refine (implReplayList_any r si sh _ (HR.out.below hJ)).mono ?_
    rintro e w3 ⟨A3,c3,rfl,ho,hb⟩
    rw [HLI.out,HNL.out] at ho
    rw [HLI.out,HNL.out]
    exact hK' _ _ hb (below_next hJ hb) ⟨_,_,rfl,Ow.mono ho (Nat.zero_le _)⟩
   ·cases (show some _=some oq from hoq)
    have hK':=hK
    simp only [updV,Nat.reduceEqDiff,↓reduceIte] at hK'
    clear hK hd
    generalize sq 0=x0,sq 1=x1,sq 2=x2,sq 3=x3,sq 4=x4,sq 5=x5,sq 6=x6 at *
    go_simp
    exact hK' _ _ (Below.refl _ _) hJ rfl
   ·cases (show some _=some oq from hoq)
    have d3:=hd 3 (by kernel_rfl) (by decide)
    have hK':=hK
    simp only [updV,Nat.reduceEqDiff,↓reduceIte] at hK'
    clear hK hd
    generalize sq 0=x0,sq 1=x1,sq 2=x2,sq 3=x3,sq 4=x4,sq 5=x5,sq 6=x6 at *
    obtain rfl:=d3
    have hcc:=(KX.out.next hJ).cell 5
    go_simp
    exact hK' _ _ (Below.refl _ _) hJ rfl
   ·cases (show some _=some oq from hoq)
    have d0:=hd 0 (by kernel_rfl) (by decide)
    have d2:=hd 2 (by kernel_rfl) (by decide)
    have d4:=hd 4 (by kernel_rfl) (by decide)
    have hK':=hK
    simp only [updV,Nat.reduceEqDiff,↓reduceIte] at hK'
    clear hK hd
    generalize sq 0=x0,sq 1=x1,sq 2=x2,sq 3=x3,sq 4=x4,sq 5=x5,sq 6=x6 at *
    obtain rfl:=d0
    obtain ⟨A,c,rfl,ho⟩:=d2
    obtain rfl:=d4
    go_simp
    refine (tagCheck_any key r.tag A NL c (listW r) _ ho.rdI hnb).mono ?_
    rintro e w3 ⟨rfl,hb⟩
    rw [HTO.out,HTC.out,decide_eq_true htg,Bool.true_and]
    exact hK' _ _ hb (below_next hJ hb) rfl
   ·cases (show some _=some oq from hoq)
    have d5:=hd 5 (by kernel_rfl) (by decide)
    have hK':=hK
    simp only [updV,Nat.reduceEqDiff,↓reduceIte] at hK'
    clear hK hd
    generalize sq 0=x0,sq 1=x1,sq 2=x2,sq 3=x3,sq 4=x4,sq 5=x5,sq 6=x6 at *
    obtain rfl:=d5
    go_simp
    exact hK' _ _ (Below.refl _ _) hJ rfl
  ·intro sq w' hJ hφ
   simp only [List.drop_succ_cons,List.drop_zero]
   have d6:=hφ 6 (by decide)
   clear hφ
   generalize sq 0=x0,sq 1=x1,sq 2=x2,sq 3=x3,sq 4=x4,sq 5=x5,sq 6=x6 at *
   obtain rfl:=d6
   replace HB:=Lib.hid (below_next HB.out hJ)
   replace HL:=Lib.hid (HL.out.below hJ)
   replace HR:=Lib.hid (HR.out.below hJ)
   replace HEE:=Lib.hid (HEE.out.next hJ)
   replace KL:=Lib.hid (KL.out.next hJ)
   replace KX:=Lib.hid (KX.out.next hJ)
   clear hJ cl fl zl cx fx zx
   cases tc
   ·have ht:¬ tagW key (listW r)=r.tag:=fun e=>by have:=HTC.out;rw [e] at this;simp at this
    have hV:V=4:=by
     rcases HV.out with ⟨_,h⟩|⟨h,_⟩|⟨h,_⟩
     ·exact h
     ·exact absurd h ht
     ·exact absurd h ht
    subst hV
    simp only [Bool.not_false]
    go_wp2_with fail
    go_ret
    exact ⟨ret_bool (by simp),HB.out⟩
   have ht:tagW key (listW r)=r.tag:=(of_decide_eq_true HTC.out).symm
   have HT:=Lib.hid ht
   simp only [Bool.not_true]
   clear ht
   have cl:=fun o=>KL.out.cell o
   have fl:=fun o=>KL.out.frozen o
   have zl:=KL.out.lt
   have cx:=fun o=>KX.out.cell o
   have fx:=fun o=>KX.out.frozen o
   have zx:=KX.out.lt
   go_wp2_with fail
   refine (implInputsLegal_any l ws gs si.a si.n si.c r.ins _ HL.out HR.out.1 HR.out.2.2.1.2).mono ?_
   rw [HLE.out]
   rintro e w6 ⟨rfl,hb⟩
   replace KL:=Lib.hid (KL.out.next hb)
   replace KX:=Lib.hid (KX.out.next hb)
   replace HL:=Lib.hid (HL.out.below hb)
   replace HR:=Lib.hid (HR.out.below hb)
   replace HEE:=Lib.hid (HEE.out.next hb)
   replace HB:=Lib.hid (below_next HB.out hb)
   clear hb
   clear cl fl zl cx fx zx
   by_cases h6:0≤legalW l r.ins
   ·have h6':decide (0≤legalW l r.ins)=true:=by simpa using h6
    have hV:V=5:=by
     rcases HV.out with ⟨h,_⟩|⟨_,_,h⟩|⟨_,h,_⟩
     ·exact absurd HT.out h
     ·exact h
     ·omega
    subst hV
    clear h6
    generalize legalW l r.ins=lg at *
    go_wp2_with fail
    go_ret
    exact ⟨ret_bool (by simp),HB.out⟩
   have h6':decide (0≤legalW l r.ins)=false:=by simpa using h6
   have hV:V=0∨V=6∨V=7∨V=8∨V=9:=by
    rcases HV.out with ⟨h,_⟩|⟨_,h,_⟩|⟨_,_,h⟩
    ·exact absurd HT.out h
    ·exact absurd h h6
    ·rw [h]
     exact runV_vals l r
   clear h6 HV HLE
   generalize legalW l r.ins=lg at *
   rcases hV with rfl|rfl|rfl|rfl|rfl
   ·go_wp2_with fail
    go_ret
    exact ⟨ret_bool (by simp),HB.out⟩
   ·go_wp2_with fail
    go_ret
    exact ⟨ret_bool (by simp),HB.out⟩
   ·go_wp2_with fail
    go_ret
    exact ⟨ret_bool (by simp),HB.out⟩
   ·go_wp2_with fail
    go_ret
    exact ⟨ret_bool (by simp),HB.out⟩
   ·go_wp2_with fail
    go_ret
    exact ⟨ret_bool (by simp),HB.out⟩
end Go.Proofs.YtpcjdalgebgofaaGreatDoorY

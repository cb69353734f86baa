/-
  Lemmas and contracts: YHr. No condition.
-/
import Derived.Deep.CutBlock
import Derived.Test.YtpcjdalgebgofaaGreatDoorKa36
import Derived.Test.YtpcjdalgebgofaaGreatDoorKa37
set_option linter.unusedSimpArgs false
set_option linter.unusedVariables false
set_option linter.unusedSectionVars false
namespace Go.Proofs.YtpcjdalgebgofaaGreatDoorY
open Go.RowKit Go.Sort
theorem runV_of {l:Lvl} {key:Int} {r:Rep} {V:Int} (h:Verd2 l key r V) (hv:V=0∨6≤V):repOk r=true∧okW l r.ins=true∧V=runV l r:=by
 cases h with
 | text=>omega
 | level=>omega
 | key=>omega
 | late _ h1 h2 h3 h4 h5 =>
  rcases h5 with ⟨_,rfl⟩|⟨_,_,rfl⟩|⟨_,h6,h7⟩
  ·omega
  ·omega
  ·refine ⟨h1,?_,h7⟩
   unfold okW
   rw [h2,decide_eq_true h6]
   rfl
set_option maxRecDepth 100000 in
set_option maxHeartbeats 8000000 in
theorem walk_orderRun (E:Nat→Addr) (a0:Option Addr) (len0 cap0:Nat) (z0:List Int) (w:World) (hE:Errs E w) (hr:RdI .u8 w a0 len0 z0) (hz:∀ z ∈ z0,0≤z∧z≤255) (hlc:len0≤cap0) (hcm:cap0≤maxLen) :
  Calls Qy.prog 5 #[.slice a0 len0 cap0] w fun e w'=>e=.returned (.bool true)∧Below w.heap.size w w':=by
 by_cases hsz:(1048576:Int)<len0
 ·clear hr hlc hcm hz hE
  go_enter Qy.func5,Tryz.ntmps5
  go_wp2
  go_ret
  exact ⟨rfl,Below.refl _ _⟩
 have H1:=Lib.hid (drawVerifyReplay_any a0 len0 cap0 z0 w hr hz hlc hcm)
 have HEE:=Lib.hid hE
 clear hr hE hz hlc hcm
 go_enter Qy.func5,Tryz.ntmps5
 go_wp2_with fail
 refine H1.out.mono ?_
 rintro e w1 ⟨l,ws,gs,key,r,si,sh,rfl,hl,hrr,hb⟩
 have hz1:=hb.size
 clear H1
 go_upto_region 4 with (fail)
 refine into_world (fun Y=>Below w.heap.size w Y∧Blk Y w1.heap.size 29 (lvlC l ws gs)∧Blk Y (w1.heap.size+1) 33 (repC r si sh)∧RdL Y l ws gs∧RdR Y r si sh) ⟨(hb.alloc hz1 _).alloc (by simp;omega) _,(Blk.new _ _ _).alloc _,Blk.newAt _ _ _ _ (by simp),(hl.below (ba (Below.refl _ _))).below (ba (Below.refl _ _)),(hrr.below (ba (Below.refl _ _))).below (ba (Below.refl _ _))⟩ ?_
 clear hb hl hrr
 rintro Y ⟨HB,KL,KX,HL,HR⟩
 replace HB:=Lib.hid HB
 replace KL:=Lib.hid KL
 replace KX:=Lib.hid KX
 replace HL:=Lib.hid HL
 replace HR:=Lib.hid HR
 replace HEE:=Lib.hid (HEE.out.next HB.out)
 have cl:=fun o=>KL.out.cell o
 have fl:=fun o=>KL.out.frozen o
 have zl:=KL.out.lt
 have cx:=fun o=>KX.out.cell o
 have fx:=fun o=>KX.out.frozen o
 have zx:=KX.out.lt
 go_wp2_with fail
 refine (verifyReplay_any E l ws gs key r si sh _ HEE.out HL.out HR.out).mono ?_
 rintro e w2 ⟨rfl,hb⟩
 replace KL:=Lib.hid (KL.out.next hb)
 replace KX:=Lib.hid (KX.out.next hb)
 replace HL:=Lib.hid (HL.out.below hb)
 replace HR:=Lib.hid (HR.out.below hb)
 replace HEE:=Lib.hid (HEE.out.next hb)
 replace HB:=Lib.hid (below_next HB.out hb)
 clear hb
 clear cl fl zl cx fx zx
 have cl:=fun o=>KL.out.cell o
 have fl:=fun o=>KL.out.frozen o
 have zl:=KL.out.lt
 have cx:=fun o=>KX.out.cell o
 have fx:=fun o=>KX.out.frozen o
 have zx:=KX.out.lt
 go_wp2_with fail
 refine (specVerifyReplay_any l ws gs key r si sh _ HL.out HR.out).mono ?_
 rintro e w3 ⟨rfl,hb⟩
 replace KL:=Lib.hid (KL.out.next hb)
 replace KX:=Lib.hid (KX.out.next hb)
 replace HL:=Lib.hid (HL.out.below hb)
 replace HR:=Lib.hid (HR.out.below hb)
 replace HEE:=Lib.hid (HEE.out.next hb)
 replace HB:=Lib.hid (below_next HB.out hb)
 clear hb
 clear cl fl zl cx fx zx
 have hv:=verd l key r
 generalize verdW l key r=V at *
 have h2:=verd2 hv
 have hb9:=verd_vals hv
 clear hv
 by_cases h0:V=0
 ·obtain ⟨hrep,hok,hrv⟩:=runV_of h2 (.inl h0)
  have h0':(V == 0)=true:=by simpa using h0
  have h0n:(V != 0)=false:=by simpa using h0
  have hv:=h2
  clear h0 h2
  have HV:=Lib.hid hrv
  have HF:=Lib.hid (repOk_facts hrep)
  have hsl:=HR.out.1.len
  have hrt:runToW l r.ins si.n=(runW l r.ins r.ins.length,true):=by
   unfold runToW
   rw [hok,show inR (si.n:Int) 0 r.ins.length=true by simp [inR];omega,hsl]
   rfl
  have htk:=(runW_tick l r.ins r.ins.length (by have:=HF.out.2.2.2.2.2.2.1;omega)).2
  obtain ⟨⟨tick,ax,ay,fx,fy,turn,gate,dn,ov⟩,hcr⟩:∃ q,runW l r.ins r.ins.length=q:=⟨_,rfl⟩
  rw [hcr] at hrt htk
  have HCR:=Lib.hid hcr
  have HRT:=Lib.hid hrt
  clear hrt hcr hrv hrep hok hv
  have cl:=fun o=>KL.out.cell o
  have fl:=fun o=>KL.out.frozen o
  have zl:=KL.out.lt
  have cx:=fun o=>KX.out.cell o
  have fx:=fun o=>KX.out.frozen o
  have zx:=KX.out.lt
  go_wp2_with fail
  refine (implRunTo_any l ws gs si.a si.n si.c si.n r.ins _ HL.out HR.out.1 HR.out.2.2.1.2).mono ?_
  rw [HRT.out]
  rintro e w4 ⟨rfl,hb⟩
  replace KL:=Lib.hid (KL.out.next hb)
  replace KX:=Lib.hid (KX.out.next hb)
  replace HL:=Lib.hid (HL.out.below hb)
  replace HR:=Lib.hid (HR.out.below hb)
  replace HEE:=Lib.hid (HEE.out.next hb)
  replace HB:=Lib.hid (below_next HB.out hb)
  clear hb
  clear cl fl zl cx fx zx HRT
  rw [show carV ⟨tick,ax,ay,fx,fy,turn,gate,dn,ov⟩=.agg #[.int .i64 tick,.int .i64 ax,.int .i64 ay,.int .i64 fx,.int .i64 fy,.int .i64 turn,.int .i64 gate,.bool dn,.bool ov] from rfl]
  go_upto_block 0 with (fail)
  refine into_world (fun Z=>Below w.heap.size w Z∧Blk Z w1.heap.size 29 (lvlC l ws gs)∧Blk Z (w1.heap.size+1) 33 (repC r si sh)∧Blk Z w4.heap.size 45 #[.int .i64 tick,.int .i64 ax,.int .i64 ay,.int .i64 fx,.int .i64 fy,.int .i64 turn,.int .i64 gate,.bool dn,.bool ov]∧RdL Z l ws gs∧RdR Z r si sh) ⟨HB.out.alloc HB.out.size _,KL.out.alloc _,KX.out.alloc _,Blk.new _ _ _,HL.out.below (ba (Below.refl _ _)),HR.out.below (ba (Below.refl _ _))⟩ ?_
  clear HB KL KX HL HR HEE
  rintro Z ⟨HB,KL,KX,KS,HL,HR⟩
  replace HB:=Lib.hid HB
  replace KL:=Lib.hid KL
  replace KX:=Lib.hid KX
  replace KS:=Lib.hid KS
  replace HL:=Lib.hid HL
  replace HR:=Lib.hid HR
  have cs:=fun o=>KS.out.cell o
  have fs:=fun o=>KS.out.frozen o
  have zs:=KS.out.lt
  cases ov
  rotate_left
  ·have hv:V=6:=by rw [HV.out];unfold runV;simp [runV,HCR.out]
   subst hv
   clear HV
   go_wp2_with fail
   go_ret
   exact ⟨ret_bool (by simp),HB.out⟩
  obtain ⟨hh,hhe⟩:∃ n,(hashesW l r.ins).length=n:=⟨_,rfl⟩
  have hhl:=hashesW_len l r.ins
  rw [hhe] at hhl
  have HHL:=Lib.hid hhe
  have h64:sh.n≤64:=by have h1:=HF.out.2.2.2.2.2.2.1;have h2:=HF.out.2.2.2.2.2.2.2;have h3:=HR.out.2.1.len;omega
  have hsi:si.n≤1048576:=HR.out.2.2.1.2
  obtain ⟨dv,hdv⟩:∃ d,divW (hashesW l r.ins) r.hs=d:=⟨_,rfl⟩
  have HDV:=Lib.hid hdv
  clear hhe hdv
  go_upto_region 11 with (fail)
  clear cs fs zs
  obtain ⟨W,hW⟩:∃ W,W=Z:=⟨_,rfl⟩
  rw [← hW] at HB HL HR KL KX KS ⊢
  clear hW
  refine wp_region_grow 8 (by kernel_rfl) (by kernel_rfl) (by kernel_rfl) (fun a b=>Below a.heap.size a b) (fun mq w'=>Below W.heap.size W w') (fun iq v w'=>match iq with|0=>(v=lvlV l ws gs)|1=>(v=.pointer (some ⟨w1.heap.size+1,3,none⟩))|2=>(v=.slice si.a si.n si.c)|3=>(∃ B c',v=.slice B hh c'∧Ow 0 w' 3 1 B hh c' (cellsI (hashesW l r.ins)))|4=>(v=.pointer (some ⟨w1.heap.size+1,4,none⟩))|5=>(v=.slice sh.a sh.n sh.c)|6=>(v=.int .i64 dv)|7=>(v=.bool (decide (0≤dv)))|_=>True) (fun sq=>{ tmps:=#[Value.slice a0 len0 cap0,undef,Value.bool false,Value.pointer (some (⟨w1.heap.size,0,none⟩:Addr)),Value.int .i64 key,Value.pointer (some (⟨w1.heap.size+1,0,none⟩:Addr)),Value.int .i64 V,Value.int .i64 V,Value.pointer (some (⟨w4.heap.size,0,none⟩:Addr)),Value.bool true,Value.slice a0 len0 cap0,Value.int .i64 (len0:Int),Value.bool false,Value.tuple #[lvlV l ws gs,Value.int .i64 key,repV r si sh],Value.slice a0 len0 cap0,Value.tuple #[lvlV l ws gs,Value.int .i64 key,repV r si sh],lvlV l ws gs,Value.int .i64 key,repV r si sh,Value.agg #[Value.int .i64 l.id,Value.int .i64 l.ticks,Value.int .i64 l.sx,Value.int .i64 l.sy,Value.slice ws.a ws.n ws.c,Value.slice gs.a gs.n gs.c,Value.int .i64 l.f.1,Value.int .i64 l.f.2.1,Value.int .i64 l.f.2.2.1,Value.int .i64 l.f.2.2.2,Value.int .i64 l.bans],Value.int .i64 key,Value.agg #[Value.int .i64 r.lv,Value.int .i64 r.pl,Value.int .i64 r.sc,Value.slice si.a si.n si.c,Value.slice sh.a sh.n sh.c,Value.int .i64 r.tag],Value.int .i64 V,Value.agg #[Value.int .i64 l.id,Value.int .i64 l.ticks,Value.int .i64 l.sx,Value.int .i64 l.sy,Value.slice ws.a ws.n ws.c,Value.slice gs.a gs.n gs.c,Value.int .i64 l.f.1,Value.int .i64 l.f.2.1,Value.int .i64 l.f.2.2.1,Value.int .i64 l.f.2.2.2,Value.int .i64 l.bans],Value.int .i64 key,Value.agg #[Value.int .i64 r.lv,Value.int .i64 r.pl,Value.int .i64 r.sc,Value.slice si.a si.n si.c,Value.slice sh.a sh.n sh.c,Value.int .i64 r.tag],Value.int .i64 V,Value.int .i64 V,Value.int .i64 V,Value.bool false,Value.bool false,Value.int .i64 V,Value.bool false,Value.bool false,undef,undef,Value.bool false,Value.bool false,undef,undef,undef,Value.tuple #[Value.agg #[Value.int .i64 tick,Value.int .i64 ax,Value.int .i64 ay,Value.int .i64 fx,Value.int .i64 fy,Value.int .i64 turn,Value.int .i64 gate,Value.bool dn,Value.bool false],Value.bool true],Value.agg #[Value.int .i64 l.id,Value.int .i64 l.ticks,Value.int .i64 l.sx,Value.int .i64 l.sy,Value.slice ws.a ws.n ws.c,Value.slice gs.a gs.n gs.c,Value.int .i64 l.f.1,Value.int .i64 l.f.2.1,Value.int .i64 l.f.2.2.1,Value.int .i64 l.f.2.2.2,Value.int .i64 l.bans],Value.pointer (some (⟨w1.heap.size+1,3,none⟩:Addr)),Value.slice si.a si.n si.c,Value.pointer (some (⟨w1.heap.size+1,3,none⟩:Addr)),Value.slice si.a si.n si.c,Value.int .i64 (si.n:Int),Value.tuple #[Value.agg #[Value.int .i64 tick,Value.int .i64 ax,Value.int .i64 ay,Value.int .i64 fx,Value.int .i64 fy,Value.int .i64 turn,Value.int .i64 gate,Value.bool dn,Value.bool false],Value.bool true],Value.agg #[Value.int .i64 tick,Value.int .i64 ax,Value.int .i64 ay,Value.int .i64 fx,Value.int .i64 fy,Value.int .i64 turn,Value.int .i64 gate,Value.bool dn,Value.bool false],Value.bool true,Value.bool false,Value.pointer (some (⟨w4.heap.size,8,none⟩:Addr)),Value.bool false,undef,undef,undef,undef,undef,undef,sq 0,sq 1,sq 2,sq 3,sq 4,sq 5,sq 6,sq 7,undef,undef,undef,undef,undef,undef,undef,undef,undef,undef,undef,undef,undef,undef,undef,undef,undef,undef,undef,undef,undef,undef,undef,undef,undef,undef,undef,undef,undef,undef,undef,undef,undef,undef,undef,undef,undef,undef],defers:=[] }) (fun _=>undef) ?_ ?_ ?_ ?_
  ·rintro iq v a b hg h
   match iq,h with
   | 0,h=>exact h
   | 1,h=>exact h
   | 2,h=>exact h
   | 3,h=>exact (by obtain ⟨B,c',rfl,ho⟩:=h;exact ⟨B,c',rfl,Ow.next ho hg⟩)
   | 4,h=>exact h
   | 5,h=>exact h
   | 6,h=>exact h
   | 7,h=>exact h
   | (kq+8),_=>exact trivial
  ·exact ⟨rfl,rfl,rfl,Nat.le_refl _,fun _ _=>rfl⟩
  ·intro mq sq w' iq oq hmq hiq hoq hJ hd Kq hK
   have hiq':iq=0∨iq=1∨iq=2∨iq=3∨iq=4∨iq=5∨iq=6∨iq=7:=by omega
   rcases hiq' with rfl|rfl|rfl|rfl|rfl|rfl|rfl|rfl
   ·cases (show some _=some oq from hoq)
    have hK':=hK
    simp only [updV,Nat.reduceEqDiff,↓reduceIte] at hK'
    clear hK hd
    generalize sq 0=x0,sq 1=x1,sq 2=x2,sq 3=x3,sq 4=x4,sq 5=x5,sq 6=x6,sq 7=x7 at *
    have hcc:=fun q=>(KL.out.next hJ).cell q
    go_simp
    exact hK' _ _ (Below.refl _ _) hJ rfl
   ·cases (show some _=some oq from hoq)
    have hK':=hK
    simp only [updV,Nat.reduceEqDiff,↓reduceIte] at hK'
    clear hK hd
    generalize sq 0=x0,sq 1=x1,sq 2=x2,sq 3=x3,sq 4=x4,sq 5=x5,sq 6=x6,sq 7=x7 at *
    go_simp
    exact hK' _ _ (Below.refl _ _) hJ rfl
   ·cases (show some _=some oq from hoq)
    have d1:=hd 1 (by kernel_rfl) (by decide)
    have hK':=hK
    simp only [updV,Nat.reduceEqDiff,↓reduceIte] at hK'
    clear hK hd
    generalize sq 0=x0,sq 1=x1,sq 2=x2,sq 3=x3,sq 4=x4,sq 5=x5,sq 6=x6,sq 7=x7 at *
    obtain rfl:=d1
    have hcc:=(KX.out.next hJ).cell 3
    go_simp
    exact hK' _ _ (Below.refl _ _) hJ rfl
   ·cases (show some _=some oq from hoq)
    have d0:=hd 0 (by kernel_rfl) (by decide)
    have d2:=hd 2 (by kernel_rfl) (by decide)
    have hK':=hK
    simp only [updV,Nat.reduceEqDiff,↓reduceIte] at hK'
    clear hK hd
    generalize sq 0=x0,sq 1=x1,sq 2=x2,sq 3=x3,sq 4=x4,sq 5=x5,sq 6=x6,sq 7=x7 at *
    obtain rfl:=d0
    obtain rfl:=d2
    go_simp
    refine (implRunHashes_any l ws gs si.a si.n si.c r.ins _ (HL.out.below hJ) (HR.out.1.below hJ) hsi).mono ?_
    rintro e w4 ⟨B,c',rfl,ho,hb⟩
    rw [HHL.out] at ho ⊢
    exact hK' _ _ hb (below_next hJ hb) ⟨_,_,rfl,Ow.mono ho (Nat.zero_le _)⟩
   ·cases (show some _=some oq from hoq)
    have hK':=hK
    simp only [updV,Nat.reduceEqDiff,↓reduceIte] at hK'
    clear hK hd
    generalize sq 0=x0,sq 1=x1,sq 2=x2,sq 3=x3,sq 4=x4,sq 5=x5,sq 6=x6,sq 7=x7 at *
    go_simp
    exact hK' _ _ (Below.refl _ _) hJ rfl
   ·cases (show some _=some oq from hoq)
    have d4:=hd 4 (by kernel_rfl) (by decide)
    have hK':=hK
    simp only [updV,Nat.reduceEqDiff,↓reduceIte] at hK'
    clear hK hd
    generalize sq 0=x0,sq 1=x1,sq 2=x2,sq 3=x3,sq 4=x4,sq 5=x5,sq 6=x6,sq 7=x7 at *
    obtain rfl:=d4
    have hcc:=(KX.out.next hJ).cell 4
    go_simp
    exact hK' _ _ (Below.refl _ _) hJ rfl
   ·cases (show some _=some oq from hoq)
    have d3:=hd 3 (by kernel_rfl) (by decide)
    have d5:=hd 5 (by kernel_rfl) (by decide)
    have hK':=hK
    simp only [updV,Nat.reduceEqDiff,↓reduceIte] at hK'
    clear hK hd
    generalize sq 0=x0,sq 1=x1,sq 2=x2,sq 3=x3,sq 4=x4,sq 5=x5,sq 6=x6,sq 7=x7 at *
    obtain ⟨B,c',rfl,ho⟩:=d3
    obtain rfl:=d5
    go_simp
    refine (implDivergeFirst_any B sh.a hh c' sh.n sh.c (hashesW l r.ins) r.hs w' ho.rdI (HR.out.2.1.below hJ) hhl h64).mono ?_
    rintro e w4 ⟨rfl,hb⟩
    rw [HDV.out]
    exact hK' _ _ hb (below_next hJ hb) rfl
   ·cases (show some _=some oq from hoq)
    have d6:=hd 6 (by kernel_rfl) (by decide)
    have hK':=hK
    simp only [updV,Nat.reduceEqDiff,↓reduceIte] at hK'
    clear hK hd
    generalize sq 0=x0,sq 1=x1,sq 2=x2,sq 3=x3,sq 4=x4,sq 5=x5,sq 6=x6,sq 7=x7 at *
    obtain rfl:=d6
    go_simp
    exact hK' _ _ (Below.refl _ _) hJ rfl
  ·intro sq w' hJ hφ
   simp only [List.drop_succ_cons,List.drop_zero]
   have d7:=hφ 7 (by decide)
   clear hφ
   generalize sq 0=x0,sq 1=x1,sq 2=x2,sq 3=x3,sq 4=x4,sq 5=x5,sq 6=x6,sq 7=x7 at *
   obtain rfl:=d7
   replace HB:=Lib.hid (below_next HB.out hJ)
   replace KX:=Lib.hid (KX.out.next hJ)
   replace KS:=Lib.hid (KS.out.next hJ)
   clear hJ KL
   by_cases h7:0≤dv
   ·have h7':decide (0≤dv)=true:=by simpa using h7
    have H7:=Lib.hid h7
    simp only [h7']
    clear h7
    have hv:V=7:=by rw [HV.out];unfold runV;simp [runV,HCR.out,HDV.out,H7.out]
    subst hv
    clear HV
    go_wp2_with fail
    go_ret
    exact ⟨ret_bool (by simp),HB.out⟩
   have h7':decide (0≤dv)=false:=by simpa using h7
   have H7:=Lib.hid h7
   simp only [h7']
   clear h7
   have cs:=fun o=>KS.out.cell o
   have fs:=fun o=>KS.out.frozen o
   have zs:=KS.out.lt
   have cx:=fun o=>KX.out.cell o
   have fx:=fun o=>KX.out.frozen o
   have zx:=KX.out.lt
   cases dn
   ·have hv:V=8:=by rw [HV.out];unfold runV;simp [runV,HCR.out,HDV.out,H7.out]
    subst hv
    clear HV
    go_wp2_with fail
    go_ret
    exact ⟨ret_bool (by simp),HB.out⟩
   by_cases h8:tick=(si.n:Int)
   rotate_left
   ·have h8':(tick == (si.n:Int))=false:=by simpa using h8
    have h8n:(tick != (si.n:Int))=true:=by simpa using h8
    have H8:=Lib.hid (show ¬ tick=(r.ins.length:Int) by omega)
    clear h8
    have hv:V=8:=by rw [HV.out];unfold runV;simp [runV,HCR.out,HDV.out,H7.out,H8.out]
    subst hv
    clear HV
    go_wp2_with fail
    go_ret
    exact ⟨ret_bool (by simp),HB.out⟩
   have h8':(tick == (si.n:Int))=true:=by simpa using h8
   have h8n:(tick != (si.n:Int))=false:=by simpa using h8
   have H8:=Lib.hid (show tick=(r.ins.length:Int) by omega)
   by_cases h9:tick=r.sc
   rotate_left
   ·have h9':(tick == r.sc)=false:=by simpa using h9
    have h9n:(tick != r.sc)=true:=by simpa using h9
    have H9:=Lib.hid (show ¬ (r.ins.length:Int)=r.sc by rw [← H8.out];exact h9)
    clear h9 h8
    have hv:V=9:=by rw [HV.out];unfold runV;simp [runV,HCR.out,HDV.out,H7.out,H8.out,H9.out]
    subst hv
    clear HV
    go_wp2_with fail
    go_ret
    exact ⟨ret_bool (by simp),HB.out⟩
   have h9':(tick == r.sc)=true:=by simpa using h9
   have h9n:(tick != r.sc)=false:=by simpa using h9
   have H9:=Lib.hid (show (r.ins.length:Int)=r.sc by rw [← H8.out];exact h9)
   clear h9 h8
   have hv:V=0:=by rw [HV.out];unfold runV;simp [runV,HCR.out,HDV.out,H7.out,H8.out,H9.out]
   subst hv
   clear HV
   go_wp2_with fail
   go_ret
   exact ⟨ret_bool (by simp),HB.out⟩
 have h0':(V == 0)=false:=by simpa using h0
 have h0n:(V != 0)=true:=by simpa using h0
 by_cases h6:V<6
 ·have h6':decide (V<6)=true:=by simpa using h6
  clear h2 h0 h6
  go_wp2_with fail
  go_ret
  exact ⟨ret_bool (by simp),HB.out⟩
 obtain ⟨hrep,hok,hrv⟩:=runV_of h2 (.inr (by omega))
 have h6':decide (V<6)=false:=by simpa using h6
 have hv:=h2
 clear h0 h2 h6
 have HV:=Lib.hid hrv
 have HF:=Lib.hid (repOk_facts hrep)
 have hsl:=HR.out.1.len
 have hrt:runToW l r.ins si.n=(runW l r.ins r.ins.length,true):=by
  unfold runToW
  rw [hok,show inR (si.n:Int) 0 r.ins.length=true by simp [inR];omega,hsl]
  rfl
 have htk:=(runW_tick l r.ins r.ins.length (by have:=HF.out.2.2.2.2.2.2.1;omega)).2
 obtain ⟨⟨tick,ax,ay,fx,fy,turn,gate,dn,ov⟩,hcr⟩:∃ q,runW l r.ins r.ins.length=q:=⟨_,rfl⟩
 rw [hcr] at hrt htk
 have HCR:=Lib.hid hcr
 have HRT:=Lib.hid hrt
 clear hrt hcr hrv hrep hok hv
 have cl:=fun o=>KL.out.cell o
 have fl:=fun o=>KL.out.frozen o
 have zl:=KL.out.lt
 have cx:=fun o=>KX.out.cell o
 have fx:=fun o=>KX.out.frozen o
 have zx:=KX.out.lt
 go_wp2_with fail
 refine (implRunTo_any l ws gs si.a si.n si.c si.n r.ins _ HL.out HR.out.1 HR.out.2.2.1.2).mono ?_
 rw [HRT.out]
 rintro e w4 ⟨rfl,hb⟩
 replace KL:=Lib.hid (KL.out.next hb)
 replace KX:=Lib.hid (KX.out.next hb)
 replace HL:=Lib.hid (HL.out.below hb)
 replace HR:=Lib.hid (HR.out.below hb)
 replace HEE:=Lib.hid (HEE.out.next hb)
 replace HB:=Lib.hid (below_next HB.out hb)
 clear hb
 clear cl fl zl cx fx zx HRT
 rw [show carV ⟨tick,ax,ay,fx,fy,turn,gate,dn,ov⟩=.agg #[.int .i64 tick,.int .i64 ax,.int .i64 ay,.int .i64 fx,.int .i64 fy,.int .i64 turn,.int .i64 gate,.bool dn,.bool ov] from rfl]
 go_upto_block 0 with (fail)
 refine into_world (fun Z=>Below w.heap.size w Z∧Blk Z w1.heap.size 29 (lvlC l ws gs)∧Blk Z (w1.heap.size+1) 33 (repC r si sh)∧Blk Z w4.heap.size 45 #[.int .i64 tick,.int .i64 ax,.int .i64 ay,.int .i64 fx,.int .i64 fy,.int .i64 turn,.int .i64 gate,.bool dn,.bool ov]∧RdL Z l ws gs∧RdR Z r si sh) ⟨HB.out.alloc HB.out.size _,KL.out.alloc _,KX.out.alloc _,Blk.new _ _ _,HL.out.below (ba (Below.refl _ _)),HR.out.below (ba (Below.refl _ _))⟩ ?_
 clear HB KL KX HL HR HEE
 rintro Z ⟨HB,KL,KX,KS,HL,HR⟩
 replace HB:=Lib.hid HB
 replace KL:=Lib.hid KL
 replace KX:=Lib.hid KX
 replace KS:=Lib.hid KS
 replace HL:=Lib.hid HL
 replace HR:=Lib.hid HR
 have cs:=fun o=>KS.out.cell o
 have fs:=fun o=>KS.out.frozen o
 have zs:=KS.out.lt
 cases ov
 rotate_left
 ·have hv:V=6:=by rw [HV.out];unfold runV;simp [runV,HCR.out]
  subst hv
  clear HV
  go_wp2_with fail
  go_ret
  exact ⟨ret_bool (by simp),HB.out⟩
 obtain ⟨hh,hhe⟩:∃ n,(hashesW l r.ins).length=n:=⟨_,rfl⟩
 have hhl:=hashesW_len l r.ins
 rw [hhe] at hhl
 have HHL:=Lib.hid hhe
 have h64:sh.n≤64:=by have h1:=HF.out.2.2.2.2.2.2.1;have h2:=HF.out.2.2.2.2.2.2.2;have h3:=HR.out.2.1.len;omega
 have hsi:si.n≤1048576:=HR.out.2.2.1.2
 obtain ⟨dv,hdv⟩:∃ d,divW (hashesW l r.ins) r.hs=d:=⟨_,rfl⟩
 have HDV:=Lib.hid hdv
 clear hhe hdv
 go_upto_region 11 with (fail)
 clear cs fs zs
 obtain ⟨W,hW⟩:∃ W,W=Z:=⟨_,rfl⟩
 rw [← hW] at HB HL HR KL KX KS ⊢
 clear hW
 refine wp_region_grow 8 (by kernel_rfl) (by kernel_rfl) (by kernel_rfl) (fun a b=>Below a.heap.size a b) (fun mq w'=>Below W.heap.size W w') (fun iq v w'=>match iq with|0=>(v=lvlV l ws gs)|1=>(v=.pointer (some ⟨w1.heap.size+1,3,none⟩))|2=>(v=.slice si.a si.n si.c)|3=>(∃ B c',v=.slice B hh c'∧Ow 0 w' 3 1 B hh c' (cellsI (hashesW l r.ins)))|4=>(v=.pointer (some ⟨w1.heap.size+1,4,none⟩))|5=>(v=.slice sh.a sh.n sh.c)|6=>(v=.int .i64 dv)|7=>(v=.bool (decide (0≤dv)))|_=>True) (fun sq=>{ tmps:=#[Value.slice a0 len0 cap0,undef,Value.bool false,Value.pointer (some (⟨w1.heap.size,0,none⟩:Addr)),Value.int .i64 key,Value.pointer (some (⟨w1.heap.size+1,0,none⟩:Addr)),Value.int .i64 V,Value.int .i64 V,Value.pointer (some (⟨w4.heap.size,0,none⟩:Addr)),Value.bool true,Value.slice a0 len0 cap0,Value.int .i64 (len0:Int),Value.bool false,Value.tuple #[lvlV l ws gs,Value.int .i64 key,repV r si sh],Value.slice a0 len0 cap0,Value.tuple #[lvlV l ws gs,Value.int .i64 key,repV r si sh],lvlV l ws gs,Value.int .i64 key,repV r si sh,Value.agg #[Value.int .i64 l.id,Value.int .i64 l.ticks,Value.int .i64 l.sx,Value.int .i64 l.sy,Value.slice ws.a ws.n ws.c,Value.slice gs.a gs.n gs.c,Value.int .i64 l.f.1,Value.int .i64 l.f.2.1,Value.int .i64 l.f.2.2.1,Value.int .i64 l.f.2.2.2,Value.int .i64 l.bans],Value.int .i64 key,Value.agg #[Value.int .i64 r.lv,Value.int .i64 r.pl,Value.int .i64 r.sc,Value.slice si.a si.n si.c,Value.slice sh.a sh.n sh.c,Value.int .i64 r.tag],Value.int .i64 V,Value.agg #[Value.int .i64 l.id,Value.int .i64 l.ticks,Value.int .i64 l.sx,Value.int .i64 l.sy,Value.slice ws.a ws.n ws.c,Value.slice gs.a gs.n gs.c,Value.int .i64 l.f.1,Value.int .i64 l.f.2.1,Value.int .i64 l.f.2.2.1,Value.int .i64 l.f.2.2.2,Value.int .i64 l.bans],Value.int .i64 key,Value.agg #[Value.int .i64 r.lv,Value.int .i64 r.pl,Value.int .i64 r.sc,Value.slice si.a si.n si.c,Value.slice sh.a sh.n sh.c,Value.int .i64 r.tag],Value.int .i64 V,Value.int .i64 V,Value.int .i64 V,Value.bool false,Value.bool false,Value.int .i64 V,Value.bool true,Value.bool true,Value.int .i64 V,Value.bool false,Value.bool false,Value.bool false,undef,undef,undef,Value.tuple #[Value.agg #[Value.int .i64 tick,Value.int .i64 ax,Value.int .i64 ay,Value.int .i64 fx,Value.int .i64 fy,Value.int .i64 turn,Value.int .i64 gate,Value.bool dn,Value.bool false],Value.bool true],Value.agg #[Value.int .i64 l.id,Value.int .i64 l.ticks,Value.int .i64 l.sx,Value.int .i64 l.sy,Value.slice ws.a ws.n ws.c,Value.slice gs.a gs.n gs.c,Value.int .i64 l.f.1,Value.int .i64 l.f.2.1,Value.int .i64 l.f.2.2.1,Value.int .i64 l.f.2.2.2,Value.int .i64 l.bans],Value.pointer (some (⟨w1.heap.size+1,3,none⟩:Addr)),Value.slice si.a si.n si.c,Value.pointer (some (⟨w1.heap.size+1,3,none⟩:Addr)),Value.slice si.a si.n si.c,Value.int .i64 (si.n:Int),Value.tuple #[Value.agg #[Value.int .i64 tick,Value.int .i64 ax,Value.int .i64 ay,Value.int .i64 fx,Value.int .i64 fy,Value.int .i64 turn,Value.int .i64 gate,Value.bool dn,Value.bool false],Value.bool true],Value.agg #[Value.int .i64 tick,Value.int .i64 ax,Value.int .i64 ay,Value.int .i64 fx,Value.int .i64 fy,Value.int .i64 turn,Value.int .i64 gate,Value.bool dn,Value.bool false],Value.bool true,Value.bool false,Value.pointer (some (⟨w4.heap.size,8,none⟩:Addr)),Value.bool false,undef,undef,undef,undef,undef,undef,sq 0,sq 1,sq 2,sq 3,sq 4,sq 5,sq 6,sq 7,undef,undef,undef,undef,undef,undef,undef,undef,undef,undef,undef,undef,undef,undef,undef,undef,undef,undef,undef,undef,undef,undef,undef,undef,undef,undef,undef,undef,undef,undef,undef,undef,undef,undef,undef,undef,undef,undef],defers:=[] }) (fun _=>undef) ?_ ?_ ?_ ?_
 ·rintro iq v a b hg h
  match iq,h with
  | 0,h=>exact h
  | 1,h=>exact h
  | 2,h=>exact h
  | 3,h=>exact (by obtain ⟨B,c',rfl,ho⟩:=h;exact ⟨B,c',rfl,Ow.next ho hg⟩)
  | 4,h=>exact h
  | 5,h=>exact h
  | 6,h=>exact h
  | 7,h=>exact h
  | (kq+8),_=>exact trivial
 ·exact ⟨rfl,rfl,rfl,Nat.le_refl _,fun _ _=>rfl⟩
 ·intro mq sq w' iq oq hmq hiq hoq hJ hd Kq hK
  have hiq':iq=0∨iq=1∨iq=2∨iq=3∨iq=4∨iq=5∨iq=6∨iq=7:=by omega
  rcases hiq' with rfl|rfl|rfl|rfl|rfl|rfl|rfl|rfl
  ·cases (show some _=some oq from hoq)
   have hK':=hK
   simp only [updV,Nat.reduceEqDiff,↓reduceIte] at hK'
   clear hK hd
   generalize sq 0=x0,sq 1=x1,sq 2=x2,sq 3=x3,sq 4=x4,sq 5=x5,sq 6=x6,sq 7=x7 at *
   have hcc:=fun q=>(KL.out.next hJ).cell q
   go_simp
   exact hK' _ _ (Below.refl _ _) hJ rfl
  ·cases (show some _=some oq from hoq)
   have hK':=hK
   simp only [updV,Nat.reduceEqDiff,↓reduceIte] at hK'
   clear hK hd
   generalize sq 0=x0,sq 1=x1,sq 2=x2,sq 3=x3,sq 4=x4,sq 5=x5,sq 6=x6,sq 7=x7 at *
   go_simp
   exact hK' _ _ (Below.refl _ _) hJ rfl
  ·cases (show some _=some oq from hoq)
   have d1:=hd 1 (by kernel_rfl) (by decide)
   have hK':=hK
   simp only [updV,Nat.reduceEqDiff,↓reduceIte] at hK'
   clear hK hd
   generalize sq 0=x0,sq 1=x1,sq 2=x2,sq 3=x3,sq 4=x4,sq 5=x5,sq 6=x6,sq 7=x7 at *
   obtain rfl:=d1
   have hcc:=(KX.out.next hJ).cell 3
   go_simp
   exact hK' _ _ (Below.refl _ _) hJ rfl
  ·cases (show some _=some oq from hoq)
   have d0:=hd 0 (by kernel_rfl) (by decide)
   have d2:=hd 2 (by kernel_rfl) (by decide)
   have hK':=hK
   simp only [updV,Nat.reduceEqDiff,↓reduceIte] at hK'
   clear hK hd
   generalize sq 0=x0,sq 1=x1,sq 2=x2,sq 3=x3,sq 4=x4,sq 5=x5,sq 6=x6,sq 7=x7 at *
   obtain rfl:=d0
   obtain rfl:=d2
   go_simp
   refine (implRunHashes_any l ws gs si.a si.n si.c r.ins _ (HL.out.below hJ) (HR.out.1.below hJ) hsi).mono ?_
   rintro e w4 ⟨B,c',rfl,ho,hb⟩
   rw [HHL.out] at ho ⊢
   exact hK' _ _ hb (below_next hJ hb) ⟨_,_,rfl,Ow.mono ho (Nat.zero_le _)⟩
  ·cases (show some _=some oq from hoq)
   have hK':=hK
   simp only [updV,Nat.reduceEqDiff,↓reduceIte] at hK'
   clear hK hd
   generalize sq 0=x0,sq 1=x1,sq 2=x2,sq 3=x3,sq 4=x4,sq 5=x5,sq 6=x6,sq 7=x7 at *
   go_simp
   exact hK' _ _ (Below.refl _ _) hJ rfl
  ·cases (show some _=some oq from hoq)
   have d4:=hd 4 (by kernel_rfl) (by decide)
   have hK':=hK
   simp only [updV,Nat.reduceEqDiff,↓reduceIte] at hK'
   clear hK hd
   generalize sq 0=x0,sq 1=x1,sq 2=x2,sq 3=x3,sq 4=x4,sq 5=x5,sq 6=x6,sq 7=x7 at *
   obtain rfl:=d4
   have hcc:=(KX.out.next hJ).cell 4
   go_simp
   exact hK' _ _ (Below.refl _ _) hJ rfl
  ·cases (show some _=some oq from hoq)
   have d3:=hd 3 (by kernel_rfl) (by decide)
   have d5:=hd 5 (by kernel_rfl) (by decide)
   have hK':=hK
   simp only [updV,Nat.reduceEqDiff,↓reduceIte] at hK'
   clear hK hd
   generalize sq 0=x0,sq 1=x1,sq 2=x2,sq 3=x3,sq 4=x4,sq 5=x5,sq 6=x6,sq 7=x7 at *
   obtain ⟨B,c',rfl,ho⟩:=d3
   obtain rfl:=d5
   go_simp
   refine (implDivergeFirst_any B sh.a hh c' sh.n sh.c (hashesW l r.ins) r.hs w' ho.rdI (HR.out.2.1.below hJ) hhl h64).mono ?_
   rintro e w4 ⟨rfl,hb⟩
   rw [HDV.out]
   exact hK' _ _ hb (below_next hJ hb) rfl
  ·cases (show some _=some oq from hoq)
   have d6:=hd 6 (by kernel_rfl) (by decide)
   have hK':=hK
   simp only [updV,Nat.reduceEqDiff,↓reduceIte] at hK'
   clear hK hd
   generalize sq 0=x0,sq 1=x1,sq 2=x2,sq 3=x3,sq 4=x4,sq 5=x5,sq 6=x6,sq 7=x7 at *
   obtain rfl:=d6
   go_simp
   exact hK' _ _ (Below.refl _ _) hJ rfl
 ·intro sq w' hJ hφ
  simp only [List.drop_succ_cons,List.drop_zero]
  have d7:=hφ 7 (by decide)
  clear hφ
  generalize sq 0=x0,sq 1=x1,sq 2=x2,sq 3=x3,sq 4=x4,sq 5=x5,sq 6=x6,sq 7=x7 at *
  obtain rfl:=d7
  replace HB:=Lib.hid (below_next HB.out hJ)
  replace KX:=Lib.hid (KX.out.next hJ)
  replace KS:=Lib.hid (KS.out.next hJ)
  clear hJ KL
  by_cases h7:0≤dv
  ·have h7':decide (0≤dv)=true:=by simpa using h7
   have H7:=Lib.hid h7
   simp only [h7']
   clear h7
   have hv:V=7:=by rw [HV.out];unfold runV;simp [runV,HCR.out,HDV.out,H7.out]
   subst hv
   clear HV
   go_wp2_with fail
   go_ret
   exact ⟨ret_bool (by simp),HB.out⟩
  have h7':decide (0≤dv)=false:=by simpa using h7
  have H7:=Lib.hid h7
  simp only [h7']
  clear h7
  have cs:=fun o=>KS.out.cell o
  have fs:=fun o=>KS.out.frozen o
  have zs:=KS.out.lt
  have cx:=fun o=>KX.out.cell o
  have fx:=fun o=>KX.out.frozen o
  have zx:=KX.out.lt
  cases dn
  ·have hv:V=8:=by rw [HV.out];unfold runV;simp [runV,HCR.out,HDV.out,H7.out]
   subst hv
   clear HV
   go_wp2_with fail
   go_ret
   exact ⟨ret_bool (by simp),HB.out⟩
  by_cases h8:tick=(si.n:Int)
  rotate_left
  ·have h8':(tick == (si.n:Int))=false:=by simpa using h8
   have h8n:(tick != (si.n:Int))=true:=by simpa using h8
   have H8:=Lib.hid (show ¬ tick=(r.ins.length:Int) by omega)
   clear h8
   have hv:V=8:=by rw [HV.out];unfold runV;simp [runV,HCR.out,HDV.out,H7.out,H8.out]
   subst hv
   clear HV
   go_wp2_with fail
   go_ret
   exact ⟨ret_bool (by simp),HB.out⟩
  have h8':(tick == (si.n:Int))=true:=by simpa using h8
  have h8n:(tick != (si.n:Int))=false:=by simpa using h8
  have H8:=Lib.hid (show tick=(r.ins.length:Int) by omega)
  by_cases h9:tick=r.sc
  rotate_left
  ·have h9':(tick == r.sc)=false:=by simpa using h9
   have h9n:(tick != r.sc)=true:=by simpa using h9
   have H9:=Lib.hid (show ¬ (r.ins.length:Int)=r.sc by rw [← H8.out];exact h9)
   clear h9 h8
   have hv:V=9:=by rw [HV.out];unfold runV;simp [runV,HCR.out,HDV.out,H7.out,H8.out,H9.out]
   subst hv
   clear HV
   go_wp2_with fail
   go_ret
   exact ⟨ret_bool (by simp),HB.out⟩
  have h9':(tick == r.sc)=true:=by simpa using h9
  have h9n:(tick != r.sc)=false:=by simpa using h9
  have H9:=Lib.hid (show (r.ins.length:Int)=r.sc by rw [← H8.out];exact h9)
  clear h9 h8
  have hv:V=0:=by rw [HV.out];unfold runV;simp [runV,HCR.out,HDV.out,H7.out,H8.out,H9.out]
  subst hv
  clear HV
  go_wp2_with fail
  go_ret
  exact ⟨ret_bool (by simp),HB.out⟩
end Go.Proofs.YtpcjdalgebgofaaGreatDoorY

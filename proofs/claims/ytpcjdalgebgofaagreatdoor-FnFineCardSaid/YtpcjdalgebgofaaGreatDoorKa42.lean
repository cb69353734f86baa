/-
  Lemmas and contracts: YHf. No condition.
-/
import Derived.Test.YtpcjdalgebgofaaGreatDoorKa16
import Derived.Test.YtpcjdalgebgofaaGreatDoorKa27
import Derived.Test.YtpcjdalgebgofaaGreatDoorKa36
import Derived.Test.YtpcjdalgebgofaaGreatDoorKa37
set_option linter.unusedSimpArgs false
set_option linter.unusedVariables false
set_option linter.unusedSectionVars false
namespace Go.Proofs.YtpcjdalgebgofaaGreatDoorY
open Go.RowKit Go.Sort
theorem legalFrom_val (l:Lvl):∀ (xs:List Inp) (p:Int) (b:Inp) (i:Int),0≤i→(0≤legalFrom l p b xs i∨legalFrom l p b xs i = -1)
 | [],_,_,_,_=>.inr rfl
 |x :: r,p,b,i,hi=>by
  have h:=legalFrom_val l r (if x.z then p+1 else p) x (i+1) (by omega)
  rw [legalFrom]
  generalize (if x.z=true then p+1 else p)=q at *
  split
  ·exact .inl hi
  ·exact h
theorem Fine.legI {l:Lvl} {key:Int} {r:Rep} (h:Fine l key r):legI l r.ins = -1:=by
 unfold Go.Proofs.YtpcjdalgebgofaaGreatDoorY.legI
 rw [h.lvl]
 have h1:=legalFrom_val l r.ins 0 inp0 0 (by omega)
 have h2:legalFrom l 0 inp0 r.ins 0<0:=h.legal
 show legalFrom l 0 inp0 r.ins 0 = -1
 omega
theorem Fine.score {l:Lvl} {key:Int} {r:Rep} (h:Fine l key r):scoreW l r.ins=r.sc:=by
 unfold scoreW
 simp [h.ok,h.dn,h.tick,h.sc]
set_option maxRecDepth 100000 in
set_option maxHeartbeats 8000000 in
theorem walk_fine (E:Nat→Addr) (a0:Option Addr) (len0 cap0:Nat) (z0:List Int) (w:World) (hE:Errs E w) (hr:RdI .u8 w a0 len0 z0) (hz:∀ z ∈ z0,0≤z∧z≤255) (hlc:len0≤cap0) (hcm:cap0≤maxLen) :
  Calls Qy.prog 6 #[.slice a0 len0 cap0] w fun e w'=>e=.returned (.bool true)∧Below w.heap.size w w':=by
 by_cases hsz:(1048576:Int)<len0
 ·clear hr hlc hcm hz hE
  go_enter Qy.func6,Tryz.ntmps6
  go_wp2
  go_ret
  exact ⟨rfl,Below.refl _ _⟩
 have H1:=Lib.hid (drawVerifyReplay_any a0 len0 cap0 z0 w hr hz hlc hcm)
 have HEE:=Lib.hid hE
 clear hr hE hz hlc hcm
 go_enter Qy.func6,Tryz.ntmps6
 go_wp2_with fail
 refine H1.out.mono ?_
 rintro e w1 ⟨l,ws,gs,key,r,si,sh,rfl,hl,hrr,hb⟩
 have hz1:=hb.size
 clear H1
 go_upto_region 4 with (fail)
 refine into_world (fun Y=>Below w.heap.size w Y∧Blk Y w1.heap.size 29 (lvlC l ws gs)∧Blk Y (w1.heap.size+1) 33 (repC r si sh)∧RdL Y l ws gs∧RdR Y r si sh) ⟨(hb.alloc hz1 _).alloc (by simp;omega) _,(Blk.new _ _ _).alloc _,Blk.newAt _ _ _ _ (by simp),(hl.below (ba (Below.refl _ _))).below (ba (Below.refl _ _)),(hrr.below (ba (Below.refl _ _))).below (ba (Below.refl _ _))⟩ ?_
 clear hb hl hrr
 rintro Y ⟨HB,KL,KX,HL,HR⟩
 replace HB:=Lib.hid HB
 replace KL:=Lib.hid KL
 replace KX:=Lib.hid KX
 replace HL:=Lib.hid HL
 replace HR:=Lib.hid HR
 replace HEE:=Lib.hid (HEE.out.next HB.out)
 have cl:=fun o=>KL.out.cell o
 have fl:=fun o=>KL.out.frozen o
 have zl:=KL.out.lt
 have cx:=fun o=>KX.out.cell o
 have fx:=fun o=>KX.out.frozen o
 have zx:=KX.out.lt
 go_wp2_with fail
 refine (verifyReplay_any E l ws gs key r si sh _ HEE.out HL.out HR.out).mono ?_
 rintro e w2 ⟨rfl,hb⟩
 replace KL:=Lib.hid (KL.out.next hb)
 replace KX:=Lib.hid (KX.out.next hb)
 replace HL:=Lib.hid (HL.out.below hb)
 replace HR:=Lib.hid (HR.out.below hb)
 replace HEE:=Lib.hid (HEE.out.next hb)
 replace HB:=Lib.hid (below_next HB.out hb)
 clear hb
 clear cl fl zl cx fx zx
 have cl:=fun o=>KL.out.cell o
 have fl:=fun o=>KL.out.frozen o
 have zl:=KL.out.lt
 have cx:=fun o=>KX.out.cell o
 have fx:=fun o=>KX.out.frozen o
 have zx:=KX.out.lt
 go_wp2_with fail
 refine (specVerifyReplay_any l ws gs key r si sh _ HL.out HR.out).mono ?_
 rintro e w3 ⟨rfl,hb⟩
 replace KL:=Lib.hid (KL.out.next hb)
 replace KX:=Lib.hid (KX.out.next hb)
 replace HL:=Lib.hid (HL.out.below hb)
 replace HR:=Lib.hid (HR.out.below hb)
 replace HEE:=Lib.hid (HEE.out.next hb)
 replace HB:=Lib.hid (below_next HB.out hb)
 clear hb
 clear cl fl zl cx fx zx
 have hv:=verd l key r
 generalize verdW l key r=V at *
 by_cases h0:V=0
 rotate_left
 ·have h0':(V == 0)=false:=by simpa using h0
  have h0n:(V != 0)=true:=by simpa using h0
  clear hv h0
  go_wp2_with fail
  go_ret
  exact ⟨ret_bool (by simp),HB.out⟩
 have HF:=Lib.hid (fine_of hv h0)
 subst h0
 clear hv
 have hsi:si.n≤1048576:=HR.out.2.2.1.2
 have hrep:=repOk_facts HF.out.rep
 have hhn:=HR.out.2.1.len
 have HHL:=Lib.hid hhn
 have HHS:=Lib.hid HF.out.hashes
 have h64:sh.n≤64:=by have h1:=hrep.2.2.2.2.2.2.1;have h2:=hrep.2.2.2.2.2.2.2;omega
 have HLE:=Lib.hid HF.out.legI
 have HSC:=Lib.hid HF.out.score
 obtain ⟨NL,hnl⟩:∃ n:Nat,(listW r).length=n:=⟨_,rfl⟩
 have hnb:NL≤1048576:=by have h1:=hrep;rw [listW_len] at hnl;omega
 have HLI:=Lib.hid (show listI r=listW r by unfold listI;rw [HF.out.rep];rfl)
 have HNL:=Lib.hid hnl
 have HTO:=Lib.hid (tagO_rep (key:=key) HF.out.rep HF.out.ky)
 have htg:0≤r.tag:=hrep.2.2.2.1.1
 have HTC:=Lib.hid (show decide (r.tag=tagW key (listW r))=true by simp [HF.out.tag])
 have HSN:=Lib.hid (show (r.sc == (si.n:Int))=true by have h1:=HF.out.sc;have h2:=HR.out.1.len;simp;omega)
 clear hnl hrep hhn
 go_upto_region 8 with (fail)
 obtain ⟨W,hW⟩:∃ W,W=w3:=⟨_,rfl⟩
 rw [← hW] at HB HL HR KL KX HEE ⊢
 clear hW
 refine wp_region_grow 39 (by kernel_rfl) (by kernel_rfl) (by kernel_rfl) (fun a b=>Below a.heap.size a b) (fun mq w'=>Below W.heap.size W w') (fun iq v w'=>match iq with|0=>(v=lvlV l ws gs)|1=>(v=.pointer (some ⟨w1.heap.size+1,3,none⟩))|2=>(v=.slice si.a si.n si.c)|3=>(v=.int .i64 (-1))|4=>(v=.bool true)|5=>(v=.bool true)|6=>(v=lvlV l ws gs)|7=>(v=.pointer (some ⟨w1.heap.size+1,3,none⟩))|8=>(v=.slice si.a si.n si.c)|9=>(∃ B c',v=.slice B sh.n c'∧Ow 0 w' 3 1 B sh.n c' (cellsI r.hs))|10=>(v=.pointer (some ⟨w1.heap.size+1,4,none⟩))|11=>(v=.slice sh.a sh.n sh.c)|12=>(v=.bool true)|13=>(v=.bool true)|14=>(v=.bool true)|15=>(v=.int .i64 key)|16=>(v=repV r si sh)|17=>(∃ A c,v=.slice A NL c∧Ow 0 w' 3 1 A NL c (cellsI (listW r)))|18=>(v=.pointer (some ⟨w1.heap.size+1,5,none⟩))|19=>(v=.int .i64 r.tag)|20=>(v=.bool true)|21=>(v=.bool true)|22=>(v=.bool true)|23=>(v=lvlV l ws gs)|24=>(v=.pointer (some ⟨w1.heap.size+1,3,none⟩))|25=>(v=.slice si.a si.n si.c)|26=>(v=.int .i64 r.sc)|27=>(v=.pointer (some ⟨w1.heap.size+1,2,none⟩))|28=>(v=.int .i64 r.sc)|29=>(v=.bool true)|30=>(v=.bool true)|31=>(v=.bool true)|32=>(v=.pointer (some ⟨w1.heap.size+1,2,none⟩))|33=>(v=.int .i64 r.sc)|34=>(v=.pointer (some ⟨w1.heap.size+1,3,none⟩))|35=>(v=.slice si.a si.n si.c)|36=>(v=.int .i64 (si.n:Int))|37=>(v=.bool true)|38=>(v=.bool true)|_=>True) (fun sq=>{ tmps:=#[Value.slice a0 len0 cap0,undef,Value.bool false,Value.pointer (some (⟨w1.heap.size,0,none⟩:Addr)),Value.int .i64 key,Value.pointer (some (⟨w1.heap.size+1,0,none⟩:Addr)),Value.int .i64 0,Value.int .i64 0,Value.slice a0 len0 cap0,Value.int .i64 (len0:Int),Value.bool false,Value.tuple #[lvlV l ws gs,Value.int .i64 key,repV r si sh],Value.slice a0 len0 cap0,Value.tuple #[lvlV l ws gs,Value.int .i64 key,repV r si sh],lvlV l ws gs,Value.int .i64 key,repV r si sh,Value.agg #[Value.int .i64 l.id,Value.int .i64 l.ticks,Value.int .i64 l.sx,Value.int .i64 l.sy,Value.slice ws.a ws.n ws.c,Value.slice gs.a gs.n gs.c,Value.int .i64 l.f.1,Value.int .i64 l.f.2.1,Value.int .i64 l.f.2.2.1,Value.int .i64 l.f.2.2.2,Value.int .i64 l.bans],Value.int .i64 key,Value.agg #[Value.int .i64 r.lv,Value.int .i64 r.pl,Value.int .i64 r.sc,Value.slice si.a si.n si.c,Value.slice sh.a sh.n sh.c,Value.int .i64 r.tag],Value.int .i64 0,Value.agg #[Value.int .i64 l.id,Value.int .i64 l.ticks,Value.int .i64 l.sx,Value.int .i64 l.sy,Value.slice ws.a ws.n ws.c,Value.slice gs.a gs.n gs.c,Value.int .i64 l.f.1,Value.int .i64 l.f.2.1,Value.int .i64 l.f.2.2.1,Value.int .i64 l.f.2.2.2,Value.int .i64 l.bans],Value.int .i64 key,Value.agg #[Value.int .i64 r.lv,Value.int .i64 r.pl,Value.int .i64 r.sc,Value.slice si.a si.n si.c,Value.slice sh.a sh.n sh.c,Value.int .i64 r.tag],Value.int .i64 0,Value.int .i64 0,Value.int .i64 0,Value.bool false,Value.bool false,Value.int .i64 0,Value.bool false,Value.bool false,undef,undef,undef,sq 0,sq 1,sq 2,sq 3,sq 4,sq 5,sq 6,sq 7,sq 8,sq 9,sq 10,sq 11,sq 12,sq 13,sq 14,sq 15,sq 16,sq 17,sq 18,sq 19,sq 20,sq 21,sq 22,sq 23,sq 24,sq 25,sq 26,sq 27,sq 28,sq 29,sq 30,sq 31,sq 32,sq 33,sq 34,sq 35,sq 36,sq 37,sq 38],defers:=[] }) (fun _=>undef) ?_ ?_ ?_ ?_
 ·rintro iq v a b hg h
  match iq,h with
  | 0,h=>exact h
  | 1,h=>exact h
  | 2,h=>exact h
  | 3,h=>exact h
  | 4,h=>exact h
  | 5,h=>exact h
  | 6,h=>exact h
  | 7,h=>exact h
  | 8,h=>exact h
  | 9,h=>exact (by obtain ⟨B,c',rfl,ho⟩:=h;exact ⟨B,c',rfl,Ow.next ho hg⟩)
  | 10,h=>exact h
  | 11,h=>exact h
  | 12,h=>exact h
  | 13,h=>exact h
  | 14,h=>exact h
  | 15,h=>exact h
  | 16,h=>exact h
  | 17,h=>exact (by obtain ⟨A,c,rfl,ho⟩:=h;exact ⟨A,c,rfl,Ow.next ho hg⟩)
  | 18,h=>exact h
  | 19,h=>exact h
  | 20,h=>exact h
  | 21,h=>exact h
  | 22,h=>exact h
  | 23,h=>exact h
  | 24,h=>exact h
  | 25,h=>exact h
  | 26,h=>exact h
  | 27,h=>exact h
  | 28,h=>exact h
  | 29,h=>exact h
  | 30,h=>exact h
  | 31,h=>exact h
  | 32,h=>exact h
  | 33,h=>exact h
  | 34,h=>exact h
  | 35,h=>exact h
  | 36,h=>exact h
  | 37,h=>exact h
  | 38,h=>exact h
  | (kq+39),_=>exact trivial
 ·exact ⟨rfl,rfl,rfl,Nat.le_refl _,fun _ _=>rfl⟩
 ·intro mq sq w' iq oq hmq hiq hoq hJ hd Kq hK
  have hiq':iq=0∨iq=1∨iq=2∨iq=3∨iq=4∨iq=5∨iq=6∨iq=7∨iq=8∨iq=9∨iq=10∨iq=11∨iq=12∨iq=13∨iq=14∨iq=15∨iq=16∨iq=17∨iq=18∨iq=19∨iq=20∨iq=21∨iq=22∨iq=23∨iq=24∨iq=25∨iq=26∨iq=27∨iq=28∨iq=29∨iq=30∨iq=31∨iq=32∨iq=33∨iq=34∨iq=35∨iq=36∨iq=37∨iq=38:=by omega
  rcases hiq' with rfl|rfl|rfl|rfl|rfl|rfl|rfl|rfl|rfl|rfl|rfl|rfl|rfl|rfl|rfl|rfl|rfl|rfl|rfl|rfl|rfl|rfl|rfl|rfl|rfl|rfl|rfl|rfl|rfl|rfl|rfl|rfl|rfl|rfl|rfl|rfl|rfl|rfl|rfl
  ·cases (show some _=some oq from hoq)
   have hK':=hK
   simp only [updV,Nat.reduceEqDiff,↓reduceIte] at hK'
   clear hK hd
   generalize sq 0=x0,sq 1=x1,sq 2=x2,sq 3=x3,sq 4=x4,sq 5=x5,sq 6=x6,sq 7=x7,sq 8=x8,sq 9=x9,sq 10=x10,sq 11=x11,sq 12=x12,sq 13=x13,sq 14=x14,sq 15=x15,sq 16=x16,sq 17=x17,sq 18=x18,sq 19=x19,sq 20=x20,sq 21=x21,sq 22=x22,sq 23=x23,sq 24=x24,sq 25=x25,sq 26=x26,sq 27=x27,sq 28=x28,sq 29=x29,sq 30=x30,sq 31=x31,sq 32=x32,sq 33=x33,sq 34=x34,sq 35=x35,sq 36=x36,sq 37=x37,sq 38=x38 at *
   have hcc:=fun q=>(KL.out.next hJ).cell q
   go_simp
   exact hK' _ _ (Below.refl _ _) hJ rfl
  ·cases (show some _=some oq from hoq)
   have hK':=hK
   simp only [updV,Nat.reduceEqDiff,↓reduceIte] at hK'
   clear hK hd
   generalize sq 0=x0,sq 1=x1,sq 2=x2,sq 3=x3,sq 4=x4,sq 5=x5,sq 6=x6,sq 7=x7,sq 8=x8,sq 9=x9,sq 10=x10,sq 11=x11,sq 12=x12,sq 13=x13,sq 14=x14,sq 15=x15,sq 16=x16,sq 17=x17,sq 18=x18,sq 19=x19,sq 20=x20,sq 21=x21,sq 22=x22,sq 23=x23,sq 24=x24,sq 25=x25,sq 26=x26,sq 27=x27,sq 28=x28,sq 29=x29,sq 30=x30,sq 31=x31,sq 32=x32,sq 33=x33,sq 34=x34,sq 35=x35,sq 36=x36,sq 37=x37,sq 38=x38 at *
   go_simp
   exact hK' _ _ (Below.refl _ _) hJ rfl
  ·cases (show some _=some oq from hoq)
   have d1:=hd 1 (by kernel_rfl) (by decide)
   have hK':=hK
   simp only [updV,Nat.reduceEqDiff,↓reduceIte] at hK'
   clear hK hd
   generalize sq 0=x0,sq 1=x1,sq 2=x2,sq 3=x3,sq 4=x4,sq 5=x5,sq 6=x6,sq 7=x7,sq 8=x8,sq 9=x9,sq 10=x10,sq 11=x11,sq 12=x12,sq 13=x13,sq 14=x14,sq 15=x15,sq 16=x16,sq 17=x17,sq 18=x18,sq 19=x19,sq 20=x20,sq 21=x21,sq 22=x22,sq 23=x23,sq 24=x24,sq 25=x25,sq 26=x26,sq 27=x27,sq 28=x28,sq 29=x29,sq 30=x30,sq 31=x31,sq 32=x32,sq 33=x33,sq 34=x34,sq 35=x35,sq 36=x36,sq 37=x37,sq 38=x38 at *
   obtain rfl:=d1
   have hcc:=(KX.out.next hJ).cell 3
   go_simp
   exact hK' _ _ (Below.refl _ _) hJ rfl
  ·cases (show some _=some oq from hoq)
   have d0:=hd 0 (by kernel_rfl) (by decide)
   have d2:=hd 2 (by kernel_rfl) (by decide)
   have hK':=hK
   simp only [updV,Nat.reduceEqDiff,↓reduceIte] at hK'
   clear hK hd
   generalize sq 0=x0,sq 1=x1,sq 2=x2,sq 3=x3,sq 4=x4,sq 5=x5,sq 6=x6,sq 7=x7,sq 8=x8,sq 9=x9,sq 10=x10,sq 11=x11,sq 12=x12,sq 13=x13,sq 14=x14,sq 15=x15,sq 16=x16,sq 17=x17,sq 18=x18,sq 19=x19,sq 20=x20,sq 21=x21,sq 22=x22,sq 23=x23,sq 24=x24,sq 25=x25,sq 26=x26,sq 27=x27,sq 28=x28,sq 29=x29,sq 30=x30,sq 31=x31,sq 32=x32,sq 33=x33,sq 34=x34,sq 35=x35,sq 36=x36,sq 37=x37,sq 38=x38 at *
   obtain rfl:=d0
   obtain rfl:=d2
   go_simp
   refine (implInputsLegal_any l ws gs si.a si.n si.c r.ins _ (HL.out.below hJ) (HR.out.1.below hJ) hsi).mono ?_
   rw [HLE.out]
   rintro e w3 ⟨rfl,hb⟩
   exact hK' _ _ hb (below_next hJ hb) rfl
  ·cases (show some _=some oq from hoq)
   have d3:=hd 3 (by kernel_rfl) (by decide)
   have hK':=hK
   simp only [updV,Nat.reduceEqDiff,↓reduceIte] at hK'
   clear hK hd
   generalize sq 0=x0,sq 1=x1,sq 2=x2,sq 3=x3,sq 4=x4,sq 5=x5,sq 6=x6,sq 7=x7,sq 8=x8,sq 9=x9,sq 10=x10,sq 11=x11,sq 12=x12,sq 13=x13,sq 14=x14,sq 15=x15,sq 16=x16,sq 17=x17,sq 18=x18,sq 19=x19,sq 20=x20,sq 21=x21,sq 22=x22,sq 23=x23,sq 24=x24,sq 25=x25,sq 26=x26,sq 27=x27,sq 28=x28,sq 29=x29,sq 30=x30,sq 31=x31,sq 32=x32,sq 33=x33,sq 34=x34,sq 35=x35,sq 36=x36,sq 37=x37,sq 38=x38 at *
   obtain rfl:=d3
   go_simp
   exact hK' _ _ (Below.refl _ _) hJ rfl
  ·cases (show some _=some oq from hoq)
   have d4:=hd 4 (by kernel_rfl) (by decide)
   have hK':=hK
   simp only [updV,Nat.reduceEqDiff,↓reduceIte] at hK'
   clear hK hd
   generalize sq 0=x0,sq 1=x1,sq 2=x2,sq 3=x3,sq 4=x4,sq 5=x5,sq 6=x6,sq 7=x7,sq 8=x8,sq 9=x9,sq 10=x10,sq 11=x11,sq 12=x12,sq 13=x13,sq 14=x14,sq 15=x15,sq 16=x16,sq 17=x17,sq 18=x18,sq 19=x19,sq 20=x20,sq 21=x21,sq 22=x22,sq 23=x23,sq 24=x24,sq 25=x25,sq 26=x26,sq 27=x27,sq 28=x28,sq 29=x29,sq 30=x30,sq 31=x31,sq 32=x32,sq 33=x33,sq 34=x34,sq 35=x35,sq 36=x36,sq 37=x37,sq 38=x38 at *
   obtain rfl:=d4
   go_simp
   exact hK' _ _ (Below.refl _ _) hJ rfl
  ·cases (show some _=some oq from hoq)
   have d5:=hd 5 (by kernel_rfl) (by decide)
   have hK':=hK
   simp only [updV,Nat.reduceEqDiff,↓reduceIte] at hK'
   clear hK hd
   generalize sq 0=x0,sq 1=x1,sq 2=x2,sq 3=x3,sq 4=x4,sq 5=x5,sq 6=x6,sq 7=x7,sq 8=x8,sq 9=x9,sq 10=x10,sq 11=x11,sq 12=x12,sq 13=x13,sq 14=x14,sq 15=x15,sq 16=x16,sq 17=x17,sq 18=x18,sq 19=x19,sq 20=x20,sq 21=x21,sq 22=x22,sq 23=x23,sq 24=x24,sq 25=x25,sq 26=x26,sq 27=x27,sq 28=x28,sq 29=x29,sq 30=x30,sq 31=x31,sq 32=x32,sq 33=x33,sq 34=x34,sq 35=x35,sq 36=x36,sq 37=x37,sq 38=x38 at *
   obtain rfl:=d5
   have hcc:=fun q=>(KL.out.next hJ).cell q
   go_simp
   exact hK' _ _ (Below.refl _ _) hJ rfl
  ·cases (show some _=some oq from hoq)
   have d5:=hd 5 (by kernel_rfl) (by decide)
   have hK':=hK
   simp only [updV,Nat.reduceEqDiff,↓reduceIte] at hK'
   clear hK hd
   generalize sq 0=x0,sq 1=x1,sq 2=x2,sq 3=x3,sq 4=x4,sq 5=x5,sq 6=x6,sq 7=x7,sq 8=x8,sq 9=x9,sq 10=x10,sq 11=x11,sq 12=x12,sq 13=x13,sq 14=x14,sq 15=x15,sq 16=x16,sq 17=x17,sq 18=x18,sq 19=x19,sq 20=x20,sq 21=x21,sq 22=x22,sq 23=x23,sq 24=x24,sq 25=x25,sq 26=x26,sq 27=x27,sq 28=x28,sq 29=x29,sq 30=x30,sq 31=x31,sq 32=x32,sq 33=x33,sq 34=x34,sq 35=x35,sq 36=x36,sq 37=x37,sq 38=x38 at *
   obtain rfl:=d5
   go_simp
   exact hK' _ _ (Below.refl _ _) hJ rfl
  ·cases (show some _=some oq from hoq)
   have d7:=hd 7 (by kernel_rfl) (by decide)
   have d5:=hd 5 (by kernel_rfl) (by decide)
   have hK':=hK
   simp only [updV,Nat.reduceEqDiff,↓reduceIte] at hK'
   clear hK hd
   generalize sq 0=x0,sq 1=x1,sq 2=x2,sq 3=x3,sq 4=x4,sq 5=x5,sq 6=x6,sq 7=x7,sq 8=x8,sq 9=x9,sq 10=x10,sq 11=x11,sq 12=x12,sq 13=x13,sq 14=x14,sq 15=x15,sq 16=x16,sq 17=x17,sq 18=x18,sq 19=x19,sq 20=x20,sq 21=x21,sq 22=x22,sq 23=x23,sq 24=x24,sq 25=x25,sq 26=x26,sq 27=x27,sq 28=x28,sq 29=x29,sq 30=x30,sq 31=x31,sq 32=x32,sq 33=x33,sq 34=x34,sq 35=x35,sq 36=x36,sq 37=x37,sq 38=x38 at *
   obtain rfl:=d7
   obtain rfl:=d5
   have hcc:=(KX.out.next hJ).cell 3
   go_simp
   exact hK' _ _ (Below.refl _ _) hJ rfl
  ·cases (show some _=some oq from hoq)
   have d6:=hd 6 (by kernel_rfl) (by decide)
   have d8:=hd 8 (by kernel_rfl) (by decide)
   have d5:=hd 5 (by kernel_rfl) (by decide)
   have hK':=hK
   simp only [updV,Nat.reduceEqDiff,↓reduceIte] at hK'
   clear hK hd
   generalize sq 0=x0,sq 1=x1,sq 2=x2,sq 3=x3,sq 4=x4,sq 5=x5,sq 6=x6,sq 7=x7,sq 8=x8,sq 9=x9,sq 10=x10,sq 11=x11,sq 12=x12,sq 13=x13,sq 14=x14,sq 15=x15,sq 16=x16,sq 17=x17,sq 18=x18,sq 19=x19,sq 20=x20,sq 21=x21,sq 22=x22,sq 23=x23,sq 24=x24,sq 25=x25,sq 26=x26,sq 27=x27,sq 28=x28,sq 29=x29,sq 30=x30,sq 31=x31,sq 32=x32,sq 33=x33,sq 34=x34,sq 35=x35,sq 36=x36,sq 37=x37,sq 38=x38 at *
   obtain rfl:=d6
   obtain rfl:=d8
   obtain rfl:=d5
   go_simp
   refine (implRunHashes_any l ws gs si.a si.n si.c r.ins _ (HL.out.below hJ) (HR.out.1.below hJ) hsi).mono ?_
   rintro e w4 ⟨B,c',rfl,ho,hb⟩
   rw [HHS.out,HHL.out] at ho
   rw [HHS.out,HHL.out]
   exact hK' _ _ hb (below_next hJ hb) ⟨_,_,rfl,Ow.mono ho (Nat.zero_le _)⟩
  ·cases (show some _=some oq from hoq)
   have d5:=hd 5 (by kernel_rfl) (by decide)
   have hK':=hK
   simp only [updV,Nat.reduceEqDiff,↓reduceIte] at hK'
   clear hK hd
   generalize sq 0=x0,sq 1=x1,sq 2=x2,sq 3=x3,sq 4=x4,sq 5=x5,sq 6=x6,sq 7=x7,sq 8=x8,sq 9=x9,sq 10=x10,sq 11=x11,sq 12=x12,sq 13=x13,sq 14=x14,sq 15=x15,sq 16=x16,sq 17=x17,sq 18=x18,sq 19=x19,sq 20=x20,sq 21=x21,sq 22=x22,sq 23=x23,sq 24=x24,sq 25=x25,sq 26=x26,sq 27=x27,sq 28=x28,sq 29=x29,sq 30=x30,sq 31=x31,sq 32=x32,sq 33=x33,sq 34=x34,sq 35=x35,sq 36=x36,sq 37=x37,sq 38=x38 at *
   obtain rfl:=d5
   go_simp
   exact hK' _ _ (Below.refl _ _) hJ rfl
  ·cases (show some _=some oq from hoq)
   have d10:=hd 10 (by kernel_rfl) (by decide)
   have d5:=hd 5 (by kernel_rfl) (by decide)
   have hK':=hK
   simp only [updV,Nat.reduceEqDiff,↓reduceIte] at hK'
   clear hK hd
   generalize sq 0=x0,sq 1=x1,sq 2=x2,sq 3=x3,sq 4=x4,sq 5=x5,sq 6=x6,sq 7=x7,sq 8=x8,sq 9=x9,sq 10=x10,sq 11=x11,sq 12=x12,sq 13=x13,sq 14=x14,sq 15=x15,sq 16=x16,sq 17=x17,sq 18=x18,sq 19=x19,sq 20=x20,sq 21=x21,sq 22=x22,sq 23=x23,sq 24=x24,sq 25=x25,sq 26=x26,sq 27=x27,sq 28=x28,sq 29=x29,sq 30=x30,sq 31=x31,sq 32=x32,sq 33=x33,sq 34=x34,sq 35=x35,sq 36=x36,sq 37=x37,sq 38=x38 at *
   obtain rfl:=d10
   obtain rfl:=d5
   have hcc:=(KX.out.next hJ).cell 4
   go_simp
   exact hK' _ _ (Below.refl _ _) hJ rfl
  ·cases (show some _=some oq from hoq)
   have d9:=hd 9 (by kernel_rfl) (by decide)
   have d11:=hd 11 (by kernel_rfl) (by decide)
   have d5:=hd 5 (by kernel_rfl) (by decide)
   have hK':=hK
   simp only [updV,Nat.reduceEqDiff,↓reduceIte] at hK'
   clear hK hd
   generalize sq 0=x0,sq 1=x1,sq 2=x2,sq 3=x3,sq 4=x4,sq 5=x5,sq 6=x6,sq 7=x7,sq 8=x8,sq 9=x9,sq 10=x10,sq 11=x11,sq 12=x12,sq 13=x13,sq 14=x14,sq 15=x15,sq 16=x16,sq 17=x17,sq 18=x18,sq 19=x19,sq 20=x20,sq 21=x21,sq 22=x22,sq 23=x23,sq 24=x24,sq 25=x25,sq 26=x26,sq 27=x27,sq 28=x28,sq 29=x29,sq 30=x30,sq 31=x31,sq 32=x32,sq 33=x33,sq 34=x34,sq 35=x35,sq 36=x36,sq 37=x37,sq 38=x38 at *
   obtain ⟨B,c',rfl,ho⟩:=d9
   obtain rfl:=d11
   obtain rfl:=d5
   go_simp
   refine (sameInts_same _ _ sh.n _ _ r.hs _ ho.rdI (HR.out.2.1.below hJ) (by omega)).mono ?_
   rintro e w4 ⟨rfl,hb⟩
   exact hK' _ _ hb (below_next hJ hb) rfl
  ·cases (show some _=some oq from hoq)
   have d5:=hd 5 (by kernel_rfl) (by decide)
   have d12:=hd 12 (by kernel_rfl) (by decide)
   have hK':=hK
   simp only [updV,Nat.reduceEqDiff,↓reduceIte] at hK'
   clear hK hd
   generalize sq 0=x0,sq 1=x1,sq 2=x2,sq 3=x3,sq 4=x4,sq 5=x5,sq 6=x6,sq 7=x7,sq 8=x8,sq 9=x9,sq 10=x10,sq 11=x11,sq 12=x12,sq 13=x13,sq 14=x14,sq 15=x15,sq 16=x16,sq 17=x17,sq 18=x18,sq 19=x19,sq 20=x20,sq 21=x21,sq 22=x22,sq 23=x23,sq 24=x24,sq 25=x25,sq 26=x26,sq 27=x27,sq 28=x28,sq 29=x29,sq 30=x30,sq 31=x31,sq 32=x32,sq 33=x33,sq 34=x34,sq 35=x35,sq 36=x36,sq 37=x37,sq 38=x38 at *
   obtain rfl:=d5
   obtain rfl:=d12
   go_simp
   exact hK' _ _ (Below.refl _ _) hJ rfl
  ·cases (show some _=some oq from hoq)
   have d13:=hd 13 (by kernel_rfl) (by decide)
   have hK':=hK
   simp only [updV,Nat.reduceEqDiff,↓reduceIte] at hK'
   clear hK hd
   generalize sq 0=x0,sq 1=x1,sq 2=x2,sq 3=x3,sq 4=x4,sq 5=x5,sq 6=x6,sq 7=x7,sq 8=x8,sq 9=x9,sq 10=x10,sq 11=x11,sq 12=x12,sq 13=x13,sq 14=x14,sq 15=x15,sq 16=x16,sq 17=x17,sq 18=x18,sq 19=x19,sq 20=x20,sq 21=x21,sq 22=x22,sq 23=x23,sq 24=x24,sq 25=x25,sq 26=x26,sq 27=x27,sq 28=x28,sq 29=x29,sq 30=x30,sq 31=x31,sq 32=x32,sq 33=x33,sq 34=x34,sq 35=x35,sq 36=x36,sq 37=x37,sq 38=x38 at *
   obtain rfl:=d13
   go_simp
   exact hK' _ _ (Below.refl _ _) hJ rfl
  ·cases (show some _=some oq from hoq)
   have d14:=hd 14 (by kernel_rfl) (by decide)
   have hK':=hK
   simp only [updV,Nat.reduceEqDiff,↓reduceIte] at hK'
   clear hK hd
   generalize sq 0=x0,sq 1=x1,sq 2=x2,sq 3=x3,sq 4=x4,sq 5=x5,sq 6=x6,sq 7=x7,sq 8=x8,sq 9=x9,sq 10=x10,sq 11=x11,sq 12=x12,sq 13=x13,sq 14=x14,sq 15=x15,sq 16=x16,sq 17=x17,sq 18=x18,sq 19=x19,sq 20=x20,sq 21=x21,sq 22=x22,sq 23=x23,sq 24=x24,sq 25=x25,sq 26=x26,sq 27=x27,sq 28=x28,sq 29=x29,sq 30=x30,sq 31=x31,sq 32=x32,sq 33=x33,sq 34=x34,sq 35=x35,sq 36=x36,sq 37=x37,sq 38=x38 at *
   obtain rfl:=d14
   go_simp
   exact hK' _ _ (Below.refl _ _) hJ rfl
  ·cases (show some _=some oq from hoq)
   have d14:=hd 14 (by kernel_rfl) (by decide)
   have hK':=hK
   simp only [updV,Nat.reduceEqDiff,↓reduceIte] at hK'
   clear hK hd
   generalize sq 0=x0,sq 1=x1,sq 2=x2,sq 3=x3,sq 4=x4,sq 5=x5,sq 6=x6,sq 7=x7,sq 8=x8,sq 9=x9,sq 10=x10,sq 11=x11,sq 12=x12,sq 13=x13,sq 14=x14,sq 15=x15,sq 16=x16,sq 17=x17,sq 18=x18,sq 19=x19,sq 20=x20,sq 21=x21,sq 22=x22,sq 23=x23,sq 24=x24,sq 25=x25,sq 26=x26,sq 27=x27,sq 28=x28,sq 29=x29,sq 30=x30,sq 31=x31,sq 32=x32,sq 33=x33,sq 34=x34,sq 35=x35,sq 36=x36,sq 37=x37,sq 38=x38 at *
   obtain rfl:=d14
   have hcc:=fun q=>(KX.out.next hJ).cell q
   go_simp
   exact hK' _ _ (Below.refl _ _) hJ rfl
  ·cases (show some _=some oq from hoq)
   have d16:=hd 16 (by kernel_rfl) (by decide)
   have d14:=hd 14 (by kernel_rfl) (by decide)
   have hK':=hK
   simp only [updV,Nat.reduceEqDiff,↓reduceIte] at hK'
   clear hK hd
   generalize sq 0=x0,sq 1=x1,sq 2=x2,sq 3=x3,sq 4=x4,sq 5=x5,sq 6=x6,sq 7=x7,sq 8=x8,sq 9=x9,sq 10=x10,sq 11=x11,sq 12=x12,sq 13=x13,sq 14=x14,sq 15=x15,sq 16=x16,sq 17=x17,sq 18=x18,sq 19=x19,sq 20=x20,sq 21=x21,sq 22=x22,sq 23=x23,sq 24=x24,sq 25=x25,sq 26=x26,sq 27=x27,sq 28=x28,sq 29=x29,sq 30=x30,sq 31=x31,sq 32=x32,sq 33=x33,sq 34=x34,sq 35=x35,sq 36=x36,sq 37=x37,sq 38=x38 at *
   obtain rfl:=d16
   obtain rfl:=d14
   go_simp
   refine (implReplayList_any r si sh _ (HR.out.below hJ)).mono ?_
   rintro e w3 ⟨A3,c3,rfl,ho,hb⟩
   rw [HLI.out,HNL.out] at ho
   rw [HLI.out,HNL.out]
   exact hK' _ _ hb (below_next hJ hb) ⟨_,_,rfl,Ow.mono ho (Nat.zero_le _)⟩
  ·cases (show some _=some oq from hoq)
   have d14:=hd 14 (by kernel_rfl) (by decide)
   have hK':=hK
   simp only [updV,Nat.reduceEqDiff,↓reduceIte] at hK'
   clear hK hd
   generalize sq 0=x0,sq 1=x1,sq 2=x2,sq 3=x3,sq 4=x4,sq 5=x5,sq 6=x6,sq 7=x7,sq 8=x8,sq 9=x9,sq 10=x10,sq 11=x11,sq 12=x12,sq 13=x13,sq 14=x14,sq 15=x15,sq 16=x16,sq 17=x17,sq 18=x18,sq 19=x19,sq 20=x20,sq 21=x21,sq 22=x22,sq 23=x23,sq 24=x24,sq 25=x25,sq 26=x26,sq 27=x27,sq 28=x28,sq 29=x29,sq 30=x30,sq 31=x31,sq 32=x32,sq 33=x33,sq 34=x34,sq 35=x35,sq 36=x36,sq 37=x37,sq 38=x38 at *
   obtain rfl:=d14
   go_simp
   exact hK' _ _ (Below.refl _ _) hJ rfl
  ·cases (show some _=some oq from hoq)
   have d18:=hd 18 (by kernel_rfl) (by decide)
   have d14:=hd 14 (by kernel_rfl) (by decide)
   have hK':=hK
   simp only [updV,Nat.reduceEqDiff,↓reduceIte] at hK'
   clear hK hd
   generalize sq 0=x0,sq 1=x1,sq 2=x2,sq 3=x3,sq 4=x4,sq 5=x5,sq 6=x6,sq 7=x7,sq 8=x8,sq 9=x9,sq 10=x10,sq 11=x11,sq 12=x12,sq 13=x13,sq 14=x14,sq 15=x15,sq 16=x16,sq 17=x17,sq 18=x18,sq 19=x19,sq 20=x20,sq 21=x21,sq 22=x22,sq 23=x23,sq 24=x24,sq 25=x25,sq 26=x26,sq 27=x27,sq 28=x28,sq 29=x29,sq 30=x30,sq 31=x31,sq 32=x32,sq 33=x33,sq 34=x34,sq 35=x35,sq 36=x36,sq 37=x37,sq 38=x38 at *
   obtain rfl:=d18
   obtain rfl:=d14
   have hcc:=(KX.out.next hJ).cell 5
   go_simp
   exact hK' _ _ (Below.refl _ _) hJ rfl
  ·cases (show some _=some oq from hoq)
   have d15:=hd 15 (by kernel_rfl) (by decide)
   have d17:=hd 17 (by kernel_rfl) (by decide)
   have d19:=hd 19 (by kernel_rfl) (by decide)
   have d14:=hd 14 (by kernel_rfl) (by decide)
   have hK':=hK
   simp only [updV,Nat.reduceEqDiff,↓reduceIte] at hK'
   clear hK hd
   generalize sq 0=x0,sq 1=x1,sq 2=x2,sq 3=x3,sq 4=x4,sq 5=x5,sq 6=x6,sq 7=x7,sq 8=x8,sq 9=x9,sq 10=x10,sq 11=x11,sq 12=x12,sq 13=x13,sq 14=x14,sq 15=x15,sq 16=x16,sq 17=x17,sq 18=x18,sq 19=x19,sq 20=x20,sq 21=x21,sq 22=x22,sq 23=x23,sq 24=x24,sq 25=x25,sq 26=x26,sq 27=x27,sq 28=x28,sq 29=x29,sq 30=x30,sq 31=x31,sq 32=x32,sq 33=x33,sq 34=x34,sq 35=x35,sq 36=x36,sq 37=x37,sq 38=x38 at *
   obtain rfl:=d15
   obtain ⟨A,c,rfl,ho⟩:=d17
   obtain rfl:=d19
   obtain rfl:=d14
   go_simp
   refine (tagCheck_any key r.tag A NL c (listW r) _ ho.rdI hnb).mono ?_
   rintro e w3 ⟨rfl,hb⟩
   rw [HTO.out,HTC.out,decide_eq_true htg,Bool.true_and]
   exact hK' _ _ hb (below_next hJ hb) rfl
  ·cases (show some _=some oq from hoq)
   have d14:=hd 14 (by kernel_rfl) (by decide)
   have d20:=hd 20 (by kernel_rfl) (by decide)
   have hK':=hK
   simp only [updV,Nat.reduceEqDiff,↓reduceIte] at hK'
   clear hK hd
   generalize sq 0=x0,sq 1=x1,sq 2=x2,sq 3=x3,sq 4=x4,sq 5=x5,sq 6=x6,sq 7=x7,sq 8=x8,sq 9=x9,sq 10=x10,sq 11=x11,sq 12=x12,sq 13=x13,sq 14=x14,sq 15=x15,sq 16=x16,sq 17=x17,sq 18=x18,sq 19=x19,sq 20=x20,sq 21=x21,sq 22=x22,sq 23=x23,sq 24=x24,sq 25=x25,sq 26=x26,sq 27=x27,sq 28=x28,sq 29=x29,sq 30=x30,sq 31=x31,sq 32=x32,sq 33=x33,sq 34=x34,sq 35=x35,sq 36=x36,sq 37=x37,sq 38=x38 at *
   obtain rfl:=d14
   obtain rfl:=d20
   go_simp
   exact hK' _ _ (Below.refl _ _) hJ rfl
  ·cases (show some _=some oq from hoq)
   have d21:=hd 21 (by kernel_rfl) (by decide)
   have hK':=hK
   simp only [updV,Nat.reduceEqDiff,↓reduceIte] at hK'
   clear hK hd
   generalize sq 0=x0,sq 1=x1,sq 2=x2,sq 3=x3,sq 4=x4,sq 5=x5,sq 6=x6,sq 7=x7,sq 8=x8,sq 9=x9,sq 10=x10,sq 11=x11,sq 12=x12,sq 13=x13,sq 14=x14,sq 15=x15,sq 16=x16,sq 17=x17,sq 18=x18,sq 19=x19,sq 20=x20,sq 21=x21,sq 22=x22,sq 23=x23,sq 24=x24,sq 25=x25,sq 26=x26,sq 27=x27,sq 28=x28,sq 29=x29,sq 30=x30,sq 31=x31,sq 32=x32,sq 33=x33,sq 34=x34,sq 35=x35,sq 36=x36,sq 37=x37,sq 38=x38 at *
   obtain rfl:=d21
   go_simp
   exact hK' _ _ (Below.refl _ _) hJ rfl
  ·cases (show some _=some oq from hoq)
   have d22:=hd 22 (by kernel_rfl) (by decide)
   have hK':=hK
   simp only [updV,Nat.reduceEqDiff,↓reduceIte] at hK'
   clear hK hd
   generalize sq 0=x0,sq 1=x1,sq 2=x2,sq 3=x3,sq 4=x4,sq 5=x5,sq 6=x6,sq 7=x7,sq 8=x8,sq 9=x9,sq 10=x10,sq 11=x11,sq 12=x12,sq 13=x13,sq 14=x14,sq 15=x15,sq 16=x16,sq 17=x17,sq 18=x18,sq 19=x19,sq 20=x20,sq 21=x21,sq 22=x22,sq 23=x23,sq 24=x24,sq 25=x25,sq 26=x26,sq 27=x27,sq 28=x28,sq 29=x29,sq 30=x30,sq 31=x31,sq 32=x32,sq 33=x33,sq 34=x34,sq 35=x35,sq 36=x36,sq 37=x37,sq 38=x38 at *
   obtain rfl:=d22
   have hcc:=fun q=>(KL.out.next hJ).cell q
   go_simp
   exact hK' _ _ (Below.refl _ _) hJ rfl
  ·cases (show some _=some oq from hoq)
   have d22:=hd 22 (by kernel_rfl) (by decide)
   have hK':=hK
   simp only [updV,Nat.reduceEqDiff,↓reduceIte] at hK'
   clear hK hd
   generalize sq 0=x0,sq 1=x1,sq 2=x2,sq 3=x3,sq 4=x4,sq 5=x5,sq 6=x6,sq 7=x7,sq 8=x8,sq 9=x9,sq 10=x10,sq 11=x11,sq 12=x12,sq 13=x13,sq 14=x14,sq 15=x15,sq 16=x16,sq 17=x17,sq 18=x18,sq 19=x19,sq 20=x20,sq 21=x21,sq 22=x22,sq 23=x23,sq 24=x24,sq 25=x25,sq 26=x26,sq 27=x27,sq 28=x28,sq 29=x29,sq 30=x30,sq 31=x31,sq 32=x32,sq 33=x33,sq 34=x34,sq 35=x35,sq 36=x36,sq 37=x37,sq 38=x38 at *
   obtain rfl:=d22
   go_simp
   exact hK' _ _ (Below.refl _ _) hJ rfl
  ·cases (show some _=some oq from hoq)
   have d24:=hd 24 (by kernel_rfl) (by decide)
   have d22:=hd 22 (by kernel_rfl) (by decide)
   have hK':=hK
   simp only [updV,Nat.reduceEqDiff,↓reduceIte] at hK'
   clear hK hd
   generalize sq 0=x0,sq 1=x1,sq 2=x2,sq 3=x3,sq 4=x4,sq 5=x5,sq 6=x6,sq 7=x7,sq 8=x8,sq 9=x9,sq 10=x10,sq 11=x11,sq 12=x12,sq 13=x13,sq 14=x14,sq 15=x15,sq 16=x16,sq 17=x17,sq 18=x18,sq 19=x19,sq 20=x20,sq 21=x21,sq 22=x22,sq 23=x23,sq 24=x24,sq 25=x25,sq 26=x26,sq 27=x27,sq 28=x28,sq 29=x29,sq 30=x30,sq 31=x31,sq 32=x32,sq 33=x33,sq 34=x34,sq 35=x35,sq 36=x36,sq 37=x37,sq 38=x38 at *
   obtain rfl:=d24
   obtain rfl:=d22
   have hcc:=(KX.out.next hJ).cell 3
   go_simp
   exact hK' _ _ (Below.refl _ _) hJ rfl
  ·cases (show some _=some oq from hoq)
   have d23:=hd 23 (by kernel_rfl) (by decide)
   have d25:=hd 25 (by kernel_rfl) (by decide)
   have d22:=hd 22 (by kernel_rfl) (by decide)
   have hK':=hK
   simp only [updV,Nat.reduceEqDiff,↓reduceIte] at hK'
   clear hK hd
   generalize sq 0=x0,sq 1=x1,sq 2=x2,sq 3=x3,sq 4=x4,sq 5=x5,sq 6=x6,sq 7=x7,sq 8=x8,sq 9=x9,sq 10=x10,sq 11=x11,sq 12=x12,sq 13=x13,sq 14=x14,sq 15=x15,sq 16=x16,sq 17=x17,sq 18=x18,sq 19=x19,sq 20=x20,sq 21=x21,sq 22=x22,sq 23=x23,sq 24=x24,sq 25=x25,sq 26=x26,sq 27=x27,sq 28=x28,sq 29=x29,sq 30=x30,sq 31=x31,sq 32=x32,sq 33=x33,sq 34=x34,sq 35=x35,sq 36=x36,sq 37=x37,sq 38=x38 at *
   obtain rfl:=d23
   obtain rfl:=d25
   obtain rfl:=d22
   go_simp
   refine (implRunScore_any l ws gs si.a si.n si.c r.ins _ (HL.out.below hJ) (HR.out.1.below hJ) hsi).mono ?_
   rintro e w3 ⟨rfl,hb⟩
   rw [HSC.out]
   exact hK' _ _ hb (below_next hJ hb) rfl
  ·cases (show some _=some oq from hoq)
   have d22:=hd 22 (by kernel_rfl) (by decide)
   have hK':=hK
   simp only [updV,Nat.reduceEqDiff,↓reduceIte] at hK'
   clear hK hd
   generalize sq 0=x0,sq 1=x1,sq 2=x2,sq 3=x3,sq 4=x4,sq 5=x5,sq 6=x6,sq 7=x7,sq 8=x8,sq 9=x9,sq 10=x10,sq 11=x11,sq 12=x12,sq 13=x13,sq 14=x14,sq 15=x15,sq 16=x16,sq 17=x17,sq 18=x18,sq 19=x19,sq 20=x20,sq 21=x21,sq 22=x22,sq 23=x23,sq 24=x24,sq 25=x25,sq 26=x26,sq 27=x27,sq 28=x28,sq 29=x29,sq 30=x30,sq 31=x31,sq 32=x32,sq 33=x33,sq 34=x34,sq 35=x35,sq 36=x36,sq 37=x37,sq 38=x38 at *
   obtain rfl:=d22
   go_simp
   exact hK' _ _ (Below.refl _ _) hJ rfl
  ·cases (show some _=some oq from hoq)
   have d27:=hd 27 (by kernel_rfl) (by decide)
   have d22:=hd 22 (by kernel_rfl) (by decide)
   have hK':=hK
   simp only [updV,Nat.reduceEqDiff,↓reduceIte] at hK'
   clear hK hd
   generalize sq 0=x0,sq 1=x1,sq 2=x2,sq 3=x3,sq 4=x4,sq 5=x5,sq 6=x6,sq 7=x7,sq 8=x8,sq 9=x9,sq 10=x10,sq 11=x11,sq 12=x12,sq 13=x13,sq 14=x14,sq 15=x15,sq 16=x16,sq 17=x17,sq 18=x18,sq 19=x19,sq 20=x20,sq 21=x21,sq 22=x22,sq 23=x23,sq 24=x24,sq 25=x25,sq 26=x26,sq 27=x27,sq 28=x28,sq 29=x29,sq 30=x30,sq 31=x31,sq 32=x32,sq 33=x33,sq 34=x34,sq 35=x35,sq 36=x36,sq 37=x37,sq 38=x38 at *
   obtain rfl:=d27
   obtain rfl:=d22
   have hcc:=(KX.out.next hJ).cell 2
   go_simp
   exact hK' _ _ (Below.refl _ _) hJ rfl
  ·cases (show some _=some oq from hoq)
   have d26:=hd 26 (by kernel_rfl) (by decide)
   have d28:=hd 28 (by kernel_rfl) (by decide)
   have d22:=hd 22 (by kernel_rfl) (by decide)
   have hK':=hK
   simp only [updV,Nat.reduceEqDiff,↓reduceIte] at hK'
   clear hK hd
   generalize sq 0=x0,sq 1=x1,sq 2=x2,sq 3=x3,sq 4=x4,sq 5=x5,sq 6=x6,sq 7=x7,sq 8=x8,sq 9=x9,sq 10=x10,sq 11=x11,sq 12=x12,sq 13=x13,sq 14=x14,sq 15=x15,sq 16=x16,sq 17=x17,sq 18=x18,sq 19=x19,sq 20=x20,sq 21=x21,sq 22=x22,sq 23=x23,sq 24=x24,sq 25=x25,sq 26=x26,sq 27=x27,sq 28=x28,sq 29=x29,sq 30=x30,sq 31=x31,sq 32=x32,sq 33=x33,sq 34=x34,sq 35=x35,sq 36=x36,sq 37=x37,sq 38=x38 at *
   obtain rfl:=d26
   obtain rfl:=d28
   obtain rfl:=d22
   go_simp
   exact hK' _ _ (Below.refl _ _) hJ rfl
  ·cases (show some _=some oq from hoq)
   have d22:=hd 22 (by kernel_rfl) (by decide)
   have d29:=hd 29 (by kernel_rfl) (by decide)
   have hK':=hK
   simp only [updV,Nat.reduceEqDiff,↓reduceIte] at hK'
   clear hK hd
   generalize sq 0=x0,sq 1=x1,sq 2=x2,sq 3=x3,sq 4=x4,sq 5=x5,sq 6=x6,sq 7=x7,sq 8=x8,sq 9=x9,sq 10=x10,sq 11=x11,sq 12=x12,sq 13=x13,sq 14=x14,sq 15=x15,sq 16=x16,sq 17=x17,sq 18=x18,sq 19=x19,sq 20=x20,sq 21=x21,sq 22=x22,sq 23=x23,sq 24=x24,sq 25=x25,sq 26=x26,sq 27=x27,sq 28=x28,sq 29=x29,sq 30=x30,sq 31=x31,sq 32=x32,sq 33=x33,sq 34=x34,sq 35=x35,sq 36=x36,sq 37=x37,sq 38=x38 at *
   obtain rfl:=d22
   obtain rfl:=d29
   go_simp
   exact hK' _ _ (Below.refl _ _) hJ rfl
  ·cases (show some _=some oq from hoq)
   have d30:=hd 30 (by kernel_rfl) (by decide)
   have hK':=hK
   simp only [updV,Nat.reduceEqDiff,↓reduceIte] at hK'
   clear hK hd
   generalize sq 0=x0,sq 1=x1,sq 2=x2,sq 3=x3,sq 4=x4,sq 5=x5,sq 6=x6,sq 7=x7,sq 8=x8,sq 9=x9,sq 10=x10,sq 11=x11,sq 12=x12,sq 13=x13,sq 14=x14,sq 15=x15,sq 16=x16,sq 17=x17,sq 18=x18,sq 19=x19,sq 20=x20,sq 21=x21,sq 22=x22,sq 23=x23,sq 24=x24,sq 25=x25,sq 26=x26,sq 27=x27,sq 28=x28,sq 29=x29,sq 30=x30,sq 31=x31,sq 32=x32,sq 33=x33,sq 34=x34,sq 35=x35,sq 36=x36,sq 37=x37,sq 38=x38 at *
   obtain rfl:=d30
   go_simp
   exact hK' _ _ (Below.refl _ _) hJ rfl
  ·cases (show some _=some oq from hoq)
   have d31:=hd 31 (by kernel_rfl) (by decide)
   have hK':=hK
   simp only [updV,Nat.reduceEqDiff,↓reduceIte] at hK'
   clear hK hd
   generalize sq 0=x0,sq 1=x1,sq 2=x2,sq 3=x3,sq 4=x4,sq 5=x5,sq 6=x6,sq 7=x7,sq 8=x8,sq 9=x9,sq 10=x10,sq 11=x11,sq 12=x12,sq 13=x13,sq 14=x14,sq 15=x15,sq 16=x16,sq 17=x17,sq 18=x18,sq 19=x19,sq 20=x20,sq 21=x21,sq 22=x22,sq 23=x23,sq 24=x24,sq 25=x25,sq 26=x26,sq 27=x27,sq 28=x28,sq 29=x29,sq 30=x30,sq 31=x31,sq 32=x32,sq 33=x33,sq 34=x34,sq 35=x35,sq 36=x36,sq 37=x37,sq 38=x38 at *
   obtain rfl:=d31
   go_simp
   exact hK' _ _ (Below.refl _ _) hJ rfl
  ·cases (show some _=some oq from hoq)
   have d32:=hd 32 (by kernel_rfl) (by decide)
   have d31:=hd 31 (by kernel_rfl) (by decide)
   have hK':=hK
   simp only [updV,Nat.reduceEqDiff,↓reduceIte] at hK'
   clear hK hd
   generalize sq 0=x0,sq 1=x1,sq 2=x2,sq 3=x3,sq 4=x4,sq 5=x5,sq 6=x6,sq 7=x7,sq 8=x8,sq 9=x9,sq 10=x10,sq 11=x11,sq 12=x12,sq 13=x13,sq 14=x14,sq 15=x15,sq 16=x16,sq 17=x17,sq 18=x18,sq 19=x19,sq 20=x20,sq 21=x21,sq 22=x22,sq 23=x23,sq 24=x24,sq 25=x25,sq 26=x26,sq 27=x27,sq 28=x28,sq 29=x29,sq 30=x30,sq 31=x31,sq 32=x32,sq 33=x33,sq 34=x34,sq 35=x35,sq 36=x36,sq 37=x37,sq 38=x38 at *
   obtain rfl:=d32
   obtain rfl:=d31
   have hcc:=(KX.out.next hJ).cell 2
   go_simp
   exact hK' _ _ (Below.refl _ _) hJ rfl
  ·cases (show some _=some oq from hoq)
   have d31:=hd 31 (by kernel_rfl) (by decide)
   have hK':=hK
   simp only [updV,Nat.reduceEqDiff,↓reduceIte] at hK'
   clear hK hd
   generalize sq 0=x0,sq 1=x1,sq 2=x2,sq 3=x3,sq 4=x4,sq 5=x5,sq 6=x6,sq 7=x7,sq 8=x8,sq 9=x9,sq 10=x10,sq 11=x11,sq 12=x12,sq 13=x13,sq 14=x14,sq 15=x15,sq 16=x16,sq 17=x17,sq 18=x18,sq 19=x19,sq 20=x20,sq 21=x21,sq 22=x22,sq 23=x23,sq 24=x24,sq 25=x25,sq 26=x26,sq 27=x27,sq 28=x28,sq 29=x29,sq 30=x30,sq 31=x31,sq 32=x32,sq 33=x33,sq 34=x34,sq 35=x35,sq 36=x36,sq 37=x37,sq 38=x38 at *
   obtain rfl:=d31
   go_simp
   exact hK' _ _ (Below.refl _ _) hJ rfl
  ·cases (show some _=some oq from hoq)
   have d34:=hd 34 (by kernel_rfl) (by decide)
   have d31:=hd 31 (by kernel_rfl) (by decide)
   have hK':=hK
   simp only [updV,Nat.reduceEqDiff,↓reduceIte] at hK'
   clear hK hd
   generalize sq 0=x0,sq 1=x1,sq 2=x2,sq 3=x3,sq 4=x4,sq 5=x5,sq 6=x6,sq 7=x7,sq 8=x8,sq 9=x9,sq 10=x10,sq 11=x11,sq 12=x12,sq 13=x13,sq 14=x14,sq 15=x15,sq 16=x16,sq 17=x17,sq 18=x18,sq 19=x19,sq 20=x20,sq 21=x21,sq 22=x22,sq 23=x23,sq 24=x24,sq 25=x25,sq 26=x26,sq 27=x27,sq 28=x28,sq 29=x29,sq 30=x30,sq 31=x31,sq 32=x32,sq 33=x33,sq 34=x34,sq 35=x35,sq 36=x36,sq 37=x37,sq 38=x38 at *
   obtain rfl:=d34
   obtain rfl:=d31
   have hcc:=(KX.out.next hJ).cell 3
   go_simp
   exact hK' _ _ (Below.refl _ _) hJ rfl
  ·cases (show some _=some oq from hoq)
   have d35:=hd 35 (by kernel_rfl) (by decide)
   have d31:=hd 31 (by kernel_rfl) (by decide)
   have hK':=hK
   simp only [updV,Nat.reduceEqDiff,↓reduceIte] at hK'
   clear hK hd
   generalize sq 0=x0,sq 1=x1,sq 2=x2,sq 3=x3,sq 4=x4,sq 5=x5,sq 6=x6,sq 7=x7,sq 8=x8,sq 9=x9,sq 10=x10,sq 11=x11,sq 12=x12,sq 13=x13,sq 14=x14,sq 15=x15,sq 16=x16,sq 17=x17,sq 18=x18,sq 19=x19,sq 20=x20,sq 21=x21,sq 22=x22,sq 23=x23,sq 24=x24,sq 25=x25,sq 26=x26,sq 27=x27,sq 28=x28,sq 29=x29,sq 30=x30,sq 31=x31,sq 32=x32,sq 33=x33,sq 34=x34,sq 35=x35,sq 36=x36,sq 37=x37,sq 38=x38 at *
   obtain rfl:=d35
   obtain rfl:=d31
   go_simp
   exact hK' _ _ (Below.refl _ _) hJ rfl
  ·cases (show some _=some oq from hoq)
   have d33:=hd 33 (by kernel_rfl) (by decide)
   have d36:=hd 36 (by kernel_rfl) (by decide)
   have d31:=hd 31 (by kernel_rfl) (by decide)
   have hK':=hK
   simp only [updV,Nat.reduceEqDiff,↓reduceIte] at hK'
   clear hK hd
   generalize sq 0=x0,sq 1=x1,sq 2=x2,sq 3=x3,sq 4=x4,sq 5=x5,sq 6=x6,sq 7=x7,sq 8=x8,sq 9=x9,sq 10=x10,sq 11=x11,sq 12=x12,sq 13=x13,sq 14=x14,sq 15=x15,sq 16=x16,sq 17=x17,sq 18=x18,sq 19=x19,sq 20=x20,sq 21=x21,sq 22=x22,sq 23=x23,sq 24=x24,sq 25=x25,sq 26=x26,sq 27=x27,sq 28=x28,sq 29=x29,sq 30=x30,sq 31=x31,sq 32=x32,sq 33=x33,sq 34=x34,sq 35=x35,sq 36=x36,sq 37=x37,sq 38=x38 at *
   obtain rfl:=d33
   obtain rfl:=d36
   obtain rfl:=d31
   have hsn:=HSN.out
   go_simp
   exact hK' _ _ (Below.refl _ _) hJ rfl
  ·cases (show some _=some oq from hoq)
   have d31:=hd 31 (by kernel_rfl) (by decide)
   have d37:=hd 37 (by kernel_rfl) (by decide)
   have hK':=hK
   simp only [updV,Nat.reduceEqDiff,↓reduceIte] at hK'
   clear hK hd
   generalize sq 0=x0,sq 1=x1,sq 2=x2,sq 3=x3,sq 4=x4,sq 5=x5,sq 6=x6,sq 7=x7,sq 8=x8,sq 9=x9,sq 10=x10,sq 11=x11,sq 12=x12,sq 13=x13,sq 14=x14,sq 15=x15,sq 16=x16,sq 17=x17,sq 18=x18,sq 19=x19,sq 20=x20,sq 21=x21,sq 22=x22,sq 23=x23,sq 24=x24,sq 25=x25,sq 26=x26,sq 27=x27,sq 28=x28,sq 29=x29,sq 30=x30,sq 31=x31,sq 32=x32,sq 33=x33,sq 34=x34,sq 35=x35,sq 36=x36,sq 37=x37,sq 38=x38 at *
   obtain rfl:=d31
   obtain rfl:=d37
   go_simp
   exact hK' _ _ (Below.refl _ _) hJ rfl
 ·intro sq w' hJ hφ
  simp only [List.drop_succ_cons,List.drop_zero]
  have d38:=hφ 38 (by decide)
  clear hφ
  generalize sq 0=x0,sq 1=x1,sq 2=x2,sq 3=x3,sq 4=x4,sq 5=x5,sq 6=x6,sq 7=x7,sq 8=x8,sq 9=x9,sq 10=x10,sq 11=x11,sq 12=x12,sq 13=x13,sq 14=x14,sq 15=x15,sq 16=x16,sq 17=x17,sq 18=x18,sq 19=x19,sq 20=x20,sq 21=x21,sq 22=x22,sq 23=x23,sq 24=x24,sq 25=x25,sq 26=x26,sq 27=x27,sq 28=x28,sq 29=x29,sq 30=x30,sq 31=x31,sq 32=x32,sq 33=x33,sq 34=x34,sq 35=x35,sq 36=x36,sq 37=x37,sq 38=x38 at *
  obtain rfl:=d38
  replace HB:=Lib.hid (below_next HB.out hJ)
  clear hJ
  go_wp2_with fail
  go_ret
  exact ⟨rfl,HB.out⟩
end Go.Proofs.YtpcjdalgebgofaaGreatDoorY

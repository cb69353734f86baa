/-
  Lemmas and contracts: Ky Ej Del Sc Rs Vp Ri Rv Pb. No condition.
-/
import Derived.Test.YtkgfmgajhgfgjaaGreatDoorKa3
import Derived.Test.YtkgfmgajhgfgjaaGreatDoorKa4
import Derived.Test.YtkgfmgajhgfgjaaGreatDoorKa8
import Derived.Test.YtkgfmgajhgfgjaaGreatDoorKa9
import Derived.Test.YtkgfmgajhgfgjaaGreatDoorKa13
import Derived.Test.YtkgfmgajhgfgjaaGreatDoorKa16
import Derived.Test.YtkgfmgajhgfgjaaGreatDoorKa19
set_option linter.unusedSimpArgs false
set_option linter.unusedVariables false
set_option linter.unusedSectionVars false
namespace Go.Proofs.YtkgfmgajhgfgjaaGreatDoor
open Go.RowKit Go.Sort
def keyAt (S:Svc) (p:Int):Int:=(S.keys[p.toNat]?).getD 0
theorem OwS.setKey {lo hi:Nat} {w:World} {t k g:Sl} {S:Svc} (h:OwS lo hi w t k g S) {p:Nat} {b:Nat} (hk:k.a=some ⟨b,0,none⟩) (hp:p<k.n) (v:Int):OwS lo hi (w.setCell ⟨b,p,none⟩ (.int .i64 v)) t k g ⟨S.ts,S.keys.set p v,S.tags⟩:=by
 obtain ⟨⟨xs,h1,h2⟩,h3,h4,h5,h6,h7⟩:=h
 obtain ⟨ka,kn,kc⟩:=k
 simp only at hk hp h3
 subst hk
 have hle:=h3.ow.le
 simp only at hle
 have hg:w.grownBy (w.setCell ⟨b,p,none⟩ (.int .i64 v)) (ownB (some ⟨b,0,none⟩) kc):=by
  rw [ownB_some (by omega)]
  exact Only.set_ (p:=⟨b,p,none⟩) (Only.refl b w) (.inl rfl) _
 have hlen:p<(cellsI S.keys).length:=by
  have:=h3.ow.len
  simp only at this
  rw [this];omega
 refine ⟨⟨xs,h1,h2.apartI h3.ow hg⟩,⟨?_,h3.2⟩,h4.apartB (fun x hx hx'=>(List.nodup_append.1 h5).2.2 x hx' x hx rfl) hg,h5,h6,h7⟩
 have:=h3.ow.set_ hlen (.int .i64 v)
 show Ow _ _ _ 1 _ _ _ ((S.keys.set p v).map (Value.int .i64))
 rw [List.map_set]
 exact this
theorem mem_inR {p:Int} (h:inR p 0 9=true):∃ q:Nat,p=q∧q≤9:=by
 unfold inR at h
 simp only [Bool.and_eq_true,decide_eq_true_eq] at h
 exact ⟨p.toNat,by omega,by omega⟩
end Go.Proofs.YtkgfmgajhgfgjaaGreatDoor
namespace Go.Proofs.YtkgfmgajhgfgjaaGreatDoor
open Go.RowKit Go.Sort
def hasZ (zs:List Int) (n:Int):Bool:=zs.any fun z=>z == n
set_option maxRecDepth 100000 in
set_option maxHeartbeats 4000000 in
theorem l1Has_any (A:Option Addr) (n c:Nat) (zs:List Int) (x:Int) (w:World) (hr:RdI .i64 w A n zs) (hn:n≤1048576) :
  Calls Tryz.prog 173 #[.slice A n c,.int .i64 x] w fun e w'=>e=.returned (.bool (hasZ zs x))∧Below w.heap.size w w':=by
 have HR:=Lib.hid hr
 have HL:=Lib.hid hr.len
 clear hr
 have HB0:=Lib.hid (Below.refl w.heap.size w)
 go_enter Tryz.func173,Tryz.ntmps173
 go_wp2
 go_loop [5] (fun i=>∃ p:Nat,p≤n∧i=.int .i64 p∧Hid (∀ j z,j<p→zs[j]?=some z→z≠x)) (fun i=>n - (intOf i).toNat)
 case atStart=>exact ⟨0,Nat.zero_le _,rfl,fun j x hj=>absurd hj (Nat.not_lt_zero _)⟩
 case round =>
  obtain ⟨p,hp,rfl,HF⟩:=hrel
  by_cases hlt:p<n
  ·obtain ⟨b,off,z,hA,hb,hx,hc⟩:=HR.out.at_ (j:=p) (by omega)
   subst hA
   have HX:=Lib.hid hx
   clear hx
   by_cases hid:z=x
   ·have HI:=Lib.hid hid
    have hie:(z == x)=true:=by simpa using hid
    clear hid
    go_wp2
    go_ret
    refine ⟨ret_bool ?_,HB0.out⟩
    have:hasZ zs x=true:=by
     unfold hasZ
     rw [List.any_eq_true]
     exact ⟨z,List.mem_of_getElem? HX.out,by simp [HI.out]⟩
    rw [this]
   ·have HI:=Lib.hid hid
    have hie:(z == x)=false:=by simpa using hid
    clear hid
    go_wp2
    go_round
    case rel=>exact ⟨p+1,by omega,by go_num,fun j y hj hy=>by
     rcases Nat.lt_succ_iff_lt_or_eq.1 hj with hj|rfl
     ·exact HF.out j y hj hy
     ·rw [HX.out] at hy;injection hy with hy;subst hy;exact HI.out⟩
    case measure=>simp [intOf];omega
  ·go_wp2
   go_ret
   refine ⟨ret_bool ?_,HB0.out⟩
   have:hasZ zs x=false:=by
    unfold hasZ
    rw [List.any_eq_false]
    intro z hz
    obtain ⟨j,hj,rfl⟩:=List.mem_iff_getElem.1 hz
    have:=HF.out j _ (by have:=HL.out;omega) (List.getElem?_eq_getElem hj)
    simpa using this
   rw [this]
noncomputable def verS (S:Svc) (r:Rep):Int × Int :=
 match S.ts.findIdx? (hasId r.lv) with
 | none=>(2,-1)
 |some i=>match S.ts[i]? with
  | none=>(2,-1)
  | some t=>(verdW t.l (keyAt S r.pl) r,(i:Int))
theorem verS_no {S:Svc} {r:Rep} (h:S.ts.findIdx? (hasId r.lv)=none):verS S r=(2,-1):=by simp [verS,h]
theorem verS_at {S:Svc} {r:Rep} {i:Nat} {t:Trk} (h:S.ts.findIdx? (hasId r.lv)=some i) (ht:S.ts[i]?=some t):verS S r=(verdW t.l (keyAt S r.pl) r,(i:Int)):=by simp [verS,h,ht]
set_option maxRecDepth 100000 in
set_option maxHeartbeats 8000000 in
theorem l41Verdict_any (t k g:Sl) (S:Svc) (r:Rep) (si sh:Sl) (w:World) (hr:RdS w t k g S) (hq:RdR w r si sh) (hv:validS S=true) (ho:repOk r=true) :
  Calls Tryz.prog 93 #[svV t k g,repV r si sh] w fun e w'=>e=.returned (.tuple #[.int .i64 (verS S r).1,.int .i64 (verS S r).2])∧Below w.heap.size w w':=by
 have HRS:=Lib.hid hr
 have HRR:=Lib.hid hq
 have HV:=Lib.hid hv
 have HO:=Lib.hid (repOk_facts ho)
 obtain ⟨⟨xs,hxs,hr1⟩,hr2,hr3,⟨_,hn1⟩,⟨_,hn2⟩,_,hn3⟩:=hr
 obtain ⟨A,n,c⟩:=t
 obtain ⟨KA,kn,kc⟩:=k
 simp only at hr1 hn1 hr2 hn2
 have HR:=Lib.hid hr1
 have HK2:=Lib.hid hr2
 have HXS:=Lib.hid hxs
 have HL:=Lib.hid hr1.1.len
 have hkl:=hr2.len
 have hk10:=(validS_of hv).1
 obtain rfl:kn=10:=by omega
 have HBA:=Lib.hid (Below.refl w.heap.size w)
 clear hr1 hr2 hr3 hxs hq hv ho hkl hk10
 go_enter Tryz.func93,Tryz.ntmps93
 go_wp2_with fail
 have KS0:=Lib.hid ((Blk.new w 42 #[.slice A n c,.slice KA 10 kc,.slice g.a g.n g.c]).alloc (.cells (repC r si sh) 35))
 have KR0:=Lib.hid (Blk.newAt (w.alloc (.cells #[.slice A n c,.slice KA 10 kc,.slice g.a g.n g.c] 42)) 35 (repC r si sh) (w.heap.size+1) (by simp))
 refine (l41Find_any _ _ _ S r.lv _ (HRS.out.below (ba (ba (Below.refl _ _))))).mono ?_
 rintro e w1 ⟨rfl,hb⟩
 have KL:=Lib.hid (KS0.out.next hb)
 have KR:=Lib.hid (KR0.out.next hb)
 have HB:=Lib.hid (ba (ba hb))
 clear hb KS0 KR0
 cases hf:S.ts.findIdx? (hasId r.lv) with
 | none =>
  have HT:=Lib.hid (verS_no hf)
  rw [findI_not hf]
  clear hf
  go_wp2_with fail
  refine bodyPost_ret (v:=.tuple #[.int .i64 2,.int .i64 (-1)]) (by simp [results,Tryz.results93,go_sem]) rfl ?_
  exact ⟨by rw [HT.out],HB.out⟩
 | some i =>
  obtain ⟨tr,ht,_⟩:=findIdx_some hf
  obtain ⟨x,hx,hxt⟩:=row_of HXS.out ht
  have hin:i<n:=by have:=(List.getElem?_eq_some_iff.1 hx).1;have:=HL.out;omega
  have HT:=Lib.hid (verS_at hf ht)
  obtain ⟨b,off,y,hA,hb,hy,hry,e0,e1,e2,e3,e4,e5,e6,e7,e8,e9,e10,e11⟩:=RdTs.cells (HR.out.below HB.out) hin
  obtain rfl:y=x:=by rw [hx] at hy;exact (Option.some.inj hy).symm
  have HXT:=Lib.hid hxt
  have HRY:=Lib.hid hry
  have HFI:=Lib.hid (findI_at hf)
  subst hA
  rw [HFI.out]
  obtain ⟨p,hp⟩:∃ p:Nat,r.pl=p:=⟨r.pl.toNat,by have:=HO.out.2.1.1;omega⟩
  have hp9:p≤9:=by have:=HO.out.2.1.2;omega
  obtain ⟨bk,ok,z,hKA,hbk,hz,hck⟩:=(HK2.out.below HB.out).at_ (j:=p) (by omega)
  subst hKA
  have HZ:=Lib.hid (show keyAt S r.pl=z by simp [keyAt,hp,hz])
  have hineg:¬ (i:Int)<0:=by omega
  have hp10:(p:Int)<10:=by omega
  have hp0:(0:Int)≤p:=by omega
  have hp10':p<10:=by omega
  obtain ⟨vd,hvd⟩:∃ v,verdW y.2.l z r=v:=⟨_,rfl⟩
  have HVD:=Lib.hid hvd
  clear hf ht hx hy hry hxt hvd hz
  obtain ⟨lv,pl,sc,ins,hs,tag⟩:=r
  simp only at hp
  subst hp
  go_upto_region 4 with (fail)
  refine wp_region_grow 16 (by kernel_rfl) (by kernel_rfl) (by kernel_rfl) (fun a b=>Below a.heap.size a b) (fun mq w'=>Below w1.heap.size w1 w') (fun iq v w'=>match iq with|0=>(v=.pointer (some ⟨w.heap.size,0,none⟩))|1=>(v=.slice (some ⟨b,off,none⟩) n c)|2=>(v=.int .i64 (i:Int))|3=>(v=.pointer (some ⟨b,off+i * 12,none⟩))|4=>(v=.pointer (some ⟨b,off+i * 12,none⟩))|5=>(v=lvlV y.2.l y.1.w y.1.g)|6=>(v=.pointer (some ⟨w.heap.size,1,none⟩))|7=>(v=.slice (some ⟨bk,ok,none⟩) 10 kc)|8=>(v=.pointer (some ⟨w.heap.size+1,1,none⟩))|9=>(v=.int .i64 (p:Int))|10=>(v=.pointer (some ⟨bk,ok+p,none⟩))|11=>(v=.int .i64 z)|12=>(v=repV ⟨lv,(p:Int),sc,ins,hs,tag⟩ si sh)|13=>(v=.int .i64 vd)|14=>(v=.int .i64 (i:Int))|15=>(v=.int .i64 vd)|_=>True) (fun sq=>{ tmps:=#[svV ⟨some (⟨b,off,none⟩:Addr),n,c⟩ ⟨some (⟨bk,ok,none⟩:Addr),10,kc⟩ g,repV ⟨lv,(p:Int),sc,ins,hs,tag⟩ si sh,Value.pointer (some (⟨w.heap.size,0,none⟩:Addr)),Value.pointer (some (⟨w.heap.size+1,0,none⟩:Addr)),sq 15,Value.int .i64 0,Value.int .i64 (i:Int),Value.agg #[Value.slice (some (⟨b,off,none⟩:Addr)) n c,Value.slice (some (⟨bk,ok,none⟩:Addr)) 10 kc,Value.slice g.a g.n g.c],Value.pointer (some (⟨w.heap.size+1,0,none⟩:Addr)),Value.int .i64 lv,Value.int .i64 (i:Int),Value.int .i64 (i:Int),Value.bool (decide ((i:Int)<0)),undef,sq 0,sq 1,sq 2,sq 3,sq 4,sq 5,sq 6,sq 7,sq 8,sq 9,sq 10,sq 11,sq 12,sq 13,sq 14],defers:=[] }) (fun j=>match j with|0=>undef|1=>undef|2=>undef|3=>undef|4=>undef|5=>undef|6=>undef|7=>undef|8=>undef|9=>undef|10=>undef|11=>undef|12=>undef|13=>undef|14=>undef|15=>(.int .i64 0)|_=>undef) ?_ ?_ ?_ ?_
  ·rintro iq v a b hg h
   match iq,h with
   | 0,h=>exact h
   | 1,h=>exact h
   | 2,h=>exact h
   | 3,h=>exact h
   | 4,h=>exact h
   | 5,h=>exact h
   | 6,h=>exact h
   | 7,h=>exact h
   | 8,h=>exact h
   | 9,h=>exact h
   | 10,h=>exact h
   | 11,h=>exact h
   | 12,h=>exact h
   | 13,h=>exact h
   | 14,h=>exact h
   | 15,h=>exact h
   | (kq+16),_=>exact trivial
  ·exact ⟨rfl,rfl,rfl,Nat.le_refl _,fun _ _=>rfl⟩
  ·intro mq sq w' iq oq hmq hiq hoq hJ hd Kq hK
   have hiq':iq=0∨iq=1∨iq=2∨iq=3∨iq=4∨iq=5∨iq=6∨iq=7∨iq=8∨iq=9∨iq=10∨iq=11∨iq=12∨iq=13∨iq=14∨iq=15:=by omega
   rcases hiq' with rfl|rfl|rfl|rfl|rfl|rfl|rfl|rfl|rfl|rfl|rfl|rfl|rfl|rfl|rfl|rfl
   ·cases (show some _=some oq from hoq)
    have hK':=hK
    simp only [updV,Nat.reduceEqDiff,↓reduceIte] at hK'
    clear hK hd
    generalize sq 0=x0,sq 1=x1,sq 2=x2,sq 3=x3,sq 4=x4,sq 5=x5,sq 6=x6,sq 7=x7,sq 8=x8,sq 9=x9,sq 10=x10,sq 11=x11,sq 12=x12,sq 13=x13,sq 14=x14,sq 15=x15 at *
    go_simp
    exact hK' _ _ (Below.refl _ _) hJ rfl
   ·cases (show some _=some oq from hoq)
    have d0:=hd 0 (by kernel_rfl) (by decide)
    have hK':=hK
    simp only [updV,Nat.reduceEqDiff,↓reduceIte] at hK'
    clear hK hd
    generalize sq 0=x0,sq 1=x1,sq 2=x2,sq 3=x3,sq 4=x4,sq 5=x5,sq 6=x6,sq 7=x7,sq 8=x8,sq 9=x9,sq 10=x10,sq 11=x11,sq 12=x12,sq 13=x13,sq 14=x14,sq 15=x15 at *
    obtain rfl:=d0
    have hcc:=(KL.out.next hJ).cell 0
    go_simp
    exact hK' _ _ (Below.refl _ _) hJ rfl
   ·cases (show some _=some oq from hoq)
    have hK':=hK
    simp only [updV,Nat.reduceEqDiff,↓reduceIte] at hK'
    clear hK hd
    generalize sq 0=x0,sq 1=x1,sq 2=x2,sq 3=x3,sq 4=x4,sq 5=x5,sq 6=x6,sq 7=x7,sq 8=x8,sq 9=x9,sq 10=x10,sq 11=x11,sq 12=x12,sq 13=x13,sq 14=x14,sq 15=x15 at *
    go_simp
    exact hK' _ _ (Below.refl _ _) hJ rfl
   ·cases (show some _=some oq from hoq)
    have d1:=hd 1 (by kernel_rfl) (by decide)
    have d2:=hd 2 (by kernel_rfl) (by decide)
    have hK':=hK
    simp only [updV,Nat.reduceEqDiff,↓reduceIte] at hK'
    clear hK hd
    generalize sq 0=x0,sq 1=x1,sq 2=x2,sq 3=x3,sq 4=x4,sq 5=x5,sq 6=x6,sq 7=x7,sq 8=x8,sq 9=x9,sq 10=x10,sq 11=x11,sq 12=x12,sq 13=x13,sq 14=x14,sq 15=x15 at *
    obtain rfl:=d1
    obtain rfl:=d2
    go_simp
    exact hK' _ _ (Below.refl _ _) hJ rfl
   ·cases (show some _=some oq from hoq)
    have d3:=hd 3 (by kernel_rfl) (by decide)
    have hK':=hK
    simp only [updV,Nat.reduceEqDiff,↓reduceIte] at hK'
    clear hK hd
    generalize sq 0=x0,sq 1=x1,sq 2=x2,sq 3=x3,sq 4=x4,sq 5=x5,sq 6=x6,sq 7=x7,sq 8=x8,sq 9=x9,sq 10=x10,sq 11=x11,sq 12=x12,sq 13=x13,sq 14=x14,sq 15=x15 at *
    obtain rfl:=d3
    go_simp
    exact hK' _ _ (Below.refl _ _) hJ rfl
   ·cases (show some _=some oq from hoq)
    have d4:=hd 4 (by kernel_rfl) (by decide)
    have hK':=hK
    simp only [updV,Nat.reduceEqDiff,↓reduceIte] at hK'
    clear hK hd
    generalize sq 0=x0,sq 1=x1,sq 2=x2,sq 3=x3,sq 4=x4,sq 5=x5,sq 6=x6,sq 7=x7,sq 8=x8,sq 9=x9,sq 10=x10,sq 11=x11,sq 12=x12,sq 13=x13,sq 14=x14,sq 15=x15 at *
    obtain rfl:=d4
    have f0:=((bcell hJ).1 b _ hb).trans e0
    have f1:=((bcell hJ).1 b _ hb).trans e1
    have f2:=((bcell hJ).1 b _ hb).trans e2
    have f3:=((bcell hJ).1 b _ hb).trans e3
    have f4:=((bcell hJ).1 b _ hb).trans e4
    have f5:=((bcell hJ).1 b _ hb).trans e5
    have f6:=((bcell hJ).1 b _ hb).trans e6
    have f7:=((bcell hJ).1 b _ hb).trans e7
    have f8:=((bcell hJ).1 b _ hb).trans e8
    have f9:=((bcell hJ).1 b _ hb).trans e9
    have f10:=((bcell hJ).1 b _ hb).trans e10
    go_simp
    exact hK' _ _ (Below.refl _ _) hJ rfl
   ·cases (show some _=some oq from hoq)
    have hK':=hK
    simp only [updV,Nat.reduceEqDiff,↓reduceIte] at hK'
    clear hK hd
    generalize sq 0=x0,sq 1=x1,sq 2=x2,sq 3=x3,sq 4=x4,sq 5=x5,sq 6=x6,sq 7=x7,sq 8=x8,sq 9=x9,sq 10=x10,sq 11=x11,sq 12=x12,sq 13=x13,sq 14=x14,sq 15=x15 at *
    go_simp
    exact hK' _ _ (Below.refl _ _) hJ rfl
   ·cases (show some _=some oq from hoq)
    have d6:=hd 6 (by kernel_rfl) (by decide)
    have hK':=hK
    simp only [updV,Nat.reduceEqDiff,↓reduceIte] at hK'
    clear hK hd
    generalize sq 0=x0,sq 1=x1,sq 2=x2,sq 3=x3,sq 4=x4,sq 5=x5,sq 6=x6,sq 7=x7,sq 8=x8,sq 9=x9,sq 10=x10,sq 11=x11,sq 12=x12,sq 13=x13,sq 14=x14,sq 15=x15 at *
    obtain rfl:=d6
    have hcc:=(KL.out.next hJ).cell 1
    go_simp
    exact hK' _ _ (Below.refl _ _) hJ rfl
   ·cases (show some _=some oq from hoq)
    have hK':=hK
    simp only [updV,Nat.reduceEqDiff,↓reduceIte] at hK'
    clear hK hd
    generalize sq 0=x0,sq 1=x1,sq 2=x2,sq 3=x3,sq 4=x4,sq 5=x5,sq 6=x6,sq 7=x7,sq 8=x8,sq 9=x9,sq 10=x10,sq 11=x11,sq 12=x12,sq 13=x13,sq 14=x14,sq 15=x15 at *
    go_simp
    exact hK' _ _ (Below.refl _ _) hJ rfl
   ·cases (show some _=some oq from hoq)
    have d8:=hd 8 (by kernel_rfl) (by decide)
    have hK':=hK
    simp only [updV,Nat.reduceEqDiff,↓reduceIte] at hK'
    clear hK hd
    generalize sq 0=x0,sq 1=x1,sq 2=x2,sq 3=x3,sq 4=x4,sq 5=x5,sq 6=x6,sq 7=x7,sq 8=x8,sq 9=x9,sq 10=x10,sq 11=x11,sq 12=x12,sq 13=x13,sq 14=x14,sq 15=x15 at *
    obtain rfl:=d8
    have hcc:=(KR.out.next hJ).cell 1
    go_simp
    exact hK' _ _ (Below.refl _ _) hJ rfl
   ·cases (show some _=some oq from hoq)
    have d7:=hd 7 (by kernel_rfl) (by decide)
    have d9:=hd 9 (by kernel_rfl) (by decide)
    have hK':=hK
    simp only [updV,Nat.reduceEqDiff,↓reduceIte] at hK'
    clear hK hd
    generalize sq 0=x0,sq 1=x1,sq 2=x2,sq 3=x3,sq 4=x4,sq 5=x5,sq 6=x6,sq 7=x7,sq 8=x8,sq 9=x9,sq 10=x10,sq 11=x11,sq 12=x12,sq 13=x13,sq 14=x14,sq 15=x15 at *
    obtain rfl:=d7
    obtain rfl:=d9
    go_simp
    exact hK' _ _ (Below.refl _ _) hJ rfl
   ·cases (show some _=some oq from hoq)
    have d10:=hd 10 (by kernel_rfl) (by decide)
    have hK':=hK
    simp only [updV,Nat.reduceEqDiff,↓reduceIte] at hK'
    clear hK hd
    generalize sq 0=x0,sq 1=x1,sq 2=x2,sq 3=x3,sq 4=x4,sq 5=x5,sq 6=x6,sq 7=x7,sq 8=x8,sq 9=x9,sq 10=x10,sq 11=x11,sq 12=x12,sq 13=x13,sq 14=x14,sq 15=x15 at *
    obtain rfl:=d10
    have hcc:=((bcell hJ).1 bk _ hbk).trans hck
    go_simp
    exact hK' _ _ (Below.refl _ _) hJ rfl
   ·cases (show some _=some oq from hoq)
    have hK':=hK
    simp only [updV,Nat.reduceEqDiff,↓reduceIte] at hK'
    clear hK hd
    generalize sq 0=x0,sq 1=x1,sq 2=x2,sq 3=x3,sq 4=x4,sq 5=x5,sq 6=x6,sq 7=x7,sq 8=x8,sq 9=x9,sq 10=x10,sq 11=x11,sq 12=x12,sq 13=x13,sq 14=x14,sq 15=x15 at *
    have hcc:=fun q=>(KR.out.next hJ).cell q
    go_simp
    exact hK' _ _ (Below.refl _ _) hJ rfl
   ·cases (show some _=some oq from hoq)
    have d5:=hd 5 (by kernel_rfl) (by decide)
    have d11:=hd 11 (by kernel_rfl) (by decide)
    have d12:=hd 12 (by kernel_rfl) (by decide)
    have hK':=hK
    simp only [updV,Nat.reduceEqDiff,↓reduceIte] at hK'
    clear hK hd
    generalize sq 0=x0,sq 1=x1,sq 2=x2,sq 3=x3,sq 4=x4,sq 5=x5,sq 6=x6,sq 7=x7,sq 8=x8,sq 9=x9,sq 10=x10,sq 11=x11,sq 12=x12,sq 13=x13,sq 14=x14,sq 15=x15 at *
    obtain rfl:=d5
    obtain rfl:=d11
    obtain rfl:=d12
    go_simp
    refine (specVerifyReplay_any y.2.l y.1.w y.1.g z ⟨lv,(p:Int),sc,ins,hs,tag⟩ si sh _ (HRY.out.below hJ).1 ((HRR.out.below HB.out).below hJ)).mono ?_
    rintro e w2 ⟨rfl,hb⟩
    rw [HVD.out]
    exact hK' _ _ hb (below_next hJ hb) rfl
   ·cases (show some _=some oq from hoq)
    have hK':=hK
    simp only [updV,Nat.reduceEqDiff,↓reduceIte] at hK'
    clear hK hd
    generalize sq 0=x0,sq 1=x1,sq 2=x2,sq 3=x3,sq 4=x4,sq 5=x5,sq 6=x6,sq 7=x7,sq 8=x8,sq 9=x9,sq 10=x10,sq 11=x11,sq 12=x12,sq 13=x13,sq 14=x14,sq 15=x15 at *
    go_simp
    exact hK' _ _ (Below.refl _ _) hJ rfl
   ·cases (show some _=some oq from hoq)
    have d13:=hd 13 (by kernel_rfl) (by decide)
    have hK':=hK
    simp only [updV,Nat.reduceEqDiff,↓reduceIte] at hK'
    clear hK hd
    generalize sq 0=x0,sq 1=x1,sq 2=x2,sq 3=x3,sq 4=x4,sq 5=x5,sq 6=x6,sq 7=x7,sq 8=x8,sq 9=x9,sq 10=x10,sq 11=x11,sq 12=x12,sq 13=x13,sq 14=x14,sq 15=x15 at *
    obtain rfl:=d13
    go_simp
    exact hK' _ _ (Below.refl _ _) hJ rfl
  ·intro sq w' hJ hφ
   simp only [List.drop_succ_cons,List.drop_zero]
   have d14:=hφ 14 (by decide)
   have d15:=hφ 15 (by decide)
   clear hφ
   generalize sq 0=x0,sq 1=x1,sq 2=x2,sq 3=x3,sq 4=x4,sq 5=x5,sq 6=x6,sq 7=x7,sq 8=x8,sq 9=x9,sq 10=x10,sq 11=x11,sq 12=x12,sq 13=x13,sq 14=x14,sq 15=x15 at *
   obtain rfl:=d14
   obtain rfl:=d15
   go_wp2_with fail
   refine bodyPost_ret (v:=.tuple #[.int .i64 vd,.int .i64 (i:Int)]) (by simp [results,Tryz.results93,go_sem]) rfl ?_
   refine ⟨?_,below_next HB.out hJ⟩
   rw [HT.out,← HXT.out,HZ.out,HVD.out]
end Go.Proofs.YtkgfmgajhgfgjaaGreatDoor
namespace Go.Proofs.YtkgfmgajhgfgjaaGreatDoor
open Go.RowKit Go.Sort
theorem ret_slice {A:Option Addr} {a b c:Nat} (h:a=b):Ending.returned (.slice A a c)=.returned (.slice A b c):=by rw [h]
theorem src_dropE {w:World} {g:Nat} {n:Nat} {es:List Ent} (h:RdE w (some ⟨g,0,none⟩) n es) (k m:Nat) (hm:m=n - k) (D:Option Addr) (hD:k<n→D=some ⟨g,k * 2,none⟩):Src w 2 D m (cellsE (es.drop k)):=by
 subst hm
 refine ⟨by rw [cellsE_length,List.length_drop,h.1],fun hm=>?_⟩
 refine ⟨_,hD (by omega),fun j u hu=>?_⟩
 rw [← cellsE_drop,List.getElem?_drop] at hu
 obtain ⟨ad,had,hcell⟩:=(Src.ents h).2 (by omega)
 injection had with had
 subst had
 have:=hcell _ u hu
 rw [Addr.add_lit] at this ⊢
 simpa using this
set_option maxRecDepth 100000 in
set_option maxHeartbeats 2000000 in
theorem delete_any (B:Nat) (A:Option Addr) (n c k K:Nat) (es:List Ent) (w:World) (h:OwE B w A n c es) (hk:k<n) (hK:K=k+1) (hn:n≤1099511627776) (hB:B≤w.heap.size) :
  Calls Tryz.prog 101 #[.slice A n c,.int .i64 k,.int .i64 K] w fun e w'=>e=.returned (.slice A (n - 1) c)∧OwE B w' A (n - 1) c (es.take k ++ es.drop (k+1))∧Below B w w':=by
 obtain ⟨i0,hi0,hz0,hz1,hz2⟩:=info_parts infoE
 have HI:=Lib.hid hi0
 have HZ:=Lib.hid hz0
 have HS:=Lib.hid hz1
 have HBY:=Lib.hid hz2
 clear hi0 hz0 hz1 hz2
 have hle:=h.le
 obtain ⟨g,cur,rfl,hBg,hb,_,hcm,hsz,htk⟩:=h.blk (by omega)
 have HO:=Lib.hid h
 have q0:(k:Int)≤K:=by omega
 have q1:(K:Int)≤n:=by omega
 have q2:(n:Int)≤c:=by omega
 have q3:¬ (k:Int)=K:=by omega
 have q4:k≤c:=by omega
 have q5:(k:Int)≤n:=by omega
 have q6:((k:Int) == K)=false:=by simp;omega
 obtain ⟨D,hD⟩:∃ D,(if c=K then some (⟨g,0,none⟩:Addr) else some ⟨g,K * 2,none⟩)=D:=⟨_,rfl⟩
 obtain ⟨m,hm⟩:∃ m,m=n - 1:=⟨_,rfl⟩
 have hkm:k+(n - K)=m:=by omega
 have r0:(m:Int)≤n:=by omega
 have r1:¬ c=m:=by omega
 have r2:n - m=1:=by omega
 have r3:m≤c:=by omega
 have r4:m * 2+1<c * 2:=by omega
 have r5:m<n:=by omega
 have HM:=Lib.hid hm
 clear hm
 have hrow:Ow B w 55 2 (some ⟨g,0,none⟩) k c (cellsE (es.take k)):=by
  refine Ow.mk_ (by rw [cellsE_length,List.length_take,h.rdE.len];omega) hBg hb (by omega) hcm hsz ?_
  rw [← cellsE_take,← htk,List.take_take,Nat.min_eq_left (by omega)]
 have HRow:=Lib.hid hrow
 have HSrc:=Lib.hid (src_dropE h.rdE K (n - K) rfl D (fun hh=>by rw [← hD,if_neg (by omega)]))
 have hmm:k+(n - K)≤c:=by omega
 have hm8:n - K≤n:=by omega
 have HK:=Lib.hid hK
 clear hK h hrow
 go_enter Tryz.func101,Tryz.ntmps101
 go_wp2_with fail
 go_cut [0] (fun s0 wx=>s0=.slice (some ⟨g,0,none⟩) m c∧Hid (OwE B wx (some ⟨g,0,none⟩) m c (es.take k ++ es.drop K))∧Hid (w.grownBy wx (some g)))
 case first =>
  go_still_tail 6,(by kernel_rfl)
  refine wpList_append_in _ rfl (.tmp 22) (.tmp 25) _ rfl B 55 i0 _ 2 16 Tryz.underlying50 HI.out HZ.out HS.out HBY.out rfl (by omega) _ k c _ rfl (Ow.drew HRow.out) D (n - K) _ _ rfl HSrc.out.drew (cellsE_one _) (by unfold maxLen;omega) (by omega) hB hmm ?_
  intro w5 hO5 hg5
  all_goals
   rw [hkm] at hO5
   have h1:ownB (some (⟨g,0,none⟩:Addr)) c=some g:=by unfold ownB;rw [if_neg (by omega)];rfl
   rw [h1] at hg5
   have HO5:=Lib.hid hO5
   have HG5:=Lib.hid hg5
   clear h1 hO5 hg5
   go_wp2_with fail
   go_meet
   exact ⟨rfl,by have:=HO5.out;rw [← cellsE_append] at this;exact this,⟨HG5.out.os,HG5.out.tape,HG5.out.output,HG5.out.size,HG5.out.block⟩⟩
 case rest =>
  obtain ⟨rfl,HO5,HG5⟩:=hcut
  obtain ⟨g',cur',hgg,_,hb',_,_,hsz',htk'⟩:=HO5.out.blk (by omega)
  injection hgg with hgg
  injection hgg with hgg
  subst hgg
  have HB':=Lib.hid hb'
  have HTK:=Lib.hid htk'
  have HCL:=Lib.hid (clear_one g (m * 2) (c - m) 0 wc (cur'[m * 2]'(by omega)) (cur'[m * 2+1]'(by omega)) ((hb'.cell _).trans (Array.getElem?_eq_getElem _)) ((hb'.cell _).trans (Array.getElem?_eq_getElem _)) (hb'.frozen _) (hb'.frozen _))
  have hcl:=HCL.out
  clear hkm hb' htk' HCL
  go_wp2_with fail
  go_ret
  have hW:Below B wc ((wc.setCell ⟨g,m * 2,none⟩ (.int .i64 0)).setCell ⟨g,m * 2+1,none⟩ (.int .i64 0)):=((Below.refl _ _).setCell hBg _).setCell hBg _
  refine ⟨ret_slice HM.out,?_,?_⟩
  ·rw [← HM.out,← HK.out]
   refine Ow.mk_ ?_ hBg ((HB'.out.set_ _ _).set_ _ _) r3 hcm (by simpa using hsz') ?_
   ·exact HO5.out.len
   ·rw [← HTK.out]
    apply List.ext_getElem?
    intro j
    rw [List.getElem?_take,List.getElem?_take]
    split
    ·simp only [Array.getElem?_toList,Array.getElem?_setIfInBounds]
     rw [if_neg (by omega),if_neg (by omega)]
    ·rfl
  ·have h0:Below B w wc:=⟨HG5.out.os,HG5.out.tape,HG5.out.output,HG5.out.size,fun i hi=>HG5.out.block i (by omega) (by intro e;injection e with e;omega)⟩
   exact (h0.setCell hBg _).setCell hBg _
end Go.Proofs.YtkgfmgajhgfgjaaGreatDoor
namespace Go.Proofs.YtkgfmgajhgfgjaaGreatDoor
open Go.RowKit Go.Sort
end Go.Proofs.YtkgfmgajhgfgjaaGreatDoor
namespace Go.Proofs.YtkgfmgajhgfgjaaGreatDoor
open Go.RowKit Go.Sort
def removeE (es:List Ent) (p:Int):List Ent × Bool:=if validE es then (withoutE p es,decide (0≤findE p es 0)) else ([],false)
end Go.Proofs.YtkgfmgajhgfgjaaGreatDoor
namespace Go.Proofs.YtkgfmgajhgfgjaaGreatDoor
open Go.RowKit Go.Sort
theorem findE_neg (p:Int):∀ (es:List Ent) (j:Int),0≤j→findE p es j<0→∀ e ∈ es,e.1≠p
 | [],_,_,_,e,he=>by cases he
 |x :: r,j,hj,h,e,he=>by
  simp only [findE] at h
  split at h
  ·omega
  ·rename_i hne
   rcases List.mem_cons.1 he with rfl|h1
   ·exact hne
   ·exact findE_neg p r (j+1) (by omega) h e h1
theorem validE_sorted_step {es:List Ent} (h:validE es=true) {k:Nat} {d e:Ent} (hd:es[k]?=some d) (he:es[k+1]?=some e):d.2≤e.2:=by
 have h1:=validE_at h (List.getElem?_eq_some_iff.1 he).1
 simp [vriE,he,prevE,hd] at h1
 omega
theorem validE_sorted {es:List Ent} (h:validE es=true):∀ (n k:Nat) (d e:Ent),es[k]?=some d→es[k+n]?=some e→d.2≤e.2
 |0,k,d,e,hd,he=>by
  rw [Nat.add_zero,hd] at he
  injection he with he
  rw [he];exact Int.le_refl _
 |n+1,k,d,e,hd,he=>by
  have hlt:=(List.getElem?_eq_some_iff.1 he).1
  have hm:es[k+1]?=some es[k+1]:=List.getElem?_eq_getElem (by omega)
  exact Int.le_trans (validE_sorted_step h hd hm) (validE_sorted h n (k+1) _ e hm (by rw [show k+1+n=k+(n+1) by omega];exact he))
def Good (es:List Ent):Prop:=es.length≤4∧(∀ e ∈ es,okE e=true)∧es.Pairwise (fun a b=>a.1≠b.1)∧es.Pairwise (fun a b=>a.2≤b.2)
theorem Good.of {es:List Ent} (h:validE es=true):Good es:=by
 refine ⟨validE_len h,fun e he=>?_,?_,?_⟩
 ·obtain ⟨k,hk,rfl⟩:=List.getElem_of_mem he
  exact validE_ok h (List.getElem?_eq_getElem hk)
 ·rw [List.pairwise_iff_getElem]
  intro i j hi hj hij
  have h1:=validE_at h hj
  simp only [vriE,List.getElem?_eq_getElem hj,Bool.and_eq_true,Bool.not_eq_true',decide_eq_false_iff_not] at h1
  refine findE_neg _ (es.take j) 0 (Int.le_refl _) (by omega) _ ?_
  rw [List.mem_iff_getElem?]
  exact ⟨i,by rw [List.getElem?_take,if_pos hij];exact List.getElem?_eq_getElem hi⟩
 ·rw [List.pairwise_iff_getElem]
  intro i j hi hj hij
  exact validE_sorted h (j - i) i _ _ (List.getElem?_eq_getElem hi) (by rw [show i+(j - i)=j by omega];exact List.getElem?_eq_getElem hj)
end Go.Proofs.YtkgfmgajhgfgjaaGreatDoor
namespace Go.Proofs.YtkgfmgajhgfgjaaGreatDoor
open Go.RowKit Go.Sort
theorem without_none {p:Int} {es:List Ent} (h:findE p es 0<0):withoutE p es=es:=by
 unfold withoutE
 rw [List.filter_eq_self]
 intro e he
 have:=findE_neg p es 0 (Int.le_refl _) h e he
 simpa using this
theorem without_at {p:Int} {es:List Ent} (hv:validE es=true) {k:Nat} {e:Ent} (he:es[k]?=some e) (hp:e.1=p):withoutE p es=es.take k ++ es.drop (k+1):=by
 have h3:=(Good.of hv).2.2.1
 have hk:=(List.getElem?_eq_some_iff.1 he).1
 have hek:=(List.getElem?_eq_some_iff.1 he).2
 have hs:es=es.take k ++ e :: es.drop (k+1):=by rw [← hek,← List.drop_eq_getElem_cons hk,List.take_append_drop]
 rw [hs,List.pairwise_append,List.pairwise_cons] at h3
 obtain ⟨_,⟨h5,_⟩,h6⟩:=h3
 conv=>lhs;rw [hs]
 unfold withoutE
 rw [List.filter_append,List.filter_cons,if_neg (by simp [hp])]
 congr 1
 ·rw [List.filter_eq_self]
  intro a ha
  have:=h6 a ha e (List.mem_cons_self ..)
  rw [hp] at this
  simpa using this
 ·rw [List.filter_eq_self]
  intro a ha
  have:=h5 a ha
  rw [hp] at this
  simpa using fun h=>this h.symm
def RemovePost (B:Nat) (es:List Ent) (p:Int) (w:World) (e:Ending) (w':World):Prop :=
 ∃ A' c',e=.returned (.tuple #[.slice A' (removeE es p).1.length c',.bool (removeE es p).2])∧OwE B w' A' (removeE es p).1.length c' (removeE es p).1∧Below B w w'
set_option maxHeartbeats 1000000 in
theorem implBoardRemove_any (A:Option Addr) (n c:Nat) (es:List Ent) (p:Int) (w:World) (hr:RdE w A n es) (hn:n≤1099511627776) (hc:n≤c) :
  Calls Tryz.prog 87 #[.slice A n c,.int .i64 p] w (RemovePost w.heap.size es p w):=by
 have HR:=Lib.hid hr
 clear hr
 go_enter Tryz.func87,Tryz.ntmps87
 go_wp2_with fail
 refine (implBoardValid_v _ _ _ _ _ HR.out hn hc).mono ?_
 rintro e w1 ⟨rfl,hB1⟩
 have HB1:=Lib.hid hB1
 clear hB1
 cases hv:validE es with
 | false =>
  have hfin:removeE es p=([],false):=by simp [removeE,hv]
  have HF:=Lib.hid hfin
  clear hfin
  go_wp2
  go_ret2
  unfold RemovePost
  rw [HF.out]
  exact ⟨_,0,rfl,Ow.bare _ _ _ _ _,HB1.out⟩
 | true =>
  have HV:=Lib.hid hv
  clear hv
  go_wp2_with fail
  refine (placeOf_any _ _ _ _ _ _ (HR.out.below HB1.out) hn).mono ?_
  rintro e w2 ⟨rfl,hB2⟩
  have HB2:=Lib.hid (below_next HB1.out hB2)
  have HR2:=Lib.hid (HR.out.below HB2.out)
  clear hB2
  by_cases hf:findE p es 0<0
  ·have hfin:removeE es p=(es,false):=by simp [removeE,HV.out,without_none hf];omega
   have HF:=Lib.hid hfin
   clear hfin
   go_wp2_with fail
   refine (clone_any _ _ _ _ _ HR2.out hn).mono ?_
   rintro e w3 ⟨A3,c3,rfl,hO3,hB3⟩
   have HO3:=Lib.hid (hO3.mono HB2.out.size)
   have HB3:=Lib.hid (below_next HB2.out hB3)
   clear hO3 hB3
   go_wp2
   go_ret2
   unfold RemovePost
   rw [HF.out]
   exact ⟨A3,c3,by rw [HR.out.len];rfl,by rw [HR.out.len];exact HO3.out,HB3.out⟩
  ·obtain ⟨k,e,hk,he,hp⟩:=findE_ok (Int.not_lt.1 hf)
   have hkn:k<n:=by have:=(List.getElem?_eq_some_iff.1 he).1;rw [HR.out.len] at this;exact this
   have hwi:=without_at HV.out he hp
   have hfin:removeE es p=(es.take k ++ es.drop (k+1),true):=by simp [removeE,HV.out,hwi];omega
   have hlen:(es.take k ++ es.drop (k+1)).length=n - 1:=by
    rw [List.length_append,List.length_take,List.length_drop,HR.out.len];omega
   obtain ⟨K,hK⟩:∃ K,K=k+1:=⟨_,rfl⟩
   have q1:IntKind.i64.wrap ((k:Int)+1)=(K:Int):=by rw [IntWalk.i64_in _ (by omega),hK];push_cast;rfl
   have q2:¬ (k:Int)<0:=by omega
   have HF:=Lib.hid hfin
   have HL:=Lib.hid hlen
   have HK:=Lib.hid hK
   clear he hp hwi hfin hlen hK hf
   rw [hk]
   clear hk
   go_wp2_with fail
   refine (clone_any _ _ _ _ _ HR2.out hn).mono ?_
   rintro e w3 ⟨A3,c3,rfl,hO3,hB3⟩
   have HO3:=Lib.hid hO3
   have HB3:=Lib.hid hB3
   have hs3:=hB3.size
   clear hO3 hB3
   go_wp2_with fail
   refine (delete_any w2.heap.size A3 n c3 k K es w3 HO3.out hkn HK.out hn hs3).mono ?_
   rintro e w4 ⟨rfl,hO4,hB4⟩
   have HO4:=Lib.hid (hO4.mono HB2.out.size)
   have HB4:=Lib.hid (HB2.out.trans ((HB3.out.trans hB4).mono HB2.out.size))
   clear hO4 hB4
   go_wp2
   go_ret2
   unfold RemovePost
   rw [HF.out]
   exact ⟨A3,c3,by rw [HL.out];rfl,by rw [HL.out];exact HO4.out,HB4.out⟩
end Go.Proofs.YtkgfmgajhgfgjaaGreatDoor
namespace Go.Proofs.YtkgfmgajhgfgjaaGreatDoor
open Go.RowKit Go.Sort
def revT (p:Int) (t:Trk):Trk:=⟨t.l,withoutE p t.b⟩
def revN (p:Int):List Trk→Int
 | []=>0
 | t :: r=>(t.b.length:Int) - (withoutE p t.b).length+revN p r
def revS (S:Svc) (p:Int):Svc × Int :=
 if validS S && inR p 0 9 then (⟨S.ts.map (revT p),S.keys.set p.toNat 0,S.tags⟩,revN p S.ts) else (⟨[],[],[]⟩,-1)
theorem revS_bad {S:Svc} {p:Int} (h:(validS S && inR p 0 9)=false):revS S p=(⟨[],[],[]⟩,-1):=by simp [revS,h]
theorem revS_done {S:Svc} {p:Int} (h1:validS S=true) (h2:inR p 0 9=true):revS S p=(⟨S.ts.map (revT p),S.keys.set p.toNat 0,S.tags⟩,revN p S.ts):=by simp [revS,h1,h2]
theorem revN_app (p:Int) (a:List Trk) (t:Trk):revN p (a ++ [t])=revN p a+((t.b.length:Int) - (withoutE p t.b).length):=by
 induction a with
 | nil=>simp [revN]
 | cons x r ih=>simp only [List.cons_append,revN,ih];omega
theorem without_le (p:Int) (es:List Ent):(withoutE p es).length≤es.length:=by
 have:=withoutE_len p es es.length
 rwa [List.take_length] at this
theorem remove_valid {es:List Ent} (h:validE es=true) (p:Int):(removeE es p).1=withoutE p es∧(es.length:Int) - (withoutE p es).length=if (removeE es p).2=true then 1 else 0:=by
 unfold removeE
 rw [if_pos h]
 refine ⟨rfl,?_⟩
 by_cases hf:findE p es 0<0
 ·rw [without_none hf]
  have:¬ (0:Int)≤findE p es 0:=by omega
  simp [this]
 ·obtain ⟨k,e,_,he,hp⟩:=findE_ok (Int.not_lt.1 hf)
  rw [without_at h he hp]
  have hk:=(List.getElem?_eq_some_iff.1 he).1
  have:(0:Int)≤findE p es 0:=by omega
  simp [this]
  omega
def CntPost (B:Nat) (r:Svc × Int) (w:World) (e:Ending) (w':World):Prop :=
 ∃ t k g,e=.returned (.tuple #[svV t k g,.int .i64 r.2])∧OwS B w'.heap.size w' t k g r.1∧Below B w w'
theorem OwTs.newBoard {lo hi hi' n c g k:Nat} {w:World} {a b:List Row} {x:Row} {s:Sl} {es:List Ent} (h:OwTs lo hi w ⟨some ⟨g,0,none⟩,n,c⟩ (a ++ x :: b)) (hk:a.length=k) (hb:OwEn hi hi' w s es) (hlh:lo≤hi) (hle:hi≤hi') (hs:s.n≤1048576) :
  OwTs lo hi' (w.setCell ⟨g,k * 12+11,none⟩ (.slice s.a s.n s.c)) ⟨some ⟨g,0,none⟩,n,c⟩ (a ++ (⟨x.1.w,x.1.g,s⟩,⟨x.2.l,es⟩) :: b):=by
 obtain ⟨h1,h2,h3,h4,h5⟩:=h
 have hO:Ow lo w 65 12 (some ⟨g,0,none⟩) n c (cellsT (a ++ x :: b)):=h1.ow
 have hlen:k * 12+11<(cellsT (a ++ x :: b)).length:=by rw [cellsT_len,List.length_append,List.length_cons,hk];omega
 have hc:0<c:=by
  have h6:=hO.len
  have h7:=hO.le
  rw [cellsT_len,List.length_append,List.length_cons] at h6
  omega
 have hG:w.grownBy (w.setCell ⟨g,k * 12+11,none⟩ (.slice s.a s.n s.c)) (ownB (some ⟨g,0,none⟩) c):=by
  rw [ownB_some hc]
  exact Only.set_ (p:=⟨g,k * 12+11,none⟩) (Only.refl g w) (.inl rfl) _
 have hkeep:∀ y,OwT lo hi w y→OwT lo hi' (w.setCell ⟨g,k * 12+11,none⟩ (.slice s.a s.n s.c)) y:=fun y hy =>
  OwT.mono (⟨⟨hy.1.1.apart hO (by decide) hG,hy.1.2.1.apart hO (by decide) hG,hy.1.2.2⟩,hy.2.1.apart hO (by decide) hG,hy.2.2⟩) (Nat.le_refl _) hle
 refine ⟨?_,fun y hy=>?_,?_,?_,h5⟩
 ·have e:=cellsX_set encT_len (a ++ x :: b) k x (⟨x.1.w,x.1.g,s⟩,⟨x.2.l,es⟩) 11 (.slice s.a s.n s.c) (by rw [← hk];simp) rfl (by decide)
  rw [← hk,List.set_append_right _ _ (Nat.le_refl _),Nat.sub_self,List.set_cons_zero,hk] at e
  refine ⟨?_,fun hc' g' hg'=>Nat.lt_of_lt_of_le (h1.2 hc' g' hg') hle⟩
  show Ow lo _ _ 12 _ _ _ (cellsX encT (a ++ (⟨x.1.w,x.1.g,s⟩,⟨x.2.l,es⟩) :: b))
  rw [e]
  exact hO.set_ hlen _
 ·rcases mid_mem hy with rfl|hy
  ·have hx:=hkeep x (h2 x (by simp))
   refine ⟨hx.1,?_,hs⟩
   exact (OwI.apart hb hO (by decide) hG).mono hlh (Nat.le_refl _)
  ·exact hkeep y (h2 y (by rcases hy with hy|hy <;> simp [hy]))
 ·rw [boxBlks_mid] at h3 ⊢;exact h3
 ·have hold:∀ y,y ∈ a∨y ∈ b→∀ c ∈ blkOf y.1.b,c<hi:=fun y hy c hc=>(OwI.mem (s:=y.1.b) (h2 y (by rcases hy with hy|hy <;> simp [hy])).2.1 c hc).2
  have hnew:∀ c ∈ blkOf s,hi≤c:=fun c hc=>(OwI.mem hb c hc).1
  rw [entBlks_mid,List.nodup_append] at h4 ⊢
  obtain ⟨n1,n2,n3⟩:=h4
  rw [List.nodup_append] at n2
  refine ⟨n1,?_,?_⟩
  ·rw [List.nodup_append]
   refine ⟨blkOf_nodup _,n2.2.1,fun u hu v hv e=>?_⟩
   obtain ⟨y,hy,hv⟩:=List.mem_flatMap.1 hv
   have:=hold y (.inr hy) v hv
   have:=hnew u hu
   omega
  ·intro u hu v hv e
   rcases List.mem_append.1 hv with hv|hv
   ·obtain ⟨y,hy,hu⟩:=List.mem_flatMap.1 hu
    have:=hold y (.inl hy) u hu
    have:=hnew v hv
    omega
   ·exact n3 u hu v (List.mem_append_right _ hv) e
set_option maxRecDepth 100000 in
set_option maxHeartbeats 8000000 in
theorem implServiceRevoke_any (t k g:Sl) (S:Svc) (pl:Int) (w:World) (hr:RdS w t k g S) :
  Calls Tryz.prog 29 #[svV t k g,.int .i64 pl] w (CntPost w.heap.size (revS S pl) w):=by
 have HRS:=Lib.hid hr
 clear hr
 go_enter Tryz.func29,Tryz.ntmps29
 go_upto_region 1 with (fail)
 refine into_world (fun W=>Below w.heap.size w W∧W.heap.size=w.heap.size+2∧Blk W w.heap.size 42 #[.slice t.a t.n t.c,.slice k.a k.n k.c,.slice g.a g.n g.c]∧Blk W (w.heap.size+1) 42 #[.slice none 0 0,.slice none 0 0,.slice none 0 0]) ⟨by go_grown,by simp,(Blk.new _ _ _).alloc _,Blk.newAt _ _ _ _ (by simp)⟩ ?_
 rintro W ⟨hbw,hwz,hka,hkr⟩
 have HBW:=Lib.hid hbw
 have HKA:=Lib.hid hka
 have HKR:=Lib.hid hkr
 have ca:=fun o=>hka.cell o
 have za:=hka.lt
 clear hbw hka hkr
 go_wp2_with fail
 refine (implServiceValid_any _ _ _ S _ (HRS.out.below HBW.out)).mono ?_
 rintro e w1 ⟨rfl,hb1⟩
 have HB1:=Lib.hid (below_next HBW.out hb1)
 have HA1:=Lib.hid (HKA.out.next hb1)
 have HR1:=Lib.hid (HKR.out.next hb1)
 have hs1:=hb1.size
 clear hb1 ca za
 have ca:=fun o=>HA1.out.cell o
 have za:=HA1.out.lt
 have cr:=fun o=>HR1.out.cell o
 have fr:=fun o=>HR1.out.frozen o
 have zr:=HR1.out.lt
 cases hv:validS S
 ·have HBAD:=Lib.hid (revS_bad (S:=S) (p:=pl) (by rw [hv];rfl))
  clear hv
  go_wp2_with fail
  refine bodyPost_ret (v:=.tuple #[svV ⟨none,0,0⟩ ⟨none,0,0⟩ ⟨none,0,0⟩,.int .i64 (-1)]) (by simp [results,Tryz.results29,go_sem,cr]) rfl ?_
  rw [HBAD.out]
  refine ⟨⟨none,0,0⟩,⟨none,0,0⟩,⟨none,0,0⟩,rfl,OwS.bare _ _ _ _ _ _,?_⟩
  iterate 3 (refine Below.setCell ?_ (by simp) _)
  exact HB1.out
 ·have HV:=Lib.hid hv
  clear hv
  go_wp2_with fail
  refine (inRange_any pl 0 9 _).mono ?_
  rintro e _ ⟨rfl,rfl⟩
  cases h2:inR pl 0 9
  ·have HBAD:=Lib.hid (revS_bad (S:=S) (p:=pl) (by rw [h2];simp))
   clear h2
   go_wp2_with fail
   refine bodyPost_ret (v:=.tuple #[svV ⟨none,0,0⟩ ⟨none,0,0⟩ ⟨none,0,0⟩,.int .i64 (-1)]) (by simp [results,Tryz.results29,go_sem,cr]) rfl ?_
   rw [HBAD.out]
   refine ⟨⟨none,0,0⟩,⟨none,0,0⟩,⟨none,0,0⟩,rfl,OwS.bare _ _ _ _ _ _,?_⟩
   iterate 3 (refine Below.setCell ?_ (by simp) _)
   exact HB1.out
  ·have H2:=Lib.hid h2
   clear h2
   obtain ⟨q,rfl,hq⟩:=mem_inR H2.out
   have HDONE:=Lib.hid (revS_done HV.out H2.out)
   have hlen:=(validS_of HV.out).1
   go_wp2_with fail
   refine (copyService_any _ _ _ S _ (HRS.out.below HB1.out)).mono ?_
   rintro e w2 ⟨t2,k2,g2,rfl,ho2,hb2⟩
   have HO2:=Lib.hid ho2
   have HB2:=Lib.hid (below_next HB1.out hb2)
   have HR2:=Lib.hid (HR1.out.next hb2)
   have hs2:=hb2.size
   obtain ⟨⟨xs,hxs,hts⟩,hkk,hgg,hnd,hkn,hgn⟩:=ho2
   have HTS:=Lib.hid hts
   have HKK:=Lib.hid hkk
   have HGG:=Lib.hid hgg
   have HND:=Lib.hid hnd
   have HXS:=Lib.hid hxs
   have hn2:=hts.2.2.2.2
   have hxl:xs.length=t2.n:=hts.rd.1.len
   clear ca cr fr zr za hts hkk hgg hnd hxs
   obtain ⟨A2,n2,c2⟩:=t2
   obtain ⟨k2a,k2n,k2c⟩:=k2
   simp only at hn2 hxl
   go_upto_region 4 with (fail)
   refine into_world (fun W2=>Below w2.heap.size w2 W2∧W2.heap.size=w2.heap.size+1∧Blk W2 w2.heap.size 42 #[.slice A2 n2 c2,.slice k2a k2n k2c,.slice g2.a g2.n g2.c]) ⟨ba (Below.refl _ _),by simp,Blk.new _ _ _⟩ ?_
   rintro W2 ⟨hX,hW2z,hloc⟩
   have HX:=Lib.hid hX
   have HLX:=Lib.hid hloc
   have HRX:=Lib.hid (HR2.out.next hX)
   have HBX:=Lib.hid (below_next HB2.out hX)
   have HTX:=Lib.hid ((HTS.out.next hX).mono (lo':=w1.heap.size) (hi':=W2.heap.size) (Nat.le_refl _) hX.size)
   have HKX:=Lib.hid (OwI.next HKK.out hX)
   have HGX:=Lib.hid (OwI.next HGG.out hX)
   have HX0:=Lib.hid (hb2.trans (hX.mono hs2))
   have hs3:=hX.size
   clear hb2
   have cl:=fun o=>HLX.out.cell o
   have zl:=HLX.out.lt
   clear hX hloc
   go_wp2_with fail
   go_loopw [7,8,9,10,25] (fun cnt _ _ _ i wr=>∃ p:Nat,p≤n2∧i=.int .i64 p∧cnt=.int .i64 (revN q (S.ts.take p))∧0≤revN q (S.ts.take p)∧revN q (S.ts.take p)≤p * 1048576∧Hid (Below w1.heap.size w1 wr∧KeepI W2 wr∧W2.heap.size≤wr.heap.size∧Blk wr (w.heap.size+1) 42 #[.slice none 0 0,.slice none 0 0,.slice none 0 0]∧Blk wr w2.heap.size 42 #[.slice A2 n2 c2,.slice k2a k2n k2c,.slice g2.a g2.n g2.c]∧∃ ys zs:List Row,ys.length=p∧ys.map (·.2)=(S.ts.take p).map (revT q)∧zs.map (·.2)=S.ts.drop p∧OwTs w1.heap.size wr.heap.size wr ⟨A2,n2,c2⟩ (ys ++ zs))) (fun cnt _ _ _ i _=>n2 - (intOf i).toNat)
   case atStart=>exact ⟨0,Nat.zero_le _,rfl,by simp [revN],by simp [revN],by simp [revN],HX0.out,KeepI.refl _,Nat.le_refl _,HRX.out,HLX.out,[],xs,rfl,by simp,by simpa using HXS.out,HTX.out⟩
   case round =>
    obtain ⟨p,hp,rfl,rfl,hN0,hN1,HH⟩:=hrel
    obtain ⟨hb,hki,hsz,hres,hloc,ys,zs,hyl,hys,hzs,hot⟩:=HH.out
    have hsl:S.ts.length=n2:=by rw [← HXS.out,List.length_map];exact hxl
    have HKI:=Lib.hid hki
    have HRES:=Lib.hid hres
    have HLOC:=Lib.hid hloc
    have HBL:=Lib.hid hb
    clear HH hki hres hb cl zl
    have cl:=fun o=>hloc.cell o
    have zl:=hloc.lt
    clear hloc
    by_cases hlt:p<n2
    ·obtain ⟨x,zs',rfl⟩:∃ x zs',zs=x :: zs':=by
      cases zs with
      | nil=>have:=congrArg List.length hzs;simp at this;omega
      | cons x r=>exact ⟨x,r,rfl⟩
     have hx:S.ts[p]?=some x.2:=by
      have h1:(S.ts.drop p)[0]?=some x.2:=by rw [← hzs];rfl
      simpa using h1
     have hzs':zs'.map (·.2)=S.ts.drop (p+1):=by
      have h1:=congrArg List.tail hzs
      simpa [List.tail_drop] using h1
     have htk:S.ts.take (p+1)=S.ts.take p ++ [x.2]:=by rw [List.take_add_one,hx];rfl
     have hrow:=hot.2.1 x (by simp)
     have hvb:=(valid_trk HV.out hx).2.1
     obtain ⟨gt,_,hA,_⟩:=hot.1.ow.blk (Nat.lt_of_lt_of_le (show 0<n2 by omega) hot.1.ow.le)
     simp only at hA
     subst hA
     obtain ⟨cur,z0,z1,z2,z3,z6,z7,z8,z9,z10,hbk,_,_,_,_,_,_,_,_,_,_,_,e11⟩:=hot.at12 hyl x.1 rfl
     have hgl:=hbk.lt
     have hne:w2.heap.size≠gt:=Blk.ne_ HLOC.out hbk (by decide)
     have hne2:w.heap.size+1≠gt:=Blk.ne_ HRES.out hbk (by decide)
     have hnb:=hrow.2.2
     have hbl:x.2.b.length=x.1.b.n:=hrow.2.1.ow.rdE.len
     have hwl:=without_le q x.2.b
     have HROW:=Lib.hid hrow
     have HOT:=Lib.hid hot
     have HYS:=Lib.hid hys
     have HYL:=Lib.hid hyl
     have HZS:=Lib.hid hzs'
     have HTK:=Lib.hid htk
     have HBK:=Lib.hid hbk
     have hNs:revN q (S.ts.take (p+1))=revN q (S.ts.take p)+((x.1.b.n:Int) - (withoutE q x.2.b).length):=by rw [htk,revN_app,hbl]
     have HNS:=Lib.hid hNs
     obtain ⟨N,hN⟩:∃ N,N=revN q (S.ts.take p):=⟨_,rfl⟩
     rw [← hN] at hN0 hN1 ⊢
     have HN:=Lib.hid hN
     have HVB:=Lib.hid hvb
     have HBLN:=Lib.hid hbl
     clear hys hyl hzs hzs' htk hot hrow hx hbk hNs hN hvb hbl
     go_wp2_with fail
     refine (implBoardRemove_any _ _ x.1.b.c x.2.b q _ HROW.out.2.1.ow.rdE (Nat.le_trans hnb (by decide)) HROW.out.2.1.ow.le).mono ?_
     rintro e w3 ⟨A3,c3,rfl,hO3,hb3⟩
     obtain ⟨hrm1,hrm2⟩:=remove_valid HVB.out q
     rw [hrm1] at hO3 ⊢
     rw [HBLN.out] at hrm2
     have HRM:=Lib.hid hrm2
     clear hrm1 hrm2
     have HL3:=Lib.hid (HLOC.out.next hb3)
     have HB3:=Lib.hid hb3
     have HOT3:=Lib.hid (HOT.out.next hb3)
     have HBK3:=Lib.hid (HBK.out.next hb3)
     have HO3:=Lib.hid hO3
     have hs4:=hb3.size
     obtain ⟨cur3,y0,y1,y2,y3,y6,y7,y8,y9,y10,hbk3,_,_,_,_,_,_,_,_,_,_,_,d11⟩:=HOT3.out.at12 HYL.out x.1 rfl
     have d11f:=hbk3.frozen (p * 12+11)
     have hgl3:=hbk3.lt
     clear hb3 hO3 hbk3 cl zl e11 hgl
     have cl:=fun o=>HL3.out.cell o
     have zl:=HL3.out.lt
     obtain ⟨L,hL⟩:∃ L,L=(withoutE q x.2.b).length:=⟨_,rfl⟩
     rw [← hL] at hwl ⊢
     have HLL:=Lib.hid hL
     have hL20:L≤1048576:=by have:=HBLN.out;omega
     clear hL
     cases hrb:(removeE x.2.b q).2
     all_goals
      have hrr:=HRM.out
      rw [hrb,← HLL.out] at hrr
      simp only [Bool.false_eq_true,if_false,if_true] at hrr
      have HRR:=Lib.hid hrr
      clear hrr hrb
      go_wp2_with fail
      refine ⟨⟨p+1,by omega,by go_num,?_,?_,?_,?_,?_,?_,?_,?_,ys ++ [(⟨x.1.w,x.1.g,⟨A3,L,c3⟩⟩,⟨x.2.l,withoutE q x.2.b⟩)],zs',by simp [HYL.out],?_,HZS.out,?_⟩,by simp [intOf];omega⟩
      ·rw [HNS.out,← HN.out,← HLL.out];congr 1;have:=HRR.out;omega
      ·rw [HNS.out,← HN.out,← HLL.out];have:=HBLN.out;omega
      ·rw [HNS.out,← HN.out,← HLL.out];push_cast;omega
      ·exact (HBL.out.trans (HB3.out.mono HBL.out.size)).setCell (by simp;have:=(HOT.out.1.lt rfl (Nat.lt_of_lt_of_le (show 0<n2 by omega) HOT.out.1.ow.le)).1;omega) _
      ·exact HKI.out.trans ((KeepI.of_below HB3.out).trans (KeepI.only (g:=gt) HBK3.out (by decide) (Only.set_ (p:=⟨gt,p * 12+11,none⟩) (Only.refl gt _) (.inl rfl) _)))
      ·simpa [World.setCell] using Nat.le_trans hsz hs4
      ·exact (HRES.out.next HB3.out).far (p:=⟨gt,p * 12+11,none⟩) hne2 _
      ·exact HL3.out.far (p:=⟨gt,p * 12+11,none⟩) hne _
      ·rw [HTK.out,List.map_append,List.map_append,HYS.out]
       rfl
      ·rw [List.append_assoc]
       have h:=HOT3.out.newBoard (s:=⟨A3,L,c3⟩) (es:=withoutE q x.2.b) HYL.out (OwI.of (show OwE wr.heap.size w3 A3 L c3 (withoutE q x.2.b) by rw [HLL.out];exact HO3.out)) (HBL.out.size) hs4 hL20
       have hz:∀ v,(w3.setCell ⟨gt,p * 12+11,none⟩ v).heap.size=w3.heap.size:=fun v=>by simp [World.setCell]
       show OwTs _ (World.heap _).size _ _ _
       rw [hz]
       exact h
    ·have hpn:p=n2:=by omega
     subst hpn
     obtain rfl:zs=[]:=by
      have:=congrArg List.length hzs
      simp at this
      exact List.eq_nil_of_length_eq_zero (by omega)
     rw [List.append_nil] at hot
     have hts':S.ts.take p=S.ts:=List.take_of_length_le (by omega)
     rw [hts'] at hys hN0 hN1 ⊢
     have hkw:=keepZ (s:=⟨k2a,k2n,k2c⟩) HKX.out HKI.out
     have hgw:=keepZ (s:=g2) HGX.out HKI.out
     have hk10:k2n=10:=by
      have h:=hkw.ow.len
      simp only [List.length_map,Nat.mul_one] at h
      omega
     subst hk10
     obtain ⟨gk,_,hga,hgB,hblk,_⟩:=hkw.ow.blk (Nat.lt_of_lt_of_le (show 0<10 by decide) hkw.ow.le)
     simp only at hga
     subst hga
     have hos:OwS w1.heap.size wr.heap.size wr ⟨A2,p,c2⟩ ⟨some ⟨gk,0,none⟩,10,k2c⟩ g2 ⟨S.ts.map (revT q),S.keys,S.tags⟩ :=
      ⟨⟨ys,hys,hot⟩,OwI.mono hkw (Nat.le_refl _) (by omega),OwI.mono hgw (Nat.le_refl _) (by omega),HND.out,hkn,hgn⟩
     have HOS:=Lib.hid hos
     have hkl:=hkw.ow.rdI
     obtain ⟨b2,off2,zz,hA2,hb2',hz2,hc2⟩:=hkl.at_ (show q<10 by omega)
     simp only at hA2
     injection hA2 with hA2
     injection hA2 with hA2 hA3
     subst hA2 hA3
     rw [Nat.zero_add] at hc2
     have hfk:=hblk.frozen q
     have zk:=hblk.lt
     have hgne:w.heap.size+1≠gk:=by omega
     have hgne2:w2.heap.size≠gk:=Blk.ne_ HLOC.out hblk (by decide)
     clear hos hkw hgw hkl hblk hot hys hz2
     go_upto_region 13 with (fail)
     refine into_world (fun Y=>Below w.heap.size w Y∧Blk Y (w.heap.size+1) 42 #[.slice none 0 0,.slice none 0 0,.slice none 0 0]∧Blk Y w2.heap.size 42 #[.slice A2 p c2,.slice (some ⟨gk,0,none⟩) 10 k2c,.slice g2.a g2.n g2.c]∧OwS w1.heap.size Y.heap.size Y ⟨A2,p,c2⟩ ⟨some ⟨gk,0,none⟩,10,k2c⟩ g2 ⟨S.ts.map (revT q),S.keys.set q 0,S.tags⟩) ⟨(HB1.out.trans (HBL.out.mono (by omega))).setCell (by simp;omega) _,HRES.out.far (p:=⟨gk,q,none⟩) hgne _,HLOC.out.far (p:=⟨gk,q,none⟩) hgne2 _,?_⟩ ?_
     ·have h:=HOS.out.setKey rfl (show q<10 by omega) 0
      exact h.mono (Nat.le_refl _) (by simp [World.setCell])
     rintro Y ⟨hbY,hrY,hlY,hoY⟩
     clear hc2 hfk zk cl zl
     have HBY:=Lib.hid hbY
     have HRY:=Lib.hid hrY
     have HLY:=Lib.hid hlY
     have HOY:=Lib.hid hoY
     clear hbY hrY hlY hoY
     have cr:=fun o=>HRY.out.cell o
     have fr:=fun o=>HRY.out.frozen o
     have zr:=HRY.out.lt
     have cl:=fun o=>HLY.out.cell o
     have zl:=HLY.out.lt
     go_wp2_with fail
     refine bodyPost_ret (v:=.tuple #[svV ⟨A2,p,c2⟩ ⟨some ⟨gk,0,none⟩,10,k2c⟩ g2,.int .i64 (revN q S.ts)]) (by simp [results,Tryz.results29,go_sem,cr]) rfl ?_
     rw [HDONE.out]
     have hend:∀ Z:World,Frm (w.heap.size+1) (w.heap.size+2) Y Z→CntPost w.heap.size (⟨S.ts.map (revT q),S.keys.set q 0,S.tags⟩,revN q S.ts) w (.returned (.tuple #[svV ⟨A2,p,c2⟩ ⟨some ⟨gk,0,none⟩,10,k2c⟩ g2,.int .i64 (revN q S.ts)])) Z:=fun Z hZ =>
      ⟨⟨A2,p,c2⟩,⟨some ⟨gk,0,none⟩,10,k2c⟩,g2,rfl,(HOY.out.frm hZ (.inr (by omega))).mono (by omega) hZ.size,HBY.out.trans (hZ.below (by omega) HBY.out.size)⟩
     refine hend _ ?_
     iterate 3 (refine Frm.set_ ?_ (by simp) (by simp) _)
     exact Frm.refl _ _ _
end Go.Proofs.YtkgfmgajhgfgjaaGreatDoor

namespace Go.Proofs.YtkgfmgajhgfgjaaGreatDoor
open Go.RowKit Go.Sort
theorem addE_len8 (es:List Ent) (x:Ent) (h:es.length≤8):(addE es x).1.length≤8:=by
 unfold addE
 split
 ·split
  ·exact h
  ·split
   ·exact h
   ·unfold outE;simp only [List.length_take];omega
 ·exact Nat.zero_le _
end Go.Proofs.YtkgfmgajhgfgjaaGreatDoor

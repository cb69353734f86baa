/-
  Lemmas and contracts: Lu. No condition.
-/
import Derived.Test.YtkgfmgajhgfgjaaGreatDoorKa19
import Derived.Test.YtkgfmgajhgfgjaaGreatDoorKa20
import Derived.Test.YtkgfmgajhgfgjaaGreatDoorKa21
import Derived.Test.YtkgfmgajhgfgjaaGreatDoorKa23
set_option linter.unusedSimpArgs false
set_option linter.unusedVariables false
set_option linter.unusedSectionVars false
namespace Go.Proofs.YtkgfmgajhgfgjaaGreatDoor
open Go.RowKit Go.Sort
theorem srcT_none {w:World} {A:Option Addr} {n i:Nat} {xs:List Row} (hl:xs.length=n) (h:n - i=0):Src w 12 A (n - i) ((cellsT xs).drop (i * 12)) :=
 ⟨by rw [List.length_drop,cellsT_len];omega,fun hm=>absurd hm (by omega)⟩
theorem src_dropT {B T:Nat} {w:World} {g n c i:Nat} {xs:List Row} (h:Ow B w T 12 (some ⟨g,0,none⟩) n c (cellsT xs)) (hi:i≤n):Src w 12 (if c=i then some ⟨g,0,none⟩ else some ⟨g,i * 12,none⟩) (n - i) ((cellsT xs).drop (i * 12)):=by
 have hl:=h.len
 have hle:=h.le
 rw [cellsT_len] at hl
 refine ⟨by rw [List.length_drop,cellsT_len];omega,fun hm=>⟨_,by rw [if_neg (by omega)],fun j u hu=>?_⟩⟩
 rw [List.getElem?_drop] at hu
 obtain ⟨ad,had,hcell⟩:=h.src.2 (by omega)
 injection had with had
 subst had
 have:=hcell _ u hu
 rw [Addr.add_lit] at this ⊢
 simpa using this
def contT (xs:List Row) (id:Int) (i:Nat):Bool:=match xs[i]? with
 | some x=>decide (x.2.l.id<id)
 | none=>false
theorem contT_get {xs:List Row} {id:Int} {i:Nat} (h:contT xs id i=true):∃ x,xs[i]?=some x∧x.2.l.id<id:=by
 unfold contT at h
 split at h
 ·rename_i x hx
  exact ⟨x,hx,by simpa using h⟩
 ·cases h
theorem contT_place {S:Svc} {xs:List Row} {id:Int} {i:Nat} (hx:xs.map (·.2)=S.ts) (hi:i≤xs.length) (h1:∀ j x,j<i→xs[j]?=some x→x.2.l.id<id) (h:contT xs id i=false):placeOf S.ts id=i:=by
 refine place_at _ _ _ (by rw [← hx,List.length_map];exact hi) (fun j t hj ht=>?_) (fun t ht=>?_)
 ·rw [← hx,List.getElem?_map] at ht
  obtain ⟨y,hy,rfl⟩:=Option.map_eq_some_iff.1 ht
  exact h1 j y hj hy
 ·rw [← hx,List.getElem?_map] at ht
  obtain ⟨y,hy,rfl⟩:=Option.map_eq_some_iff.1 ht
  unfold contT at h
  rw [hy] at h
  simpa using h
set_option maxRecDepth 100000 in
set_option maxHeartbeats 8000000 in
theorem specServiceLevel_any (t k g:Sl) (S:Svc) (l:Lvl) (ws gs:Sl) (w:World) (hr:RdS w t k g S) (hl:RdL w l ws gs) :
  Calls Tryz.prog 156 #[svV t k g,lvlV l ws gs] w (SvcPost w.heap.size (levelS S l) w):=by
 have HRS:=Lib.hid hr
 have HRL:=Lib.hid hl
 clear hr hl
 go_enter Tryz.func156,Tryz.ntmps156
 go_upto_region 1 with (fail)
 refine into_world (fun W=>Below w.heap.size w W∧W.heap.size=w.heap.size+3∧Blk W w.heap.size 42 #[.slice t.a t.n t.c,.slice k.a k.n k.c,.slice g.a g.n g.c]∧Blk W (w.heap.size+1) 29 #[.int .i64 l.id,.int .i64 l.ticks,.int .i64 l.sx,.int .i64 l.sy,.slice ws.a ws.n ws.c,.slice gs.a gs.n gs.c,.int .i64 l.f.1,.int .i64 l.f.2.1,.int .i64 l.f.2.2.1,.int .i64 l.f.2.2.2,.int .i64 l.bans]∧Blk W (w.heap.size+2) 42 #[.slice none 0 0,.slice none 0 0,.slice none 0 0]) ⟨by go_grown,by simp,((Blk.new _ _ _).alloc _).alloc _,(Blk.newAt _ _ _ _ (by simp)).alloc _,Blk.newAt _ _ _ _ (by simp)⟩ ?_
 rintro W ⟨hbw,hwz,hka,hkl,hkr⟩
 have HBW:=Lib.hid hbw
 have HKA:=Lib.hid hka
 have HKL:=Lib.hid hkl
 have HKR:=Lib.hid hkr
 have ca:=fun o=>hka.cell o
 have za:=hka.lt
 have cl:=fun o=>hkl.cell o
 have zl:=hkl.lt
 clear hbw hka hkl hkr
 go_wp2_with fail
 refine (specServiceValid_any _ _ _ S _ (HRS.out.below HBW.out)).mono ?_
 rintro e w1 ⟨rfl,hb1⟩
 have HB1:=Lib.hid (below_next HBW.out hb1)
 have HA1:=Lib.hid (HKA.out.next hb1)
 have HL1:=Lib.hid (HKL.out.next hb1)
 have HR1:=Lib.hid (HKR.out.next hb1)
 have hs1:=hb1.size
 clear hb1 ca za cl zl
 have ca:=fun o=>HA1.out.cell o
 have za:=HA1.out.lt
 have cl:=fun o=>HL1.out.cell o
 have zl:=HL1.out.lt
 have cr:=fun o=>HR1.out.cell o
 have fr:=fun o=>HR1.out.frozen o
 have zr:=HR1.out.lt
 cases hv:validS S
 ·have HBAD:=Lib.hid (levelS_bad (S:=S) (l:=l) (by rw [hv];rfl))
  have HB2:=HB1
  clear hv
  go_wp2_with fail
  refine bodyPost_ret (v:=.tuple #[svV ⟨none,0,0⟩ ⟨none,0,0⟩ ⟨none,0,0⟩,.bool false]) (by simp [results,Tryz.results156,go_sem,cr]) rfl ?_
  rw [HBAD.out]
  refine ⟨⟨none,0,0⟩,⟨none,0,0⟩,⟨none,0,0⟩,rfl,OwS.bare _ _ _ _ _ _,?_⟩
  iterate 3 (refine Below.setCell ?_ (by simp;omega) _)
  exact HB2.out
 ·have HV:=Lib.hid hv
  clear hv
  go_wp2_with fail
  refine (specLevelValid_any l ws gs _ (HRL.out.below HB1.out)).mono ?_
  rintro e w2 ⟨rfl,hb2⟩
  have HB2:=Lib.hid (below_next HB1.out hb2)
  have HA2:=Lib.hid (HA1.out.next hb2)
  have HL2:=Lib.hid (HL1.out.next hb2)
  have HR2:=Lib.hid (HR1.out.next hb2)
  have hs2:=hb2.size
  clear hb2 ca za cl zl cr fr zr
  have ca:=fun o=>HA2.out.cell o
  have za:=HA2.out.lt
  have cl:=fun o=>HL2.out.cell o
  have zl:=HL2.out.lt
  have cr:=fun o=>HR2.out.cell o
  have fr:=fun o=>HR2.out.frozen o
  have zr:=HR2.out.lt
  cases h2:levelOk l
  ·have HBAD:=Lib.hid (levelS_bad (S:=S) (l:=l) (by rw [h2];simp))
   clear h2
   go_wp2_with fail
   refine bodyPost_ret (v:=.tuple #[svV ⟨none,0,0⟩ ⟨none,0,0⟩ ⟨none,0,0⟩,.bool false]) (by simp [results,Tryz.results156,go_sem,cr]) rfl ?_
   rw [HBAD.out]
   refine ⟨⟨none,0,0⟩,⟨none,0,0⟩,⟨none,0,0⟩,rfl,OwS.bare _ _ _ _ _ _,?_⟩
   iterate 3 (refine Below.setCell ?_ (by simp;omega) _)
   exact HB2.out
  ·have H2:=Lib.hid h2
   clear h2
   go_wp2_with fail
   refine (l41Copy_any _ _ _ S _ (HRS.out.below HB2.out)).mono ?_
   rintro e w3 ⟨t3,k3,g3,rfl,ho3,hb3⟩
   have HO3:=Lib.hid ho3
   have HB3:=Lib.hid (below_next HB2.out hb3)
   have HA3:=Lib.hid (HA2.out.next hb3)
   have HL3:=Lib.hid (HL2.out.next hb3)
   have HR3:=Lib.hid (HR2.out.next hb3)
   have hs3:=hb3.size
   clear ca za cl zl cr fr zr ho3 hb3
   have ca:=fun o=>HA3.out.cell o
   have za:=HA3.out.lt
   have cl:=fun o=>HL3.out.cell o
   have zl:=HL3.out.lt
   have cr:=fun o=>HR3.out.cell o
   have fr:=fun o=>HR3.out.frozen o
   have zr:=HR3.out.lt
   go_upto_region 4 with (fail)
   refine into_world (fun W=>Below w3.heap.size w3 W∧W.heap.size=w3.heap.size+1∧Blk W w3.heap.size 42 #[.slice t3.a t3.n t3.c,.slice k3.a k3.n k3.c,.slice g3.a g3.n g3.c]) ⟨by go_grown,by simp,Blk.new _ _ _⟩ ?_
   rintro X0 ⟨hbx,hxz,hout⟩
   have HBX0:=Lib.hid (below_next HB3.out hbx)
   have HA5:=Lib.hid (HA3.out.next hbx)
   have HL5:=Lib.hid (HL3.out.next hbx)
   have HR5:=Lib.hid (HR3.out.next hbx)
   have HO5:=Lib.hid (HO3.out.next hbx)
   have HT5:=Lib.hid hout
   clear hbx hout ca za cl zl cr fr zr
   have ca:=fun o=>HA5.out.cell o
   have za:=HA5.out.lt
   have cl:=fun o=>HL5.out.cell o
   have zl:=HL5.out.lt
   go_wp2_with fail
   refine (l41Find_any _ _ _ S l.id _ (HRS.out.below HBX0.out)).mono ?_
   rintro e w4 ⟨rfl,hb4⟩
   have HB4:=Lib.hid (below_next HBX0.out hb4)
   have HA4:=Lib.hid (HA5.out.next hb4)
   have HL4:=Lib.hid (HL5.out.next hb4)
   have HR4:=Lib.hid (HR5.out.next hb4)
   have HO4:=Lib.hid (HO5.out.next hb4)
   have HT4:=Lib.hid (HT5.out.next hb4)
   have hs40:=hb4.size
   have hs4:w3.heap.size≤w4.heap.size:=by omega
   clear hb4 ca za cl zl
   have ca:=fun o=>HA4.out.cell o
   have za:=HA4.out.lt
   have cl:=fun o=>HL4.out.cell o
   have zl:=HL4.out.lt
   have cr:=fun o=>HR4.out.cell o
   have fr:=fun o=>HR4.out.frozen o
   have zr:=HR4.out.lt
   have ct:=fun o=>HT4.out.cell o
   have ft:=fun o=>HT4.out.frozen o
   have zt:=HT4.out.lt
   cases hf:S.ts.findIdx? (hasId l.id) with
   | some i0 =>
    have HBAD:=Lib.hid (levelS_known HV.out H2.out hf)
    rw [findI_at hf]
    clear hf
    go_wp2_with fail
    refine bodyPost_ret (v:=.tuple #[svV t3 k3 g3,.bool false]) (by first|(simp [results,Tryz.results156,go_sem,cr];done)|(simp [results,Tryz.results156,go_sem,cr];omega)) rfl ?_
    rw [HBAD.out]
    have hend:∀ Z:World,Frm (w.heap.size+2) (w.heap.size+3) w4 Z→SvcPost w.heap.size (S,false) w (.returned (.tuple #[svV t3 k3 g3,.bool false])) Z:=fun Z hZ =>
     ⟨t3,k3,g3,rfl,(HO4.out.frm hZ (.inr (by omega))).mono (by omega) (Nat.le_trans hs4 hZ.size),HB4.out.trans (hZ.below (by omega) HB4.out.size)⟩
    refine hend _ ?_
    iterate 3 (refine Frm.set_ ?_ (by simp) (by simp) _)
    exact Frm.refl _ _ _
   | none =>
    have HF:=Lib.hid hf
    rw [findI_not hf]
    clear hf
    have htn:t.n=S.ts.length:=by
     obtain ⟨ys,hys,hY⟩:=HRS.out.1
     have h:=hY.1.len
     rw [← hys,List.length_map]
     omega
    by_cases hfull:4≤t.n
    ·have HBAD:=Lib.hid (levelS_full HV.out H2.out (by omega))
     clear htn
     go_wp2_with fail
     refine bodyPost_ret (v:=.tuple #[svV t3 k3 g3,.bool false]) (by first|(simp [results,Tryz.results156,go_sem,cr];done)|(simp [results,Tryz.results156,go_sem,cr];omega)) rfl ?_
     rw [HBAD.out]
     have hend:∀ Z:World,Frm (w.heap.size+2) (w.heap.size+3) w4 Z→SvcPost w.heap.size (S,false) w (.returned (.tuple #[svV t3 k3 g3,.bool false])) Z:=fun Z hZ =>
      ⟨t3,k3,g3,rfl,(HO4.out.frm hZ (.inr (by omega))).mono (by omega) (Nat.le_trans hs4 hZ.size),HB4.out.trans (hZ.below (by omega) HB4.out.size)⟩
     refine hend _ ?_
     iterate 3 (refine Frm.set_ ?_ (by simp) (by simp) _)
     exact Frm.refl _ _ _
    ·obtain ⟨⟨xs,hxs,hT⟩,hK3,hG3,hnd3⟩:=HO4.out
     obtain ⟨A,n,c⟩:=t3
     have hxn:xs.length=n:=by
      have h:=hT.1.ow.len
      rw [cellsT_len] at h
      simp only at h
      omega
     have hn4:n≤4:=by
      have h':xs.length=S.ts.length:=by rw [← hxs,List.length_map]
      omega
     have HXN:=Lib.hid hxn
     have HXS:=Lib.hid hxs
     have HTS:=Lib.hid hT
     have HK4:=Lib.hid hK3
     have HG4:=Lib.hid hG3
     have HND:=Lib.hid hnd3
     have HSL:=Lib.hid (show S.ts.length<4 by omega)
     clear hxs hT hK3 hG3 hnd3 hxn htn
     have HS4:=Lib.hid hs4
     go_wp2_with fail
     go_loopg [7] n (fun gg i wr=>∃ p:Nat,p≤n∧n - p≤gg∧i=.int .i64 p∧Hid (Below w4.heap.size w4 wr∧∀ j x,j<p→xs[j]?=some x→x.2.l.id<l.id))
     case atStart=>exact ⟨0,Nat.zero_le _,by omega,rfl,Below.refl _ _,fun j x hj=>absurd hj (Nat.not_lt_zero _)⟩
     case round =>
      obtain ⟨i,hi,hg,rfl,HH⟩:=hrel
      clear ca za cl zl cr fr zr ct ft zt
      have HB6:=Lib.hid (below_next HB4.out HH.out.1)
      have HL6:=Lib.hid (HL4.out.next HH.out.1)
      have HR6:=Lib.hid (HR4.out.next HH.out.1)
      have HT6:=Lib.hid (HT4.out.next HH.out.1)
      have HX6:=Lib.hid (HTS.out.next HH.out.1)
      have hs6:=HH.out.1.size
      go_upto_region 7 with (fail)
      go_cut [48] (fun s48 wx=>s48=.bool (contT xs l.id i)∧Hid (Below wr.heap.size wr wx))
      case first =>
       have hd0:wr.cell? ⟨w3.heap.size,0,none⟩=some (.slice A n c):=HT6.out.cell 0
       have hd1:wr.cell? ⟨w.heap.size+1,0,none⟩=some (.int .i64 l.id):=HL6.out.cell 0
       have g1:=fun d os=>cell_regrown hd1 d os
       by_cases hlt:i<n
       ·obtain ⟨b,off,x,hA,hb,hx,hrx,e0,_⟩:=RdTs.cells HX6.out.rd hlt
        subst hA
        have g0:=fun d os=>cell_regrown hd0 d os
        have e0':=fun d os=>cell_regrown e0 d os
        have hct:contT xs l.id i=decide (x.2.l.id<l.id):=by simp [contT,hx]
        have HC:=Lib.hid hct
        clear hd0 hd1 e0 hx hrx hct
        refine wp_region_qb (by kernel_rfl) (by kernel_rfl) ?_
        repeat (go_big_quiet_step (fail))
        refine wpQuiet_nil ?_
        intro w5 hb5
        go_wp2_with fail
        go_meet
        exact ⟨by rw [HC.out],hb5⟩
       ·have g0:=fun d os=>cell_regrown hd0 d os
        have hct:contT xs l.id i=false:=by simp [contT,List.getElem?_eq_none (show xs.length≤i by have:=HXN.out;omega)]
        have HC:=Lib.hid hct
        clear hd0 hd1 hct
        refine wp_region_qb (by kernel_rfl) (by kernel_rfl) ?_
        repeat (go_big_quiet_step (fail))
        refine wpQuiet_nil ?_
        intro w5 hb5
        go_wp2_with fail
        go_meet
        exact ⟨by rw [HC.out],hb5⟩
      case rest =>
       obtain ⟨rfl,hB5⟩:=hcut
       cases hct:contT xs l.id i with
       | true =>
        obtain ⟨x,hx,hxl⟩:=contT_get hct
        have hlt:i<n:=by have:=(List.getElem?_eq_some_iff.1 hx).1;have:=HXN.out;omega
        have HX:=Lib.hid hx
        have HXL:=Lib.hid hxl
        clear hx hxl hct
        go_wp2
        go_roundg (n - (i+1))
        case measure=>omega
        case rel=>exact ⟨i+1,by omega,by omega,by go_num,below_next HH.out.1 hB5.out,fun j y hj hy=>by
         rcases Nat.lt_succ_iff_lt_or_eq.1 hj with hj|rfl
         ·exact HH.out.2 j y hj hy
         ·rw [HX.out] at hy;injection hy with hy;subst hy;exact HXL.out⟩
       | false =>
        have HDN:=Lib.hid (levelS_done HV.out H2.out HF.out HSL.out (contT_place HXS.out (by rw [HXN.out];exact hi) HH.out.2 hct))
        clear hct
        have HB7:=Lib.hid (below_next HB6.out hB5.out)
        have HL7:=Lib.hid (HL6.out.next hB5.out)
        have HR7:=Lib.hid (HR6.out.next hB5.out)
        have HT7:=Lib.hid (HT6.out.next hB5.out)
        have HX7:=Lib.hid (HX6.out.next hB5.out)
        have HK7:=Lib.hid ((HK4.out.next HH.out.1).next hB5.out)
        have HG7:=Lib.hid ((HG4.out.next HH.out.1).next hB5.out)
        have hs7:=hB5.out.size
        have cl:=fun o=>HL7.out.cell o
        have zl:=HL7.out.lt
        go_wp2_with fail
        refine (l41Level_any l ws gs _ (HRL.out.below HB7.out)).mono ?_
        rintro e w8 ⟨a1,b1,rfl,hol,hnd,hb8⟩
        have HOL:=Lib.hid hol
        have HNB:=Lib.hid hnd
        have HB8:=Lib.hid (below_next HB7.out hb8)
        have HR8:=Lib.hid (HR7.out.next hb8)
        have HT8:=Lib.hid (HT7.out.next hb8)
        have HX8:=Lib.hid (HX7.out.next hb8)
        have HK8:=Lib.hid (HK7.out.next hb8)
        have HG8:=Lib.hid (HG7.out.next hb8)
        have hs8:=hb8.size
        clear hol hnd hb8 cl zl
        go_upto_region 10 with (fail)
        generalize hbb:decide (4≤(t.n:Int))=bb
        clear hfull hbb
        obtain ⟨Ab,hAb⟩:∃ Ab:Option Addr,Ab=some ⟨w8.heap.size,0,none⟩:=⟨_,rfl⟩
        rw [← hAb]
        clear hAb
        refine into_world (fun W=>Below w8.heap.size w8 W∧Blk W (w8.heap.size+1) 65 #[.int .i64 l.id,.int .i64 l.ticks,.int .i64 l.sx,.int .i64 l.sy,.slice a1.a a1.n a1.c,.slice b1.a b1.n b1.c,.int .i64 l.f.1,.int .i64 l.f.2.1,.int .i64 l.f.2.2.1,.int .i64 l.f.2.2.2,.int .i64 l.bans,.slice Ab 0 0]) ⟨by go_grown,Blk.newAt _ _ _ _ (by simp)⟩ ?_
        rintro X ⟨hbx,hkt⟩
        have HBX:=Lib.hid (below_next HB8.out hbx)
        have HOUT:=Lib.hid (HT8.out.next hbx)
        have HRES:=Lib.hid (HR8.out.next hbx)
        have HTX:=Lib.hid (HX8.out.next hbx)
        have HKX:=Lib.hid (HK8.out.next hbx)
        have HGX:=Lib.hid (HG8.out.next hbx)
        have HTB:=Lib.hid hkt
        have HLV:=Lib.hid (((HOL.out.next hbx).mono (by omega) (Nat.le_refl _):OwL w3.heap.size w8.heap.size X l a1 b1))
        have hsx:=hbx.size
        have HTK:Hid (Src X 12 A i ((cellsT xs).take (i * 12))):=by
         show Src X 12 A i ((cellsX encT xs).take (i * 12))
         rw [cellsX_take encT_len]
         exact Src.rd encT_len (HTX.out.rd.1.take hi)
        have HOT:Hid (∀ u ∈ (cellsT xs).take (i * 12),u.oneCell'=true):=fun u hu=>cellsX_oneCell encT_one _ u (List.mem_of_mem_take hu)
        have HOD:Hid (∀ u ∈ (cellsT xs).drop (i * 12),u.oneCell'=true):=fun u hu=>cellsX_oneCell encT_one _ u (List.mem_of_mem_drop hu)
        have hcn:n≤c:=HTX.out.1.ow.le
        have hrow:(c=0∧n=0∧i=0)∨∃ g,A=some ⟨g,0,none⟩:=by
         rcases Nat.eq_zero_or_pos c with h0|h0
         ·exact .inl ⟨h0,by omega,by omega⟩
         ·obtain ⟨g,_,hA,_⟩:=HTX.out.1.ow.blk h0
          exact .inr ⟨g,hA⟩
        have hiL:=hi
        have hic:i≤c:=Nat.le_trans hi hcn
        obtain ⟨i0,hi0,hz0,hz1,hz2⟩:=info_parts infoT
        have HI:=Lib.hid hi0
        have HZ:=Lib.hid hz0
        have HS:=Lib.hid hz1
        have HBY:=Lib.hid hz2
        clear hbx hkt hi0 hz0 hz1 hz2 HH
        refine wp_region_inv2 (by kernel_rfl) (by kernel_rfl) (fun listed a w'=>∃ (s55 s56 s57 s58 s59 s60 s61 s62 s63 s64 s65 s66 s67 s68 s69:Value) (q:Nat) (A5:Option Addr) (c5:Nat) (A8:Option Addr) (c8:Nat),a={ tmps:=#[svV t k g,lvlV l ws gs,Value.pointer (some (⟨w.heap.size,0,none⟩:Addr)),Value.pointer (some (⟨w.heap.size+1,0,none⟩:Addr)),Value.pointer (some (⟨w.heap.size+1+1,0,none⟩:Addr)),Value.bool false,Value.pointer (some (⟨w3.heap.size,0,none⟩:Addr)),Value.int .i64 (i:Int),Value.pointer (some (⟨w8.heap.size+1,0,none⟩:Addr)),Value.agg #[Value.slice t.a t.n t.c,Value.slice k.a k.n k.c,Value.slice g.a g.n g.c],Value.bool true,Value.bool false,Value.bool false,Value.agg #[Value.int .i64 l.id,Value.int .i64 l.ticks,Value.int .i64 l.sx,Value.int .i64 l.sy,Value.slice ws.a ws.n ws.c,Value.slice gs.a gs.n gs.c,Value.int .i64 l.f.1,Value.int .i64 l.f.2.1,Value.int .i64 l.f.2.2.1,Value.int .i64 l.f.2.2.2,Value.int .i64 l.bans],Value.bool true,Value.bool false,Value.bool false,undef,Value.agg #[Value.slice t.a t.n t.c,Value.slice k.a k.n k.c,Value.slice g.a g.n g.c],svV ⟨A,n,c⟩ k3 g3,Value.agg #[Value.slice t.a t.n t.c,Value.slice k.a k.n k.c,Value.slice g.a g.n g.c],Value.pointer (some (⟨w.heap.size+1,0,none⟩:Addr)),Value.int .i64 l.id,Value.int .i64 (-1),Value.bool false,Value.bool false,Value.pointer (some (⟨w.heap.size,0,none⟩:Addr)),Value.slice t.a t.n t.c,Value.int .i64 (t.n:Int),Value.bool bb,Value.bool bb,undef,u32,u33,u34,u35,u36,u37,u38,u39,u40,u41,u42,u43,u44,u45,u46,u47,Value.bool false,u49,u50,Value.agg #[Value.int .i64 l.id,Value.int .i64 l.ticks,Value.int .i64 l.sx,Value.int .i64 l.sy,Value.slice ws.a ws.n ws.c,Value.slice gs.a gs.n gs.c,Value.int .i64 l.f.1,Value.int .i64 l.f.2.1,Value.int .i64 l.f.2.2.1,Value.int .i64 l.f.2.2.2,Value.int .i64 l.bans],lvlV l a1 b1,Value.slice Ab 0 0,Value.agg #[Value.int .i64 l.id,Value.int .i64 l.ticks,Value.int .i64 l.sx,Value.int .i64 l.sy,Value.slice a1.a a1.n a1.c,Value.slice b1.a b1.n b1.c,Value.int .i64 l.f.1,Value.int .i64 l.f.2.1,Value.int .i64 l.f.2.2.1,Value.int .i64 l.f.2.2.2,Value.int .i64 l.bans,Value.slice Ab 0 0],s55,s56,s57,s58,s59,s60,s61,s62,s63,s64,s65,s66,s67,s68,s69,undef],defers:=[] }∧((Dl listed 13=false∧LS w3.heap.size ⟨A,n,c⟩ i ((⟨a1,b1,⟨Ab,0,0⟩⟩,⟨l,[]⟩):Row) xs X.heap.size X (Dl listed) s55 s56 s57 s58 s59 s60 s61 s62 s63 s64 s65 s66 s67 s69 q A5 c5 A8 c8 w')∨(Dl listed 13=true∧LS2 w3.heap.size (fun v X'=>∃ A4 c4,v=.slice A4 (n+1) c4∧LvP w w2.heap.size w3.heap.size (n+1) k3 g3 ⟨S.ts.take i ++ ⟨l,[]⟩ :: S.ts.drop i,S.keys,S.tags⟩ A4 c4 (.slice A n c) X') (fun X'=>∃ A4 c4,LvP w w2.heap.size w3.heap.size (n+1) k3 g3 ⟨S.ts.take i ++ ⟨l,[]⟩ :: S.ts.drop i,S.keys,S.tags⟩ A4 c4 (.slice A4 (n+1) c4) X') (Dl listed) s68 s69 w'))) ?_ ?_ ?_
        ·refine ⟨undef,undef,undef,undef,undef,undef,undef,undef,undef,undef,undef,undef,undef,undef,undef,0,none,0,none,0,rfl,.inl ⟨rfl,{ bel:=?_,hN:=rfl,f0:=?_,f1:=?_,f2:=?_,f3:=?_,f4:=?_,f5:=?_,f6:=?_,f7:=?_,f8:=?_,f9:=?_,f10:=?_,f11:=?_,f12:=?_,f14:=?_ }⟩⟩
         ·exact ⟨rfl,rfl,rfl,Nat.le_refl _,fun _ _=>rfl⟩
         all_goals (intro q';cases q')
        ·intro listed a w' j o_ hs hcl ho hl hd hR K hK
         obtain ⟨s55,s56,s57,s58,s59,s60,s61,s62,s63,s64,s65,s66,s67,s68,s69,q,A5,c5,A8,c8,rfl,⟨h13,hc⟩|⟨h13,he⟩⟩:=hR
         ·have hltj:j<16:=(Array.getElem?_eq_some_iff.1 ho).1
          rcases cases16 hltj with rfl|rfl|rfl|rfl|rfl|rfl|rfl|rfl|rfl|rfl|rfl|rfl|rfl|rfl|rfl|rfl
          ·cases (show some _=some o_ from ho)
           go_simp
           exact hK _ _ ⟨_,s56,s57,s58,s59,s60,s61,s62,s63,s64,s65,s66,s67,s68,s69,q,A5,c5,A8,c8,rfl,.inl ⟨by rw [Dl_set (by rw [hs];decide),upd_ne _ (by decide)];exact h13,by rw [Dl_set (by rw [hs];decide)];exact (hc.next (ba (Below.refl _ _))).u0 hl _⟩⟩
          ·cases (show some _=some o_ from ho)
           go_simp
           exact hK _ _ ⟨s55,_,s57,s58,s59,s60,s61,s62,s63,s64,s65,s66,s67,s68,s69,q,A5,c5,A8,c8,rfl,.inl ⟨by rw [Dl_set (by rw [hs];decide),upd_ne _ (by decide)];exact h13,by rw [Dl_set (by rw [hs];decide)];exact hc.u1 hl⟩⟩
          ·cases (show some _=some o_ from ho)
           obtain rfl:=hc.f1 (dep_ hs (by decide) (hd ⟨1,.data⟩ (by simp) rfl))
           have cc:=(HOUT.out.next hc.bel).cell 0
           go_simp
           exact hK _ _ ⟨s55,_,_,s58,s59,s60,s61,s62,s63,s64,s65,s66,s67,s68,s69,q,A5,c5,A8,c8,rfl,.inl ⟨by rw [Dl_set (by rw [hs];decide),upd_ne _ (by decide)];exact h13,by rw [Dl_set (by rw [hs];decide)];exact hc.u2 hl⟩⟩
          ·cases (show some _=some o_ from ho)
           go_simp
           exact hK _ _ ⟨s55,s56,s57,_,s59,s60,s61,s62,s63,s64,s65,s66,s67,s68,s69,q,A5,c5,A8,c8,rfl,.inl ⟨by rw [Dl_set (by rw [hs];decide),upd_ne _ (by decide)];exact h13,by rw [Dl_set (by rw [hs];decide)];exact hc.u3 hl⟩⟩
          ·cases (show some _=some o_ from ho)
           obtain rfl:=hc.f2 (dep_ hs (by decide) (hd ⟨2,.data⟩ (by simp) rfl))
           obtain rfl:=hc.f3 (dep_ hs (by decide) (hd ⟨3,.data⟩ (by simp) rfl))
           rcases hrow with ⟨h1,h2,h3⟩|⟨g,h1⟩
           ·subst h1 h2 h3
            go_simp
            exact hK _ _ ⟨s55,s56,_,_,_,s60,s61,s62,s63,s64,s65,s66,s67,s68,s69,q,A5,c5,A8,c8,rfl,.inl ⟨by rw [Dl_set (by rw [hs];decide),upd_ne _ (by decide)];exact h13,by rw [Dl_set (by rw [hs];decide)];exact hc.u4 hl⟩⟩
           ·subst h1
            go_simp
            exact hK _ _ ⟨s55,s56,_,_,_,s60,s61,s62,s63,s64,s65,s66,s67,s68,s69,q,A5,c5,A8,c8,rfl,.inl ⟨by rw [Dl_set (by rw [hs];decide),upd_ne _ (by decide)];exact h13,by rw [Dl_set (by rw [hs];decide)];exact hc.u4 hl⟩⟩
          ·cases (show some _=some o_ from ho)
           obtain ⟨A0,rfl⟩:=hc.f0 (dep_ hs (by decide) (hd ⟨0,.data⟩ (by simp) rfl))
           obtain rfl:=hc.f4 (dep_ hs (by decide) (hd ⟨4,.data⟩ (by simp) rfl))
           refine step_append_ow _ rfl (.tmp 55) (.tmp 59) _ rfl w'.heap.size 65 i0 _ 12 144 Tryz.underlying40 HI.out HZ.out HS.out HBY.out rfl (by omega) _ 0 0 [] rfl (Ow.bare _ _ _ _ _) _ i c ((cellsT xs).take (i * 12)) rfl (HTK.out.below hc.bel) HOT.out (by unfold maxLen;omega) (by omega) (Nat.le_refl _) ?_
           intro A2 c2 w5 hO hg _
           have hb5:=(Ow.bare w'.heap.size _ 65 12 _).grown hg (Below.refl _ _) (Nat.le_refl _) (Nat.le_refl _)
           rw [Nat.zero_add] at hO ⊢
           rw [List.nil_append] at hO
           exact hK _ _ ⟨_,s56,s57,s58,_,_,s61,s62,s63,s64,s65,s66,s67,s68,s69,q,_,_,A8,c8,rfl,.inl ⟨by rw [Dl_set (by rw [hs];decide),upd_ne _ (by decide)];exact h13,by rw [Dl_set (by rw [hs];decide)];exact (hc.next hb5).u5 hl A2 c2 (hO.mono hc.bel.size)⟩⟩
          ·cases (show some _=some o_ from ho)
           have m0:=(HTB.out.next hc.bel).cell 0
           have m1:=(HTB.out.next hc.bel).cell 1
           have m2:=(HTB.out.next hc.bel).cell 2
           have m3:=(HTB.out.next hc.bel).cell 3
           have m4:=(HTB.out.next hc.bel).cell 4
           have m5:=(HTB.out.next hc.bel).cell 5
           have m6:=(HTB.out.next hc.bel).cell 6
           have m7:=(HTB.out.next hc.bel).cell 7
           have m8:=(HTB.out.next hc.bel).cell 8
           have m9:=(HTB.out.next hc.bel).cell 9
           have m10:=(HTB.out.next hc.bel).cell 10
           have m11:=(HTB.out.next hc.bel).cell 11
           go_simp
           exact hK _ _ ⟨s55,s56,s57,s58,s59,s60,_,s62,s63,s64,s65,s66,s67,s68,s69,q,A5,c5,A8,c8,rfl,.inl ⟨by rw [Dl_set (by rw [hs];decide),upd_ne _ (by decide)];exact h13,by rw [Dl_set (by rw [hs];decide)];exact hc.u6 hl⟩⟩
          ·cases (show some _=some o_ from ho)
           obtain rfl:=hc.f6 (dep_ hs (by decide) (hd ⟨6,.data⟩ (by simp) rfl))
           go_simp
           exact hK _ _ ⟨s55,s56,s57,s58,s59,s60,_,_,s63,s64,s65,s66,s67,s68,s69,_,A5,c5,A8,c8,rfl,.inl ⟨by rw [Dl_set (by rw [hs];decide),upd_ne _ (by decide)];exact h13,by rw [Dl_set (by rw [hs];decide)];exact (hc.next (ba (Below.refl _ _))).u7 hl _ (Blk.new _ _ _)⟩⟩
          ·cases (show some _=some o_ from ho)
           obtain ⟨rfl,h5⟩:=hc.f5 (dep_ hs (by decide) (hd ⟨5,.data⟩ (by simp) rfl))
           obtain ⟨rfl,h7⟩:=hc.f7 (dep_ hs (by decide) (hd ⟨7,.data⟩ (by simp) rfl))
           have h5:=h5 hl
           have h7:=h7 hl
           refine step_append_ow _ rfl (.tmp 60) (.tmp 62) _ rfl X.heap.size 65 i0 _ 12 144 Tryz.underlying40 HI.out HZ.out HS.out HBY.out rfl (by omega) A5 i c5 _ rfl h5 _ 1 1 (encT ((⟨a1,b1,⟨Ab,0,0⟩⟩,⟨l,[]⟩):Row)) rfl (Src.blk h7 (encT_len _)) (encT_one _) (by unfold maxLen;omega) (by omega) hc.bel.size ?_
           intro A2 c2 w5 hO hg _
           have hb5:=h5.grown hg hc.bel (Nat.le_refl _) hc.bel.size
           exact hK _ _ ⟨s55,s56,s57,s58,s59,_,s61,_,_,s64,s65,s66,s67,s68,s69,q,A5,c5,_,_,rfl,.inl ⟨by rw [Dl_set (by rw [hs];decide),upd_ne _ (by decide)];exact h13,by rw [Dl_set (by rw [hs];decide)];exact hc.u8 hl A2 c2 hb5 hO⟩⟩
          ·cases (show some _=some o_ from ho)
           go_simp
           exact hK _ _ ⟨s55,s56,s57,s58,s59,s60,s61,s62,s63,_,s65,s66,s67,s68,s69,q,A5,c5,A8,c8,rfl,.inl ⟨by rw [Dl_set (by rw [hs];decide),upd_ne _ (by decide)];exact h13,by rw [Dl_set (by rw [hs];decide)];exact hc.u9 hl⟩⟩
          ·cases (show some _=some o_ from ho)
           obtain rfl:=hc.f9 (dep_ hs (by decide) (hd ⟨9,.data⟩ (by simp) rfl))
           have cc:=(HOUT.out.next hc.bel).cell 0
           go_simp
           exact hK _ _ ⟨s55,s56,s57,s58,s59,s60,s61,s62,s63,_,_,s66,s67,s68,s69,q,A5,c5,A8,c8,rfl,.inl ⟨by rw [Dl_set (by rw [hs];decide),upd_ne _ (by decide)];exact h13,by rw [Dl_set (by rw [hs];decide)];exact hc.u10 hl⟩⟩
          ·cases (show some _=some o_ from ho)
           go_simp
           exact hK _ _ ⟨s55,s56,s57,s58,s59,s60,s61,s62,s63,s64,s65,_,s67,s68,s69,q,A5,c5,A8,c8,rfl,.inl ⟨by rw [Dl_set (by rw [hs];decide),upd_ne _ (by decide)];exact h13,by rw [Dl_set (by rw [hs];decide)];exact hc.u11 hl⟩⟩
          ·cases (show some _=some o_ from ho)
           obtain rfl:=hc.f10 (dep_ hs (by decide) (hd ⟨10,.data⟩ (by simp) rfl))
           obtain rfl:=hc.f11 (dep_ hs (by decide) (hd ⟨11,.data⟩ (by simp) rfl))
           rcases hrow with ⟨h1,h2,h3⟩|⟨g,h1⟩
           ·subst h1 h2 h3
            go_simp
            exact hK _ _ ⟨s55,s56,s57,s58,s59,s60,s61,s62,s63,s64,_,_,_,s68,s69,q,A5,c5,A8,c8,rfl,.inl ⟨by rw [Dl_set (by rw [hs];decide),upd_ne _ (by decide)];exact h13,by rw [Dl_set (by rw [hs];decide)];exact hc.u12 hl _ _ (fun W hW=>(srcT_none HXN.out (by omega)).below hW)⟩⟩
           ·subst h1
            obtain ⟨D,hD⟩:∃ D,(if c=i then (some ⟨g,0,none⟩:Option Addr) else some ⟨g,i * 12,none⟩)=D:=⟨_,rfl⟩
            have HDD:=(hD ▸ src_dropT HTX.out.1.ow hiL:Src X 12 D _ _)
            go_simp
            exact hK _ _ ⟨s55,s56,s57,s58,s59,s60,s61,s62,s63,s64,_,_,_,s68,s69,q,A5,c5,A8,c8,rfl,.inl ⟨by rw [Dl_set (by rw [hs];decide),upd_ne _ (by decide)];exact h13,by rw [Dl_set (by rw [hs];decide)];exact hc.u12 hl _ _ (fun W hW=>HDD.below hW)⟩⟩
          ·cases (show some _=some o_ from ho)
           have d8:=(dep_ hs (by decide) (hd ⟨8,.data⟩ (by simp) rfl))
           have d12:=(dep_ hs (by decide) (hd ⟨12,.data⟩ (by simp) rfl))
           obtain ⟨rfl,h8⟩:=hc.f8 d8
           obtain ⟨A6,c6,rfl,hsrc⟩:=hc.f12 d12
           have r8:=hd ⟨8,.data⟩ (by simp) rfl
           have r12:=hd ⟨12,.data⟩ (by simp) rfl
           have r5:=hcl 8 _ rfl r8 ⟨5,.data⟩ (by simp) rfl
           have r7:=hcl 8 _ rfl r8 ⟨7,.data⟩ (by simp) rfl
           have r0:=hcl 5 _ rfl r5 ⟨0,.data⟩ (by simp) rfl
           have r4:=hcl 5 _ rfl r5 ⟨4,.data⟩ (by simp) rfl
           have r2:=hcl 4 _ rfl r4 ⟨2,.data⟩ (by simp) rfl
           have r3:=hcl 4 _ rfl r4 ⟨3,.data⟩ (by simp) rfl
           have r1:=hcl 2 _ rfl r2 ⟨1,.data⟩ (by simp) rfl
           have r6:=hcl 7 _ rfl r7 ⟨6,.data⟩ (by simp) rfl
           have r10:=hcl 12 _ rfl r12 ⟨10,.data⟩ (by simp) rfl
           have r11:=hcl 12 _ rfl r12 ⟨11,.data⟩ (by simp) rfl
           have r9:=hcl 10 _ rfl r10 ⟨9,.data⟩ (by simp) rfl
           have hdone:∀ j,j<13→Dl listed j=true:=fun j hj=>by
            rcases cases16 (show j<16 by omega) with rfl|rfl|rfl|rfl|rfl|rfl|rfl|rfl|rfl|rfl|rfl|rfl|rfl|rfl|rfl|rfl
            ·exact dep_ hs (by decide) r0
            ·exact dep_ hs (by decide) r1
            ·exact dep_ hs (by decide) r2
            ·exact dep_ hs (by decide) r3
            ·exact dep_ hs (by decide) r4
            ·exact dep_ hs (by decide) r5
            ·exact dep_ hs (by decide) r6
            ·exact dep_ hs (by decide) r7
            ·exact dep_ hs (by decide) r8
            ·exact dep_ hs (by decide) r9
            ·exact dep_ hs (by decide) r10
            ·exact dep_ hs (by decide) r11
            ·exact dep_ hs (by decide) r12
            ·omega
            ·omega
            ·omega
           have hno15:Dl listed 15=true→False:=fun q'=>by
            have:=hcl 15 _ rfl (by rw [getD_any (by rw [hs];decide) false true];exact q') ⟨13,.data⟩ (by simp) rfl
            rw [getD_any (by rw [hs];decide) false true,hl] at this
            cases this
           have hlen:i+1+(n - i)=n+1:=by omega
           refine step_append_ow _ rfl (.tmp 63) (.tmp 67) _ rfl X.heap.size 65 i0 _ 12 144 Tryz.underlying40 HI.out HZ.out HS.out HBY.out rfl (by omega) A8 (i+1) c8 _ rfl h8 _ (n - i) c6 ((cellsT xs).drop (i * 12)) rfl (hsrc _ hc.bel) HOD.out (by unfold maxLen;omega) (by omega) hc.bel.size ?_
           intro A4 c4 w5 hO4 hg4 _
           have hb5:=h8.grown hg4 hc.bel (Nat.le_refl _) hc.bel.size
           rw [hlen] at hO4 ⊢
           refine hK _ _ ⟨s55,s56,s57,s58,s59,s60,s61,s62,_,s64,s65,s66,_,_,s69,q,A5,c5,A8,c8,rfl,.inr ⟨by rw [Dl_set (by rw [hs];decide),upd_self],?_⟩⟩
           rw [Dl_set (by rw [hs];decide)]
           refine { all:=fun j hj=>?_,f14:=fun q'=>hc.f14 (by rw [upd_ne _ (by decide)] at q';exact q'),old:=fun _=>?_,fin:=fun q'=>(hno15 (by rw [upd_ne _ (by decide)] at q';exact q')).elim }
           ·by_cases hj7:j=13
            ·subst hj7;exact upd_self _ _
            ·rw [upd_ne _ hj7];exact hdone j (by omega)
           ·exact ⟨A4,c4,rfl,lv_insert HXS.out HTX.out HKX.out HGX.out HND.out HLV.out HNB.out (by omega) (by omega) (by omega) (hO4.mono (by omega)) (hb5.mono (by omega)) (grown_of_below hb5 _) hn4 HBX.out (by omega) HRES.out HOUT.out⟩
          ·cases (show some _=some o_ from ho)
           go_simp
           exact hK _ _ ⟨s55,s56,s57,s58,s59,s60,s61,s62,s63,s64,s65,s66,s67,s68,_,q,A5,c5,A8,c8,rfl,.inl ⟨by rw [Dl_set (by rw [hs];decide),upd_ne _ (by decide)];exact h13,by rw [Dl_set (by rw [hs];decide)];exact hc.u14 hl⟩⟩
          ·cases (show some _=some o_ from ho)
           have d13:=(dep_ hs (by decide) (hd ⟨13,.data⟩ (by simp) rfl))
           rw [h13] at d13
           cases d13
         ·have hltj:j<16:=(Array.getElem?_eq_some_iff.1 ho).1
          rcases (show j<14∨j=14∨j=15 by omega) with h14|rfl|rfl
          ·have:=he.all j h14
           unfold Dl at this
           rw [hl] at this
           cases this
          ·cases (show some _=some o_ from ho)
           go_simp
           refine hK _ _ ⟨s55,s56,s57,s58,s59,s60,s61,s62,s63,s64,s65,s66,s67,s68,_,q,A5,c5,A8,c8,rfl,.inr ⟨by rw [Dl_set (by rw [hs];decide),upd_ne _ (by decide)];exact h13,?_⟩⟩
           rw [Dl_set (by rw [hs];decide)]
           exact { all:=fun j hj=>by rw [upd_ne _ (by omega)];exact he.all j hj,f14:=fun _=>rfl,old:=fun q'=>he.old (by rw [upd_ne _ (by decide)] at q';exact q'),fin:=fun q'=>he.fin (by rw [upd_ne _ (by decide)] at q';exact q') }
          ·cases (show some _=some o_ from ho)
           obtain rfl:=he.f14 (dep_ hs (by decide) (hd ⟨14,.data⟩ (by simp) rfl))
           obtain ⟨A4,c4,rfl,hv⟩:=he.old hl
           have cz:=fun q=>hv.2.2.2.cell q
           have fz:=fun q=>hv.2.2.2.frozen q
           go_simp
           refine hK _ _ ⟨s55,s56,s57,s58,s59,s60,s61,s62,s63,s64,s65,s66,s67,_,_,q,A5,c5,A8,c8,rfl,.inr ⟨by rw [Dl_set (by rw [hs];decide),upd_ne _ (by decide)];exact h13,?_⟩⟩
           rw [Dl_set (by rw [hs];decide)]
           exact { all:=fun j hj=>by rw [upd_ne _ (by omega)];exact he.all j hj,f14:=fun _=>rfl,old:=fun q'=>(by rw [upd_self] at q';cases q'),fin:=fun _=>⟨A4,c4,hv.store (by omega) _⟩ }
        ·intro listed a w' hall hR
         obtain ⟨s55,s56,s57,s58,s59,s60,s61,s62,s63,s64,s65,s66,s67,s68,s69,q,A5,c5,A8,c8,rfl,⟨h13,hc⟩|⟨h13,he⟩⟩:=hR
         ·have:=hall 13 (by decide)
          unfold Dl at h13
          rw [h13] at this
          cases this
         ·obtain ⟨A4,c4,hos,hbw,hrr,hkk⟩:=he.fin (hall 15 (by decide))
          clear he hall
          have HOS:=Lib.hid hos
          have HBB:=Lib.hid hbw
          have ck0:=hkk.cell 0
          have ck1:=hkk.cell 1
          have ck2:=hkk.cell 2
          have fk:=fun q=>hkk.frozen q
          have zk:=hkk.lt
          have crr:=fun q=>hrr.cell q
          have frr:=fun q=>hrr.frozen q
          have zrr:=hrr.lt
          clear hos hbw
          go_wp2_with fail
          refine bodyPost_ret (v:=.tuple #[svV ⟨A4,n+1,c4⟩ k3 g3,.bool true]) (by simp [results,Tryz.results156,go_sem,crr]) rfl ?_
          rw [HDN.out]
          have hend:∀ Z:World,Frm (w.heap.size+2) (w.heap.size+3) w' Z→SvcPost w.heap.size (⟨S.ts.take i ++ ⟨l,[]⟩ :: S.ts.drop i,S.keys,S.tags⟩,true) w (.returned (.tuple #[svV ⟨A4,n+1,c4⟩ k3 g3,.bool true])) Z:=fun Z hZ =>
           ⟨_,k3,g3,rfl,(HOS.out.frm hZ (.inr (by omega))).mono (by omega) hZ.size,HBB.out.trans (hZ.below (by omega) HBB.out.size)⟩
          refine hend _ ?_
          iterate 3 (refine Frm.set_ ?_ (by simp) (by simp) _)
          exact Frm.refl _ _ _
end Go.Proofs.YtkgfmgajhgfgjaaGreatDoor

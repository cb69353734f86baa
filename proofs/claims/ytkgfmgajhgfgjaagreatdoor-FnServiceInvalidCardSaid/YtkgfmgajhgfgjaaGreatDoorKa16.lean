/-
  Lemmas and contracts: Eh Bn Tp Cl To Tk St Tt Ts Cp Cq Md Mt Mh Cr. No condition.
-/
import Derived.Deep.RegionHeld3
import Derived.Deep.RegionWith
import Derived.Test.YtkgfmgajhgfgjaaGreatDoorKa6
import Derived.Test.YtkgfmgajhgfgjaaGreatDoorKa9
import Derived.Test.YtkgfmgajhgfgjaaGreatDoorKa15
set_option linter.unusedSimpArgs false
set_option linter.unusedVariables false
set_option linter.unusedSectionVars false
namespace Go.Proofs.YtkgfmgajhgfgjaaGreatDoor
open Go.RowKit Go.Sort
def atS (ls:List ByteArray) (k:Nat):ByteArray:=(ls[k]?).getD ByteArray.empty
def readL (ls:List ByteArray):Rep × Bool:=readGo (lineW (atS ls 0) sW1) (lineW (atS ls 1) sW2) (lineW (atS ls 2) sW3) (lineW (atS ls 3) sW4)
def decW (s:ByteArray):Rep × Bool :=
 if (cutW s 10).length=5∧(atS (cutW s 10) 4).toList.isEmpty=true then (if (readL (cutW s 10)).2 then ((readL (cutW s 10)).1,true) else (rep0,false)) else (rep0,false)
theorem readL_ok (ls:List ByteArray) (h:(readL ls).2=true):repOk (readL ls).1=true:=by
 unfold readL readGo at h ⊢
 split at h
 ·rename_i hc
  rw [if_pos hc]
  simp only [readR,Bool.and_eq_true] at h ⊢
  exact h.2
 ·cases h
theorem decW_ok {s:ByteArray} (h:(decW s).2=true):repOk (decW s).1=true:=by
 unfold decW at h ⊢
 split at h
 ·rename_i hc
  rw [if_pos hc]
  split at h
  ·rename_i h2
   rw [if_pos h2]
   exact readL_ok _ h2
  ·cases h
 ·cases h
set_option maxRecDepth 100000 in
set_option maxHeartbeats 4000000 in
theorem specReplayDecode_any (s:ByteArray) (w:World) (hn:s.size≤1048576) :
  Calls Tryz.prog 89 #[.string s] w (RepPost w.heap.size (decW s) w):=by
 go_enter Tryz.func89,Tryz.ntmps89
 go_wp2_with fail
 refine (l23Cut_any s 10 _ hn).mono ?_
 rintro e w1 ⟨A,c,rfl,hO,hb⟩
 have KR:=Lib.hid ((Blk.new w 35 (repC rep0 ⟨none,0,0⟩ ⟨none,0,0⟩)).next hb)
 have HB:=Lib.hid (ba hb)
 obtain ⟨L,hL⟩:∃ L,(cutW s 10).length=L:=⟨_,rfl⟩
 rw [hL] at hO ⊢
 have HL:=Lib.hid hL
 have HRW:=Lib.hid (Ow.rd encTx_len (by decide) hO)
 have HSZ:=Lib.hid (cutW_size s 10)
 clear hO hb hL
 by_cases h5:L=5
 rotate_left
 ·have h5':((L:Int) == 5)=false:=by simp;omega
  have h5n:¬ (L:Int)=5:=by omega
  have HF:=Lib.hid (show decW s=(rep0,false) by unfold decW;simp [HL.out,h5])
  have cr:=fun o=>KR.out.cell o
  have fr:=fun o=>KR.out.frozen o
  have zr:=KR.out.lt
  go_wp2_with fail
  refine bodyPost_ret (v:=.tuple #[repV rep0 ⟨none,0,0⟩ ⟨none,0,0⟩,.bool false]) (by simp [results,Tryz.results89,go_sem,cr,rep0]) rfl ?_
  unfold RepPost
  rw [HF.out]
  exact ⟨_,_,rfl,rdR_zero _,by have hb:=HB.out;go_grown⟩
 subst h5
 obtain ⟨b,off,x4,hA,hbb,hx4,hc4⟩:=RdW.cells HRW.out (k:=4) (by omega)
 subst hA
 have H4:=Lib.hid (show atS (cutW s 10) 4=x4 by simp [atS,hx4])
 clear hx4
 cases hz:x4.toList.isEmpty
 ·have hz2:=hz
  have HZ:=Lib.hid hz
  clear hz
  have HF:=Lib.hid (show decW s=(rep0,false) by unfold decW;simp [HL.out,H4.out,HZ.out])
  have cr:=fun o=>KR.out.cell o
  have fr:=fun o=>KR.out.frozen o
  have zr:=KR.out.lt
  go_wp2_with fail
  refine bodyPost_ret (v:=.tuple #[repV rep0 ⟨none,0,0⟩ ⟨none,0,0⟩,.bool false]) (by simp [results,Tryz.results89,go_sem,cr,rep0]) rfl ?_
  unfold RepPost
  rw [HF.out]
  exact ⟨_,_,rfl,rdR_zero _,by have hb:=HB.out;go_grown⟩
 have hz2:=hz
 have HZ:=Lib.hid hz
 clear hz
 obtain ⟨L0,L1,L2,L3,L4,hls⟩:∃ a b c d e,cutW s 10=[a,b,c,d,e]:=by
  have h:=HL.out
  match hq:cutW s 10,h with
  | [a,b,c,d,e],_=>exact ⟨a,b,c,d,e,rfl⟩
 have HLS:=Lib.hid hls
 have hread:=HRW.out
 rw [hls] at hread
 have HRD:=Lib.hid hread
 have hsz:∀ b ∈ [L0,L1,L2,L3],b.size≤1048576:=fun b hb=>by
  have:=HSZ.out b (by rw [hls];simp at hb ⊢;rcases hb with h|h|h|h <;> simp [h])
  omega
 have HSZ4:=Lib.hid hsz
 clear hls hread hsz
 go_wp2_with fail
 refine (l23Read_any _ 5 c L0 L1 L2 L3 [L4] _ HRD.out HSZ4.out).mono ?_
 rintro e w2 ⟨si,sh,rfl,hR,hb⟩
 replace KR:=Lib.hid (KR.out.next hb)
 replace HB:=Lib.hid (below_next HB.out hb)
 have HQ:=Lib.hid (show decW s=if (readGo (lineW L0 sW1) (lineW L1 sW2) (lineW L2 sW3) (lineW L3 sW4)).2 then ((readGo (lineW L0 sW1) (lineW L1 sW2) (lineW L2 sW3) (lineW L3 sW4)).1,true) else (rep0,false) by
  unfold decW
  rw [if_pos ⟨HL.out,by rw [H4.out];exact HZ.out⟩]
  simp only [readL,HLS.out,atS]
  rfl)
 generalize readGo (lineW L0 sW1) (lineW L1 sW2) (lineW L2 sW3) (lineW L3 sW4)=q at *
 obtain ⟨r,ok⟩:=q
 have HR:=Lib.hid hR
 clear hR hb hc4
 go_upto_region 5 with (fail)
 refine into_world (fun W=>Below w2.heap.size w2 W∧Blk W w2.heap.size 35 (repC r si sh)) ⟨ba (Below.refl _ _),Blk.new _ _ _⟩ ?_
 rintro W ⟨hb,hk⟩
 have KO:=Lib.hid hk
 replace KR:=Lib.hid (KR.out.next hb)
 replace HR:=Lib.hid (HR.out.next hb)
 replace HB:=Lib.hid (below_next HB.out hb)
 clear hb hk
 cases ok
 ·have HF:=Lib.hid (show decW s=(rep0,false) by rw [HQ.out];rfl)
  have cr:=fun o=>KR.out.cell o
  have fr:=fun o=>KR.out.frozen o
  have zr:=KR.out.lt
  go_wp2_with fail
  refine bodyPost_ret (v:=.tuple #[repV rep0 ⟨none,0,0⟩ ⟨none,0,0⟩,.bool false]) (by simp [results,Tryz.results89,go_sem,cr,rep0]) rfl ?_
  unfold RepPost
  rw [HF.out]
  exact ⟨_,_,rfl,rdR_zero _,by have hb:=HB.out;go_grown⟩
 ·have HF:=Lib.hid (show decW s=(r,true) by rw [HQ.out];rfl)
  have co:=fun o=>KO.out.cell o
  have fo:=fun o=>KO.out.frozen o
  have zo:=KO.out.lt
  have cr:=fun o=>KR.out.cell o
  have fr:=fun o=>KR.out.frozen o
  have zr:=KR.out.lt
  go_wp2_with fail
  refine bodyPost_ret (v:=.tuple #[repV r si sh,.bool true]) (by simp [results,Tryz.results89,go_sem,cr]) rfl ?_
  unfold RepPost
  rw [HF.out]
  have q2:=fun v0 v1 v2 v3 v4 v5=>(((((((Only.refl w.heap.size W).set_ (p:=⟨w.heap.size,0,none⟩) (.inl rfl) v0).set_ (p:=⟨w.heap.size,1,none⟩) (.inl rfl) v1).set_ (p:=⟨w.heap.size,2,none⟩) (.inl rfl) v2).set_ (p:=⟨w.heap.size,3,none⟩) (.inl rfl) v3).set_ (p:=⟨w.heap.size,4,none⟩) (.inl rfl) v4).set_ (p:=⟨w.heap.size,5,none⟩) (.inl rfl) v5)
  exact ⟨si,sh,rfl,HR.out.onlyT KR.out (by decide) (by decide) (q2 _ _ _ _ _ _),HB.out.trans ((q2 _ _ _ _ _ _).below (Nat.le_refl _) HB.out.size)⟩
end Go.Proofs.YtkgfmgajhgfgjaaGreatDoor
namespace Go.Proofs.YtkgfmgajhgfgjaaGreatDoor
open Go.RowKit Go.Sort
set_option maxHeartbeats 1000000 in
theorem findTrack1_any (x:Row) (id:Int) (w:World) :
  Calls Tryz.prog 140 #[.agg (encT x).toArray,.int .i64 id] w fun e w'=>e=.returned (.int .i64 (wrap64 (x.2.l.id - id)))∧Below w.heap.size w w':=by
 simp only [encT]
 go_enter Tryz.func140,Tryz.ntmps140
 go_wp2
 go_ret
 exact ⟨rfl,by go_grown⟩
def ahead (xs:List Row) (id:Int) (i:Nat):Prop:=∃ x,xs[i]?=some x∧wrap64 (x.2.l.id - id)<0
def EndAt (xs:List Row) (id:Int) (i:Nat):Prop:=i≤xs.length∧(i=0∨ahead xs id (i - 1))∧(i=xs.length∨¬ ahead xs id i)
def hitAt (xs:List Row) (id:Int) (i:Nat):Bool:=match xs[i]? with
 | none=>false
 | some x=>decide (wrap64 (x.2.l.id - id)=0)
set_option maxRecDepth 100000 in
set_option maxHeartbeats 4000000 in
theorem search_any (A:Option Addr) (n c:Nat) (xs:List Row) (id:Int) (w:World) (hr:RdTs w A n xs) (hn:n≤1048576) :
  Calls Tryz.prog 139 #[.slice A n c,.int .i64 id,.func (.func 140) #[] #[]] w fun e w'=>∃ i:Nat,e=.returned (.tuple #[.int .i64 i,.bool (hitAt xs id i)])∧EndAt xs id i∧Below w.heap.size w w':=by
 have HR:=Lib.hid hr
 have hl:=hr.1.len
 have HL:=Lib.hid hl
 clear hr hl
 go_enter Tryz.func139,Tryz.ntmps139
 go_wp2
 go_loopw [9,10,11] (fun i j _ wr=>∃ p q:Nat,p≤q∧q≤n∧i=.int .i64 p∧j=.int .i64 q∧Hid (Below w.heap.size w wr∧(p=0∨ahead xs id (p - 1))∧(q=n∨¬ ahead xs id q))) (fun i j _ _=>(intOf j).toNat - (intOf i).toNat)
 case atStart=>exact ⟨0,n,Nat.zero_le _,Nat.le_refl _,rfl,rfl,Below.refl _ _,.inl rfl,.inl rfl⟩
 case round =>
  obtain ⟨p,q,hpq,hq,rfl,rfl,HB⟩:=hrel
  by_cases hlt:p<q
  ·have hm1:p≤(p+q) / 2:=by omega
   have hm2:(p+q) / 2<q:=by omega
   have hm3:(p+q) / 2<n:=by omega
   obtain ⟨b,off,x,hA,hb,hx,hrx,e0,e1,e2,e3,e4,e5,e6,e7,e8,e9,e10,e11⟩:=RdTs.cells (HR.out.below HB.out.1) hm3
   subst hA
   have c1:=fun W=>findTrack1_any x id W
   simp only [encT] at c1
   have C1:=Lib.hid c1
   have HX:=Lib.hid hx
   clear hx hrx c1
   by_cases hneg:wrap64 (x.2.l.id - id)<0
   ·go_wp2_with (first|(go_at_call 140;refine (C1.out _).mono ?_;rintro e w1 ⟨rfl,hb1⟩))
    exact ⟨⟨(p+q) / 2+1,q,by omega,hq,by push_cast;rfl,rfl,below_next HB.out.1 hb1,.inr ⟨x,by simpa using HX.out,hneg⟩,HB.out.2.2⟩,by simp [intOf];omega⟩
   ·go_wp2_with (first|(go_at_call 140;refine (C1.out _).mono ?_;rintro e w1 ⟨rfl,hb1⟩))
    exact ⟨⟨p,(p+q) / 2,hm1,by omega,rfl,by push_cast;rfl,below_next HB.out.1 hb1,HB.out.2.1,.inr (by rintro ⟨y,hy,hyn⟩;rw [HX.out] at hy;injection hy with hy;subst hy;exact absurd hyn (by omega))⟩,by simp [intOf];omega⟩
  ·obtain rfl:p=q:=by omega
   have hend:EndAt xs id p:=⟨by rw [HL.out];exact hq,HB.out.2.1,by rw [HL.out];exact HB.out.2.2⟩
   have HE:=Lib.hid hend
   clear hend
   by_cases hpn:p<n
   ·obtain ⟨b,off,x,hA,hb,hx,hrx,e0,e1,e2,e3,e4,e5,e6,e7,e8,e9,e10,e11⟩:=RdTs.cells (HR.out.below HB.out.1) hpn
    subst hA
    have c1:=fun W=>findTrack1_any x id W
    simp only [encT] at c1
    have C1:=Lib.hid c1
    have HX:=Lib.hid hx
    have HH:=Lib.hid (show hitAt xs id p=decide (wrap64 (x.2.l.id - id)=0) by simp [hitAt,hx])
    clear hx hrx c1
    go_wp2_with (first|(go_at_call 140;refine (C1.out _).mono ?_;rintro e w1 ⟨rfl,hb1⟩))
    go_ret2
    refine ⟨p,by rw [HH.out];rfl,HE.out,below_next HB.out.1 hb1⟩
   ·have HH:=Lib.hid (show hitAt xs id p=false by simp [hitAt,List.getElem?_eq_none (show xs.length≤p by have:=HL.out;omega)])
    go_wp2
    go_ret2
    exact ⟨p,by rw [HH.out];rfl,HE.out,HB.out.1⟩
set_option maxRecDepth 100000 in
set_option maxHeartbeats 4000000 in
theorem findTrack_any (t k g:Sl) (xs:List Row) (id:Int) (w:World) (hr:RdTs w t.a t.n xs) (hn:t.n≤1048576) :
  Calls Tryz.prog 67 #[svV t k g,.int .i64 id] w fun e w'=>∃ i:Nat,e=.returned (.tuple #[.int .i64 i,.bool (hitAt xs id i)])∧EndAt xs id i∧Below w.heap.size w w':=by
 have HR:=Lib.hid hr
 clear hr
 go_enter Tryz.func67,Tryz.ntmps67
 go_wp2_with fail
 refine (search_any _ _ _ xs id _ (HR.out.below (by go_grown)) hn).mono ?_
 rintro e w1 ⟨i,rfl,he,hb1⟩
 have HE:=Lib.hid he
 have HB:=Lib.hid (ba hb1)
 clear he hb1
 go_wp2_with fail
 go_ret2
 exact ⟨i,rfl,HE.out,HB.out⟩
def hasId (id:Int) (t:Trk):Bool:=t.l.id == id
def findI (ts:List Trk) (id:Int):Int:=match ts.findIdx? (hasId id) with
 | none => -1
 | some i=>i
theorem findI_none {ts:List Trk} {id:Int} (h:∀ t ∈ ts,t.l.id≠id):findI ts id = -1:=by
 have:ts.findIdx? (hasId id)=none:=by
  rw [List.findIdx?_eq_none_iff]
  intro t ht
  simpa [hasId] using h t ht
 simp [findI,this]
theorem findI_some {ts:List Trk} {id:Int} {i:Nat} {t:Trk} (h:ts[i]?=some t) (ht:t.l.id=id) (hb:∀ j u,j<i→ts[j]?=some u→u.l.id≠id):findI ts id=i:=by
 have:ts.findIdx? (hasId id)=some i:=by
  rw [List.findIdx?_eq_some_iff_getElem]
  obtain ⟨hi,he⟩:=List.getElem?_eq_some_iff.1 h
  refine ⟨hi,by rw [he];simpa [hasId] using ht,fun j hj=>?_⟩
  have:=hb j _ hj (List.getElem?_eq_getElem (by omega))
  simpa [hasId] using this
 simp [findI,this]
set_option maxRecDepth 100000 in
set_option maxHeartbeats 4000000 in
theorem l41Find_any (t k g:Sl) (S:Svc) (id:Int) (w:World) (hr:RdS w t k g S) :
  Calls Tryz.prog 171 #[svV t k g,.int .i64 id] w fun e w'=>e=.returned (.int .i64 (findI S.ts id))∧Below w.heap.size w w':=by
 obtain ⟨⟨xs,hxs,hr1⟩,_,_,⟨_,hn1⟩,_,_⟩:=hr
 obtain ⟨A,n,c⟩:=t
 simp only at hr1 hn1
 have HR:=Lib.hid hr1
 have HXS:=Lib.hid hxs
 have HL:=Lib.hid hr1.1.len
 clear hr1 hxs
 have HB0:=Lib.hid ((Below.refl w.heap.size w).alloc (Nat.le_refl _) (.cells #[.slice A n c,.slice k.a k.n k.c,.slice g.a g.n g.c] 42))
 go_enter Tryz.func171,Tryz.ntmps171
 go_wp2
 go_loop [5] (fun i=>∃ p:Nat,p≤n∧i=.int .i64 p∧Hid (∀ j x,j<p→xs[j]?=some x→x.2.l.id≠id)) (fun i=>n - (intOf i).toNat)
 case atStart=>exact ⟨0,Nat.zero_le _,rfl,fun j x hj=>absurd hj (Nat.not_lt_zero _)⟩
 case round =>
  obtain ⟨p,hp,rfl,HF⟩:=hrel
  by_cases hlt:p<n
  ·obtain ⟨b,off,x,hA,hb,hx,hrx,e0,_⟩:=RdTs.cells HR.out hlt
   subst hA
   have HX:=Lib.hid hx
   clear hx hrx
   have hbn:¬ b=w.heap.size:=by omega
   by_cases hid:x.2.l.id=id
   ·have HI:=Lib.hid hid
    have hie:(x.2.l.id == id)=true:=by simpa using hid
    clear hid
    go_wp2
    go_ret
    have hf:findI S.ts id=p:=by
     refine findI_some (t:=x.2) (by rw [← HXS.out,List.getElem?_map,HX.out];rfl) HI.out (fun j u hj hu=>?_)
     rw [← HXS.out,List.getElem?_map] at hu
     obtain ⟨y,hy,rfl⟩:=Option.map_eq_some_iff.1 hu
     exact HF.out j y hj hy
    exact ⟨by rw [hf];rfl,HB0.out⟩
   ·have HI:=Lib.hid hid
    have hie:(x.2.l.id == id)=false:=by simpa using hid
    clear hid
    go_wp2
    go_round
    case rel=>exact ⟨p+1,by omega,by go_num,fun j y hj hy=>by
     rcases Nat.lt_succ_iff_lt_or_eq.1 hj with hj|rfl
     ·exact HF.out j y hj hy
     ·rw [HX.out] at hy;injection hy with hy;subst hy;exact HI.out⟩
    case measure=>simp [intOf];omega
  ·go_wp2
   go_ret
   have hf:findI S.ts id = -1:=findI_none (fun t ht=>by
    rw [← HXS.out] at ht
    obtain ⟨y,hy,rfl⟩:=List.mem_map.1 ht
    obtain ⟨j,hj,rfl⟩:=List.mem_iff_getElem.1 hy
    exact HF.out j _ (by have:=HL.out;omega) (List.getElem?_eq_getElem hj))
   exact ⟨by rw [hf];rfl,HB0.out⟩
end Go.Proofs.YtkgfmgajhgfgjaaGreatDoor
namespace Go.Proofs.YtkgfmgajhgfgjaaGreatDoor
open Go.RowKit Go.Sort
def topS (S:Svc) (id:Int):List Ent × Bool :=
 if validS S then (match S.ts.findIdx? (hasId id) with
  | none=>([],false)
  | some i=>(((S.ts[i]?).map (·.b)).getD [],true)) else ([],false)
def TopPost (B:Nat) (r:List Ent × Bool) (w:World) (e:Ending) (w':World):Prop :=
 ∃ A' c',e=.returned (.tuple #[.slice A' r.1.length c',.bool r.2])∧OwE B w' A' r.1.length c' r.1∧Below B w w'
theorem valid_trk {S:Svc} (h:validS S=true) {i:Nat} {t:Trk} (ht:S.ts[i]?=some t):levelOk t.l=true∧validE t.b=true∧(0<i→prevId S.ts i<t.l.id)∧t.b.all (keyed S.keys)=true:=by
 have h5:=(validS_of h).2.2.2.2.1 i (List.getElem?_eq_some_iff.1 ht).1
 rw [trkOk_some ht] at h5
 simp only [Bool.and_eq_true,Bool.not_eq_true',Bool.and_eq_false_iff,decide_eq_false_iff_not] at h5
 obtain ⟨⟨⟨h1,h2⟩,h3⟩,h4⟩:=h5
 exact ⟨h1,h2,fun hi=>by rcases h3 with h3|h3 <;> omega,h4⟩
theorem valid_id {S:Svc} (h:validS S=true) {i:Nat} {t:Trk} (ht:S.ts[i]?=some t):0≤t.l.id∧t.l.id≤99:=by
 have h1:=(valid_trk h ht).1
 unfold levelOk at h1
 simp only [Bool.and_eq_true] at h1
 have h2:=h1.1.1.1.1.1.1.1.1.1
 simpa [inR] using h2
theorem valid_lt {S:Svc} (h:validS S=true):∀ (j i:Nat) (t u:Trk),i<j→S.ts[i]?=some t→S.ts[j]?=some u→t.l.id<u.l.id
 | 0,i,t,u,hij,_,_=>absurd hij (Nat.not_lt_zero _)
 |j+1,i,t,u,hij,ht,hu=>by
  have hj:j<S.ts.length:=by have:=(List.getElem?_eq_some_iff.1 hu).1;omega
  have hp:=(valid_trk h hu).2.2.1 (Nat.succ_pos _)
  have hpe:prevId S.ts (j+1)=(S.ts[j]).l.id:=by simp [prevId,List.getElem?_eq_getElem hj]
  rw [hpe] at hp
  rcases Nat.lt_succ_iff_lt_or_eq.1 hij with hlt|rfl
  ·exact Int.lt_trans (valid_lt h j i t _ hlt ht (List.getElem?_eq_getElem hj)) hp
  ·rw [List.getElem?_eq_getElem hj] at ht
   injection ht with ht
   rw [← ht];exact hp
theorem findIdx_at {S:Svc} (h:validS S=true) {i:Nat} {t:Trk} {id:Int} (ht:S.ts[i]?=some t) (hid:t.l.id=id):S.ts.findIdx? (hasId id)=some i:=by
 rw [List.findIdx?_eq_some_iff_getElem]
 obtain ⟨hi,he⟩:=List.getElem?_eq_some_iff.1 ht
 refine ⟨hi,by rw [he];simpa [hasId] using hid,fun j hj=>?_⟩
 have:=valid_lt h i j _ t hj (List.getElem?_eq_getElem (by omega)) ht
 simp [hasId]
 omega
theorem findIdx_some {ts:List Trk} {id:Int} {i:Nat} (h:ts.findIdx? (hasId id)=some i):∃ t,ts[i]?=some t∧t.l.id=id:=by
 rw [List.findIdx?_eq_some_iff_getElem] at h
 obtain ⟨hi,h1,_⟩:=h
 exact ⟨_,List.getElem?_eq_getElem hi,by simpa [hasId] using h1⟩
theorem wrap_zero {a id:Int} (h:wrap64 (a - id)=0) (ha:0≤a) (ha2:a≤99) (h1 : -9223372036854775808≤id) (h2:id≤9223372036854775807):a=id:=by
 unfold wrap64 at h
 omega
theorem wrap_small {a id:Int} (ha:0≤a) (ha2:a≤99) (h1:0≤id) (h2:id≤99):wrap64 (a - id)=a - id:=by
 unfold wrap64
 omega
theorem search_hit {S:Svc} {xs:List Row} {id:Int} {i:Nat} (h:validS S=true) (hxs:xs.map (·.2)=S.ts) (he:EndAt xs id i) (h1 : -9223372036854775808≤id) (h2:id≤9223372036854775807) :
  (hitAt xs id i=true∧S.ts.findIdx? (hasId id)=some i)∨(hitAt xs id i=false∧S.ts.findIdx? (hasId id)=none):=by
 have hget:∀ (j:Nat) (x:Row),xs[j]?=some x→S.ts[j]?=some x.2:=fun j x hx=>by rw [← hxs,List.getElem?_map,hx];rfl
 cases hh:hitAt xs id i
 ·right
  refine ⟨rfl,?_⟩
  cases hf:S.ts.findIdx? (hasId id) with
  | none=>rfl
  | some m =>
   exfalso
   obtain ⟨t,ht,hid⟩:=findIdx_some hf
   have hr:=valid_id h ht
   have hm:m<xs.length:=by
    have:=(List.getElem?_eq_some_iff.1 ht).1
    rw [← hxs,List.length_map] at this
    exact this
   have hxm:=hget m _ (List.getElem?_eq_getElem hm)
   have hah:∀ j,j<xs.length→(ahead xs id j ↔ j<m):=fun j hj=>by
    have hxj:=hget j _ (List.getElem?_eq_getElem hj)
    have hrj:=valid_id h hxj
    have hw:=wrap_small (id:=id) hrj.1 hrj.2 (by rw [← hid];exact hr.1) (by rw [← hid];exact hr.2)
    constructor
    ·rintro ⟨y,hy,hn⟩
     rw [List.getElem?_eq_getElem hj] at hy
     injection hy with hy
     subst hy
     rw [hw] at hn
     rcases Nat.lt_or_ge j m with h3|h3
     ·exact h3
     ·rcases Nat.lt_or_eq_of_le h3 with h4|h4
      ·have:=valid_lt h j m t _ h4 ht hxj
       omega
      ·subst h4
       rw [ht] at hxj
       injection hxj with hxj
       rw [← hxj] at hn
       omega
    ·intro hjm
     have:=valid_lt h m j _ t hjm hxj ht
     exact ⟨_,List.getElem?_eq_getElem hj,by rw [hw];omega⟩
   obtain ⟨e1,e2,e3⟩:=he
   have hi:i=m:=by
    have a1:i≤m:=by
     rcases e2 with e2|e2
     ·omega
     ·have hi1:i - 1<xs.length:=by
       obtain ⟨y,hy,_⟩:=e2
       exact (List.getElem?_eq_some_iff.1 hy).1
      have:=(hah (i - 1) hi1).1 e2
      omega
    rcases e3 with e3|e3
    ·omega
    ·rcases Nat.lt_or_ge i m with h3|h3
     ·exact absurd ((hah i (by omega)).2 h3) e3
     ·omega
   subst hi
   have hxe:(xs[i]).2.l.id=id:=by rw [ht] at hxm;injection hxm with hxm;rw [← hxm];exact hid
   have:hitAt xs id i=true:=by
    simp only [hitAt,List.getElem?_eq_getElem hm,decide_eq_true_eq,hxe]
    simp [wrap64]
   rw [hh] at this
   cases this
 ·left
  refine ⟨rfl,?_⟩
  cases hx:xs[i]? with
  | none=>simp [hitAt,hx] at hh
  | some x =>
   simp only [hitAt,hx,decide_eq_true_eq] at hh
   have ht:=hget i x hx
   have hr:=valid_id h ht
   exact findIdx_at h ht (wrap_zero hh hr.1 hr.2 h1 h2)
theorem topS_bad {S:Svc} {id:Int} (h:validS S=false):topS S id=([],false):=by simp [topS,h]
theorem topS_no {S:Svc} {id:Int} (h:validS S=true) (hf:S.ts.findIdx? (hasId id)=none):topS S id=([],false):=by simp [topS,h,hf]
theorem topS_at {S:Svc} {id:Int} {i:Nat} {t:Trk} (h:validS S=true) (hf:S.ts.findIdx? (hasId id)=some i) (ht:S.ts[i]?=some t):topS S id=(t.b,true):=by simp [topS,h,hf,ht]
theorem row_of {S:Svc} {xs:List Row} {i:Nat} {t:Trk} (hxs:xs.map (·.2)=S.ts) (ht:S.ts[i]?=some t):∃ x,xs[i]?=some x∧x.2=t:=by
 rw [← hxs,List.getElem?_map] at ht
 exact Option.map_eq_some_iff.1 ht
set_option maxRecDepth 100000 in
set_option maxHeartbeats 8000000 in
theorem implServiceTop_any (t k g:Sl) (S:Svc) (id:Int) (w:World) (hr:RdS w t k g S) (hi1 : -9223372036854775808≤id) (hi2:id≤9223372036854775807) :
  Calls Tryz.prog 24 #[svV t k g,.int .i64 id] w (TopPost w.heap.size (topS S id) w):=by
 have HRS:=Lib.hid hr
 obtain ⟨⟨xs,hxs,hr1⟩,hr2,hr3,⟨_,hn1⟩,⟨_,hn2⟩,_,hn3⟩:=hr
 obtain ⟨A,n,c⟩:=t
 simp only at hr1 hn1
 have HR:=Lib.hid hr1
 have HXS:=Lib.hid hxs
 have HL:=Lib.hid hr1.1.len
 clear hr1 hr2 hr3 hxs
 have HB0:=Lib.hid ((Below.refl w.heap.size w).alloc (Nat.le_refl _) (.cells #[.slice A n c,.slice k.a k.n k.c,.slice g.a g.n g.c] 42))
 have HK0:=Lib.hid (Blk.new w 42 #[.slice A n c,.slice k.a k.n k.c,.slice g.a g.n g.c])
 go_enter Tryz.func24,Tryz.ntmps24
 go_wp2_with fail
 refine (implServiceValid_any _ _ _ S _ (HRS.out.below HB0.out)).mono ?_
 rintro e w1 ⟨rfl,hb1⟩
 have HB1:=Lib.hid (below_next HB0.out hb1)
 have HK1:=Lib.hid (HK0.out.next hb1)
 have ca:=fun o=>HK1.out.cell o
 have za:=HK1.out.lt
 clear hb1
 cases hv:validS S
 ·have HV:=Lib.hid (topS_bad (id:=id) hv)
  clear hv
  go_wp2_with fail
  go_ret2
  unfold TopPost
  rw [HV.out]
  exact ⟨none,0,rfl,Ow.bare _ _ _ _ _,HB1.out⟩
 ·have HV:=Lib.hid hv
  clear hv
  go_wp2_with fail
  refine (findTrack_any ⟨A,n,c⟩ k g xs id _ (HR.out.below HB1.out) hn1).mono ?_
  rintro e w2 ⟨i,rfl,he,hb2⟩
  have HE:=Lib.hid he
  have HB2:=Lib.hid (below_next HB1.out hb2)
  have HK2:=Lib.hid (HK1.out.next hb2)
  clear hb2 he ca za
  have ca:=fun o=>HK2.out.cell o
  have za:=HK2.out.lt
  rcases search_hit HV.out HXS.out HE.out hi1 hi2 with ⟨hh,hf⟩|⟨hh,hf⟩
  ·obtain ⟨tr,ht,_⟩:=findIdx_some hf
   obtain ⟨x,hx,hxt⟩:=row_of HXS.out ht
   have hin:i<n:=by have:=(List.getElem?_eq_some_iff.1 hx).1;have:=HL.out;omega
   have HT:=Lib.hid (topS_at HV.out hf ht)
   obtain ⟨b,off,y,hA,hb,hy,hry,e0,e1,e2,e3,e4,e5,e6,e7,e8,e9,e10,e11⟩:=RdTs.cells (HR.out.below HB2.out) hin
   obtain rfl:y=x:=by rw [hx] at hy;exact (Option.some.inj hy).symm
   have HXT:=Lib.hid hxt
   have HRY:=Lib.hid hry
   subst hA
   rw [hh]
   clear hf ht hx hy hry hxt hh
   go_wp2_with fail
   refine (clone_any _ _ _ y.2.b _ HRY.out.2.1 (Nat.le_trans HRY.out.2.2.2 (by decide))).mono ?_
   rintro e w3 ⟨A3,c3,rfl,hO3,hb3⟩
   have HO3:=Lib.hid hO3
   have HB3:=Lib.hid (below_next HB2.out hb3)
   have HL3:=Lib.hid HRY.out.2.1.len
   have hs2:=HB2.out.size
   clear hO3 hb3
   go_wp2_with fail
   go_ret2
   unfold TopPost
   rw [HT.out,← HXT.out,HL3.out]
   exact ⟨A3,c3,rfl,HO3.out.mono hs2,HB3.out⟩
  ·have HT:=Lib.hid (topS_no HV.out hf)
   rw [hh]
   clear hf hh
   go_wp2_with fail
   go_ret2
   unfold TopPost
   rw [HT.out]
   exact ⟨none,0,rfl,Ow.bare _ _ _ _ _,HB2.out⟩
theorem findI_at {ts:List Trk} {id:Int} {i:Nat} (h:ts.findIdx? (hasId id)=some i):findI ts id=i:=by simp [findI,h]
theorem findI_not {ts:List Trk} {id:Int} (h:ts.findIdx? (hasId id)=none):findI ts id = -1:=by simp [findI,h]
end Go.Proofs.YtkgfmgajhgfgjaaGreatDoor
namespace Go.Proofs.YtkgfmgajhgfgjaaGreatDoor
open Go.RowKit Go.Sort
set_option maxRecDepth 100000 in
set_option maxHeartbeats 1000000 in
theorem cloneB_any (A:Option Addr) (n c:Nat) (bs:List Bx) (w:World) (hr:RdB w A n bs) (hn:n≤1048576) :
  Calls Tryz.prog 143 #[.slice A n c] w fun e w'=>∃ A' c',e=.returned (.slice A' n c')∧Ow w.heap.size w' 27 4 A' n c' (cellsB bs)∧Below w.heap.size w w':=by
 have HR:=Lib.hid hr
 obtain ⟨i0,hi0,hz0,hz1,hz2⟩:=info_parts infoB
 have HI:=Lib.hid hi0
 have HZ:=Lib.hid hz0
 have HS:=Lib.hid hz1
 have HBY:=Lib.hid hz2
 clear hi0 hz0 hz1 hz2
 cases A with
 | none =>
  have hn0:n=0:=by
   rcases Nat.eq_zero_or_pos n with h|h
   ·exact h
   ·obtain ⟨_,_,h1,_⟩:=hr.2 h;cases h1
  subst hn0
  have hes:bs=[]:=List.eq_nil_of_length_eq_zero hr.len
  subst hes
  have hq:=fun W=>Lib.run_eql_slice_nil (P:=Tryz.prog) W 25 27 none 0 c 0 0 Tryz.underlying25
  clear hr
  go_enter Tryz.func143,Tryz.ntmps143
  go_wp2
  go_ret
  exact ⟨none,0,rfl,Ow.bare _ _ _ _ _,Below.refl _ _⟩
 | some ad =>
  have hq:=fun W=>Lib.run_eql_slice_nil (P:=Tryz.prog) W 25 27 (some ad) n c 0 0 Tryz.underlying25
  clear hr
  have hb1:Below w.heap.size w (w.alloc (.cells #[] 27)):=(Below.refl _ _).alloc (Nat.le_refl _) _
  have HB:=Lib.hid hb1;clear hb1
  go_enter Tryz.func143,Tryz.ntmps143
  go_wp2_with (at_builtin;refine wpList_append_ow _ rfl (.tmp 5) (.tmp 6) _ rfl w.heap.size 27 i0 _ 4 32 Tryz.underlying25 HI.out HZ.out HS.out HBY.out rfl (by omega) _ 0 0 [] rfl (Ow.bare _ _ _ _ _) _ n c (cellsB bs) rfl (Src.rd encB_len (HR.out.below HB.out)) (cellsX_oneCell encB_one _) (by unfold maxLen;omega) (by omega) (by simp) ?_;intro A2 c2 w2 hown2 hg2 _)
  have HO:=Lib.hid hown2
  have HG:=Lib.hid hg2
  clear hown2 hg2
  go_wp2
  go_ret
  refine ⟨A2,c2,rfl,?_,(Ow.bare w.heap.size _ 27 4 none).grown HG.out HB.out (Nat.le_refl _) (by simp)⟩
  have:=HO.out
  rw [Nat.zero_add,List.nil_append] at this
  exact this
set_option maxRecDepth 100000 in
set_option maxHeartbeats 1000000 in
theorem cloneI_any (A:Option Addr) (n c:Nat) (bs:List Int) (w:World) (hr:RdI .i64 w A n bs) (hn:n≤1048576) :
  Calls Tryz.prog 138 #[.slice A n c] w fun e w'=>∃ A' c',e=.returned (.slice A' n c')∧Ow w.heap.size w' 3 1 A' n c' (cellsI bs)∧Below w.heap.size w w':=by
 have HR:=Lib.hid hr
 obtain ⟨i0,hi0,hz0,hz1,hz2⟩:=info_parts infoZ
 have HI:=Lib.hid hi0
 have HZ:=Lib.hid hz0
 have HS:=Lib.hid hz1
 have HBY:=Lib.hid hz2
 clear hi0 hz0 hz1 hz2
 cases A with
 | none =>
  have hn0:n=0:=by
   rcases Nat.eq_zero_or_pos n with h|h
   ·exact h
   ·obtain ⟨_,_,h1,_⟩:=hr.2 h;cases h1
  subst hn0
  have hes:bs=[]:=List.eq_nil_of_length_eq_zero hr.len
  subst hes
  have hq:=fun W=>Lib.run_eql_slice_nil (P:=Tryz.prog) W 33 3 none 0 c 0 0 Tryz.underlying33
  clear hr
  go_enter Tryz.func138,Tryz.ntmps138
  go_wp2
  go_ret
  exact ⟨none,0,rfl,Ow.bare _ _ _ _ _,Below.refl _ _⟩
 | some ad =>
  have hq:=fun W=>Lib.run_eql_slice_nil (P:=Tryz.prog) W 33 3 (some ad) n c 0 0 Tryz.underlying33
  clear hr
  have hb1:Below w.heap.size w (w.alloc (.cells #[] 3)):=(Below.refl _ _).alloc (Nat.le_refl _) _
  have HB:=Lib.hid hb1;clear hb1
  go_enter Tryz.func138,Tryz.ntmps138
  go_wp2_with (at_builtin;refine wpList_append_ow _ rfl (.tmp 5) (.tmp 6) _ rfl w.heap.size 3 i0 _ 1 8 Tryz.underlying33 HI.out HZ.out HS.out HBY.out rfl (by omega) _ 0 0 [] rfl (Ow.bare _ _ _ _ _) _ n c (cellsI bs) rfl (Src.ints (HR.out.below HB.out)) (cellsI_one _) (by unfold maxLen;omega) (by omega) (by simp) ?_;intro A2 c2 w2 hown2 hg2 _)
  have HO:=Lib.hid hown2
  have HG:=Lib.hid hg2
  clear hown2 hg2
  go_wp2
  go_ret
  refine ⟨A2,c2,rfl,?_,(Ow.bare w.heap.size _ 3 1 none).grown HG.out HB.out (Nat.le_refl _) (by simp)⟩
  have:=HO.out
  rw [Nat.zero_add,List.nil_append] at this
  exact this
end Go.Proofs.YtkgfmgajhgfgjaaGreatDoor
namespace Go.Proofs.YtkgfmgajhgfgjaaGreatDoor
open Go.RowKit Go.Sort
end Go.Proofs.YtkgfmgajhgfgjaaGreatDoor
namespace Go.Proofs.YtkgfmgajhgfgjaaGreatDoor
open Go.RowKit Go.Sort
end Go.Proofs.YtkgfmgajhgfgjaaGreatDoor
namespace Go.Proofs.YtkgfmgajhgfgjaaGreatDoor
open Go.RowKit Go.Sort
end Go.Proofs.YtkgfmgajhgfgjaaGreatDoor
namespace Go.Proofs.YtkgfmgajhgfgjaaGreatDoor
open Go.RowKit Go.Sort
theorem OwR.frm {lo hi lo' hi':Nat} {w w':World} {xs:List Row} (h:OwR lo hi w xs) (hf:Frm lo' hi' w w') (hd:hi≤lo'∨hi'≤lo):OwR lo hi w' xs:=⟨fun x hx=>(h.own x hx).frm hf hd,h.box,h.ent⟩
end Go.Proofs.YtkgfmgajhgfgjaaGreatDoor
namespace Go.Proofs.YtkgfmgajhgfgjaaGreatDoor
open Go.RowKit Go.Sort
theorem below_undrew {W w':World} (h:Below W.drew.heap.size W.drew w'):Below W.heap.size W w':=⟨h.os,h.tape,h.output,h.size,h.block⟩
end Go.Proofs.YtkgfmgajhgfgjaaGreatDoor
namespace Go.Proofs.YtkgfmgajhgfgjaaGreatDoor
open Go.RowKit Go.Sort

theorem two_rows {B b T1 T2 z1 z2 n1 n2 c1 c2:Nat} {A1 A2:Option Addr} {v1 v2:List Value} {W x1 x2 X:World} (hO1:Ow W.heap.size x1 T1 z1 A1 n1 c1 v1) (hO2:Ow x1.heap.size x2 T2 z2 A2 n2 c2 v2) (hb2:Below x1.heap.size x1 x2) (hB:B≤W.heap.size) (h1:W.heap.size≤x1.heap.size) (hf:Frm b (b+1) x2 X) (hb:b<B) :
    Ow B X T1 z1 A1 n1 c1 v1∧Ow B X T2 z2 A2 n2 c2 v2∧(blkOf ⟨A1,n1,c1⟩ ++ blkOf ⟨A2,n2,c2⟩).Nodup∧(blkOf ⟨A2,n2,c2⟩ ++ blkOf ⟨A1,n1,c1⟩).Nodup:=by
  have i1:=((OwI.of hO1).next hb2).frm hf (.inr (by omega))
  have i2:=(OwI.of hO2).frm hf (.inr (by omega))
  have hn:(blkOf ⟨A1,n1,c1⟩ ++ blkOf ⟨A2,n2,c2⟩).Nodup:=nodup_app x1.heap.size (blkOf_nodup _) (blkOf_nodup _) (fun g hg=>(OwI.mem (s:=⟨A1,n1,c1⟩) i1 g hg).2) (fun g hg=>(OwI.mem (s:=⟨A2,n2,c2⟩) i2 g hg).1)
  obtain ⟨n1,n2,d⟩:=List.nodup_append.1 hn
  exact ⟨i1.ow.mono hB,i2.ow.mono (by omega),hn,List.nodup_append.2 ⟨n2,n1,fun a ha b hb e=>d b hb a ha e.symm⟩⟩

set_option maxRecDepth 100000 in
set_option maxHeartbeats 4000000 in
theorem copyLevel_any (l:Lvl) (ws gs:Sl) (w:World) (hr:RdL w l ws gs) :
    Calls Tryz.prog 69 #[lvlV l ws gs] w fun e w'=>∃ a b,e=.returned (lvlV l a b)∧OwL w.heap.size w'.heap.size w' l a b∧(blkOf a ++ blkOf b).Nodup∧Below w.heap.size w w':=by
  obtain ⟨hr1,hr2,⟨_,hn1⟩,_,hn2⟩:=hr
  have HR1:=Lib.hid hr1
  have HR2:=Lib.hid hr2
  clear hr1 hr2
  go_enter Tryz.func69,Tryz.ntmps69
  go_wp2_with fail
  obtain ⟨W,hW⟩:∃ W,W=((w.alloc (.cells #[.int .i64 l.id,.int .i64 l.ticks,.int .i64 l.sx,.int .i64 l.sy,.slice ws.a ws.n ws.c,.slice gs.a gs.n gs.c,.int .i64 l.f.1,.int .i64 l.f.2.1,.int .i64 l.f.2.2.1,.int .i64 l.f.2.2.2,.int .i64 l.bans] 29)).alloc (.cells #[.int .i64 0,.int .i64 0,.int .i64 0,.int .i64 0,.slice none 0 0,.slice none 0 0,.int .i64 0,.int .i64 0,.int .i64 0,.int .i64 0,.int .i64 0] 29)):=⟨_,rfl⟩
  have hbw:Below w.heap.size w W:=by rw [hW];go_grown
  have hwz:W.heap.size=w.heap.size+2:=by rw [hW];simp
  have hka:Blk W w.heap.size 29 #[.int .i64 l.id,.int .i64 l.ticks,.int .i64 l.sx,.int .i64 l.sy,.slice ws.a ws.n ws.c,.slice gs.a gs.n gs.c,.int .i64 l.f.1,.int .i64 l.f.2.1,.int .i64 l.f.2.2.1,.int .i64 l.f.2.2.2,.int .i64 l.bans]:=by rw [hW];exact (Blk.new _ _ _).alloc _
  have hkr:Blk W (w.heap.size+1) 29 #[.int .i64 0,.int .i64 0,.int .i64 0,.int .i64 0,.slice none 0 0,.slice none 0 0,.int .i64 0,.int .i64 0,.int .i64 0,.int .i64 0,.int .i64 0]:=by rw [hW];exact Blk.newAt _ _ _ _ (by simp)
  have hd1:RdB W ws.a ws.n l.walls:=HR1.out.below hbw
  have hd2:RdB W gs.a gs.n l.gates:=HR2.out.below hbw
  have HD1:=Lib.hid (show RdB W.drew ws.a ws.n l.walls from hd1)
  have HD2:=Lib.hid (show RdB W.drew gs.a gs.n l.gates from hd2)
  have HBW:=Lib.hid hbw
  have HWZ:=Lib.hid hwz
  have HKA:=Lib.hid hka
  have HKR:=Lib.hid hkr
  have ca:=fun o=>hka.cell o
  have za:=hka.lt
  rw [← hW]
  clear hW hbw hwz hka hkr hd1 hd2
  go_cut [3] (fun _ wx=>∃ A c A' c' m,Hid (Below w.heap.size w wx∧Blk wx w.heap.size 29 #[.int .i64 l.id,.int .i64 l.ticks,.int .i64 l.sx,.int .i64 l.sy,.slice A ws.n c,.slice A' gs.n c',.int .i64 l.f.1,.int .i64 l.f.2.1,.int .i64 l.f.2.2.1,.int .i64 l.f.2.2.2,.int .i64 l.bans]∧Blk wx (w.heap.size+1) 29 #[.int .i64 0,.int .i64 0,.int .i64 0,.int .i64 0,.slice none 0 0,.slice none 0 0,.int .i64 0,.int .i64 0,.int .i64 0,.int .i64 0,.int .i64 0]∧Ow (w.heap.size+2) wx 27 4 A ws.n c (cellsB l.walls)∧Ow (w.heap.size+2) wx 27 4 A' gs.n c' (cellsB l.gates)∧(blkOf ⟨A,ws.n,c⟩ ++ blkOf ⟨A',gs.n,c'⟩).Nodup∧m=w.heap.size))
  case first =>
    go_region_with (first
      | (go_at_call 143;refine (cloneB_any ws.a ws.n ws.c l.walls _ HD1.out hn1).mono ?_;rintro e x1 ⟨A1,c1,rfl,hO1,hb1⟩;have hk1:=(HKA.out.drew).next hb1;have ca1:=fun o=>hk1.cell o;have za1:=hk1.lt)
      | (go_at_call 143;refine (cloneB_any gs.a gs.n gs.c l.gates _ HD2.out hn2).mono ?_;rintro e x2 ⟨A2,c2,rfl,hO2,hb2⟩;have hk2:=(HKA.out.drew).next hb2;have ca2:=fun o=>hk2.cell o;have za2:=hk2.lt)
      | (go_at_call 143;refine (cloneB_any ws.a ws.n ws.c l.walls _ (HD1.out.below hb2) hn1).mono ?_;rintro e x1 ⟨A1,c1,rfl,hO1,hb1⟩;have hk1:=hk2.next hb1;have ca1:=fun o=>hk1.cell o;have za1:=hk1.lt;have fa1:=fun o=>hk1.frozen o)
      | (go_at_call 143;refine (cloneB_any gs.a gs.n gs.c l.gates _ (HD2.out.below hb1) hn2).mono ?_;rintro e x2 ⟨A2,c2,rfl,hO2,hb2⟩;have hk2:=hk1.next hb2;have ca2:=fun o=>hk2.cell o;have za2:=hk2.lt;have fa2:=fun o=>hk2.frozen o))
    all_goals
      go_wp2_with fail
      go_meet
      first
        | (obtain ⟨r1,r2,r3,_⟩:=two_rows hO1 hO2 hb2 (B:=w.heap.size+2) (b:=w.heap.size) (by rw [← HWZ.out];exact Nat.le_refl _) hb1.size (Frm.set_ (p:=⟨w.heap.size,5,none⟩) (Frm.set_ (p:=⟨w.heap.size,4,none⟩) (Frm.refl _ _ _) (Nat.le_refl _) (Nat.lt_succ_self _) (.slice A1 ws.n c1)) (Nat.le_refl _) (Nat.lt_succ_self _) (.slice A2 gs.n c2)) (by omega)
           exact ⟨A1,c1,A2,c2,_,((HBW.out.trans ((below_undrew hb1).mono (by have:=HWZ.out;omega))).trans (hb2.mono (by have:=hb1.size;have:=HWZ.out;simp at *;omega))).setCell (Nat.le_refl _) _ |>.setCell (Nat.le_refl _) _,(hk2.set_ 4 _).set_ 5 _,((((HKR.out.drew).next hb1).next hb2).far (by simp) _).far (by simp) _,r1,r2,r3,rfl⟩)
        | (obtain ⟨r2,r1,_,r3⟩:=two_rows hO2 hO1 hb1 (B:=w.heap.size+2) (b:=w.heap.size) (by rw [← HWZ.out];exact Nat.le_refl _) hb2.size (Frm.set_ (p:=⟨w.heap.size,5,none⟩) (Frm.set_ (p:=⟨w.heap.size,4,none⟩) (Frm.refl _ _ _) (Nat.le_refl _) (Nat.lt_succ_self _) (.slice A1 ws.n c1)) (Nat.le_refl _) (Nat.lt_succ_self _) (.slice A2 gs.n c2)) (by omega)
           exact ⟨A1,c1,A2,c2,_,((HBW.out.trans ((below_undrew hb2).mono (by have:=HWZ.out;omega))).trans (hb1.mono (by have:=hb2.size;have:=HWZ.out;simp at *;omega))).setCell (Nat.le_refl _) _ |>.setCell (Nat.le_refl _) _,(hk1.set_ 4 _).set_ 5 _,((((HKR.out.drew).next hb2).next hb1).far (by simp) _).far (by simp) _,r1,r2,r3,rfl⟩)
  case rest =>
    obtain ⟨A,c,A',c',m,HH⟩:=hcut
    have HB:=Lib.hid HH.out.1
    have HA:=Lib.hid HH.out.2.1
    have HRR:=Lib.hid HH.out.2.2.1
    have HO:=Lib.hid HH.out.2.2.2
    have ca:=fun o=>HA.out.cell o
    have za:=HA.out.lt
    have cr:=fun o=>HRR.out.cell o
    have fr:=fun o=>HRR.out.frozen o
    have zr:=HRR.out.lt
    clear HH
    go_wp2_with fail
    refine bodyPost_ret (v:=lvlV l ⟨A,ws.n,c⟩ ⟨A',gs.n,c'⟩) (by simp [results,Tryz.results69,go_sem,cr]) rfl ?_
    obtain ⟨h1,h2,h3,_⟩:=HO.out
    have hend:∀ X:World,Frm (w.heap.size+1) (w.heap.size+2) wc X→∃ a b,Ending.returned (lvlV l ⟨A,ws.n,c⟩ ⟨A',gs.n,c'⟩)=.returned (lvlV l a b)∧OwL w.heap.size X.heap.size X l a b∧(blkOf a ++ blkOf b).Nodup∧Below w.heap.size w X:=fun X hX =>
      ⟨⟨A,ws.n,c⟩,⟨A',gs.n,c'⟩,rfl,⟨(((OwI.of h1).frm hX (.inr (by omega))).mono (by omega) hX.size),(((OwI.of h2).frm hX (.inr (by omega))).mono (by omega) hX.size),hn1,hn2⟩,h3,HB.out.trans (hX.below (by omega) HB.out.size)⟩
    refine hend _ ?_
    iterate 11 (refine Frm.set_ ?_ (by simp) (by simp) _)
    exact Frm.refl _ _ _
end Go.Proofs.YtkgfmgajhgfgjaaGreatDoor
namespace Go.Proofs.YtkgfmgajhgfgjaaGreatDoor
open Go.RowKit Go.Sort
set_option maxRecDepth 100000 in
set_option maxHeartbeats 4000000 in
theorem l41Level_any (l:Lvl) (ws gs:Sl) (w:World) (hr:RdL w l ws gs) :
  Calls Tryz.prog 170 #[lvlV l ws gs] w fun e w'=>∃ a b,e=.returned (lvlV l a b)∧OwL w.heap.size w'.heap.size w' l a b∧(blkOf a ++ blkOf b).Nodup∧Below w.heap.size w w':=by
 obtain ⟨i0,hi0,hz0,hz1,hz2⟩:=info_parts infoB
 have HI:=Lib.hid hi0
 have HZ:=Lib.hid hz0
 have HS:=Lib.hid hz1
 have HBY:=Lib.hid hz2
 clear hi0 hz0 hz1 hz2
 obtain ⟨hr1,hr2,⟨_,hn1⟩,_,hn2⟩:=hr
 have HR1:=Lib.hid hr1
 have HR2:=Lib.hid hr2
 clear hr1 hr2
 go_enter Tryz.func170,Tryz.ntmps170
 go_upto_region 1 with (fail)
 refine into_world (fun W=>Below w.heap.size w W∧W.heap.size=w.heap.size+2∧Blk W w.heap.size 29 #[.int .i64 l.id,.int .i64 l.ticks,.int .i64 l.sx,.int .i64 l.sy,.slice ws.a ws.n ws.c,.slice gs.a gs.n gs.c,.int .i64 l.f.1,.int .i64 l.f.2.1,.int .i64 l.f.2.2.1,.int .i64 l.f.2.2.2,.int .i64 l.bans]∧Blk W (w.heap.size+1) 29 #[.int .i64 0,.int .i64 0,.int .i64 0,.int .i64 0,.slice none 0 0,.slice none 0 0,.int .i64 0,.int .i64 0,.int .i64 0,.int .i64 0,.int .i64 0]) ⟨by go_grown,by simp,(Blk.new _ _ _).alloc _,Blk.newAt _ _ _ _ (by simp)⟩ ?_
 rintro W ⟨hbw,hwz,hka,hkr⟩
 have HD1:=Lib.hid (show RdB W ws.a ws.n l.walls from HR1.out.below hbw)
 have HD2:=Lib.hid (show RdB W gs.a gs.n l.gates from HR2.out.below hbw)
 have HBW:=Lib.hid hbw
 have ca:=fun o=>hka.cell o
 have za:=hka.lt
 clear hbw
 go_upto_region 2 with (at_builtin;refine wpList_append_ow _ rfl (.tmp 3) (.tmp 5) _ rfl W.heap.size 27 i0 _ 4 32 Tryz.underlying25 HI.out HZ.out HS.out HBY.out rfl (by omega) _ 0 0 [] rfl (Ow.bare _ _ _ _ _) _ ws.n _ (cellsB l.walls) rfl (Src.rd encB_len (HD1.out.below (by go_grown))) (cellsX_oneCell encB_one _) (by unfold maxLen;omega) (by omega) (by simp) ?_;intro A1 c1 y2 hown2 hg2 _;rw [Nat.zero_add,List.nil_append] at hown2;have hbb:=(Ow.bare W.heap.size _ 27 4 none).grown hg2 ((Below.refl W.heap.size W).alloc (Nat.le_refl _) _) (Nat.le_refl _) (by simp);have hka2:=hka.next hbb;have hkr2:=hkr.next hbb;have ca2:=fun o=>hka2.cell o;have fa2:=fun o=>hka2.frozen o;have za2:=hka2.lt)
 refine into_world (fun X=>Below w.heap.size w X∧W.heap.size≤X.heap.size∧Blk X w.heap.size 29 #[.int .i64 l.id,.int .i64 l.ticks,.int .i64 l.sx,.int .i64 l.sy,.slice A1 ws.n c1,.slice gs.a gs.n gs.c,.int .i64 l.f.1,.int .i64 l.f.2.1,.int .i64 l.f.2.2.1,.int .i64 l.f.2.2.2,.int .i64 l.bans]∧Blk X (w.heap.size+1) 29 #[.int .i64 0,.int .i64 0,.int .i64 0,.int .i64 0,.slice none 0 0,.slice none 0 0,.int .i64 0,.int .i64 0,.int .i64 0,.int .i64 0,.int .i64 0]∧Ow W.heap.size X 27 4 A1 ws.n c1 (cellsB l.walls)) ⟨(HBW.out.trans (hbb.mono (by omega))).setCell (Nat.le_refl _) _,by simpa using hbb.size,hka2.set_ 4 _,hkr2.far (by simp) _,hown2.onlyB (g:=w.heap.size) (Only.set_ (Only.refl _ _) (.inl rfl) _) (by omega)⟩ ?_
 rintro X ⟨hbx,hsx,hka,hkr,hox⟩
 clear hown2 hg2 hbb hka2 hkr2 ca2 fa2 za2 ca za
 have HE2:=Lib.hid (show RdB X gs.a gs.n l.gates from HR2.out.below hbx)
 have HBX:=Lib.hid hbx
 have HOX:=Lib.hid hox
 have ca:=fun o=>hka.cell o
 have za:=hka.lt
 clear hbx hox
 go_upto_region 3 with (at_builtin;refine wpList_append_ow _ rfl (.tmp 8) (.tmp 10) _ rfl X.heap.size 27 i0 _ 4 32 Tryz.underlying25 HI.out HZ.out HS.out HBY.out rfl (by omega) _ 0 0 [] rfl (Ow.bare _ _ _ _ _) _ gs.n _ (cellsB l.gates) rfl (Src.rd encB_len (HE2.out.below (by go_grown))) (cellsX_oneCell encB_one _) (by unfold maxLen;omega) (by omega) (by simp) ?_;intro A2 c2 y3 hown2 hg2 _;rw [Nat.zero_add,List.nil_append] at hown2;have hbb:=(Ow.bare X.heap.size _ 27 4 none).grown hg2 ((Below.refl X.heap.size X).alloc (Nat.le_refl _) _) (Nat.le_refl _) (by simp);have hka2:=hka.next hbb;have hkr2:=hkr.next hbb;have ca2:=fun o=>hka2.cell o;have fa2:=fun o=>hka2.frozen o;have za2:=hka2.lt)
 have hBz:w.heap.size+2≤W.heap.size:=by omega
 obtain ⟨r1,r2,r3,_⟩:=two_rows HOX.out hown2 hbb (B:=w.heap.size+2) (b:=w.heap.size) hBz hsx (Frm.set_ (p:=⟨w.heap.size,5,none⟩) (Frm.refl _ _ _) (Nat.le_refl _) (Nat.lt_succ_self _) (.slice A2 gs.n c2)) (by omega)
 refine into_world (fun Y=>Below w.heap.size w Y∧Blk Y w.heap.size 29 #[.int .i64 l.id,.int .i64 l.ticks,.int .i64 l.sx,.int .i64 l.sy,.slice A1 ws.n c1,.slice A2 gs.n c2,.int .i64 l.f.1,.int .i64 l.f.2.1,.int .i64 l.f.2.2.1,.int .i64 l.f.2.2.2,.int .i64 l.bans]∧Blk Y (w.heap.size+1) 29 #[.int .i64 0,.int .i64 0,.int .i64 0,.int .i64 0,.slice none 0 0,.slice none 0 0,.int .i64 0,.int .i64 0,.int .i64 0,.int .i64 0,.int .i64 0]∧Ow (w.heap.size+2) Y 27 4 A1 ws.n c1 (cellsB l.walls)∧Ow (w.heap.size+2) Y 27 4 A2 gs.n c2 (cellsB l.gates)) ⟨(HBX.out.trans (hbb.mono (by omega))).setCell (Nat.le_refl _) _,hka2.set_ 5 _,hkr2.far (by simp) _,r1,r2⟩ ?_
 rintro Y ⟨hby,hka,hkr,h1,h2⟩
 clear r1 r2 hown2 hg2 hbb hka2 hkr2 ca2 fa2 za2 ca za
 have ca:=fun o=>hka.cell o
 have za:=hka.lt
 have cr:=fun o=>hkr.cell o
 have fr:=fun o=>hkr.frozen o
 have zr:=hkr.lt
 have HB:=Lib.hid hby
 have H1:=Lib.hid h1
 have H2:=Lib.hid h2
 clear h1 h2 hby
 go_wp2_with fail
 refine bodyPost_ret (v:=lvlV l ⟨A1,ws.n,c1⟩ ⟨A2,gs.n,c2⟩) (by simp [results,Tryz.results170,go_sem,cr]) rfl ?_
 have hend:∀ X:World,Frm (w.heap.size+1) (w.heap.size+2) Y X→∃ a b,Ending.returned (lvlV l ⟨A1,ws.n,c1⟩ ⟨A2,gs.n,c2⟩)=.returned (lvlV l a b)∧OwL w.heap.size X.heap.size X l a b∧(blkOf a ++ blkOf b).Nodup∧Below w.heap.size w X:=fun X hX =>
  ⟨⟨A1,ws.n,c1⟩,⟨A2,gs.n,c2⟩,rfl,⟨(((OwI.of H1.out).frm hX (.inr (by omega))).mono (by omega) hX.size),(((OwI.of H2.out).frm hX (.inr (by omega))).mono (by omega) hX.size),hn1,hn2⟩,r3,HB.out.trans (hX.below (by omega) HB.out.size)⟩
 refine hend _ ?_
 iterate 11 (refine Frm.set_ ?_ (by simp) (by simp) _)
 exact Frm.refl _ _ _
end Go.Proofs.YtkgfmgajhgfgjaaGreatDoor
namespace Go.Proofs.YtkgfmgajhgfgjaaGreatDoor
open Go.RowKit Go.Sort
theorem ownB_some {g c:Nat} (h:0<c):ownB (some (⟨g,0,none⟩:Addr)) c=some g:=by unfold ownB;rw [if_neg (by omega)];rfl
end Go.Proofs.YtkgfmgajhgfgjaaGreatDoor
namespace Go.Proofs.YtkgfmgajhgfgjaaGreatDoor
open Go.RowKit Go.Sort
def KeepI (w w':World):Prop:=∀ x cs,Blk w x 3 cs→w'.heap[x]?=w.heap[x]?
theorem KeepI.refl (w:World):KeepI w w:=fun _ _ _=>rfl
theorem KeepI.trans {a b c:World} (h:KeepI a b) (k:KeepI b c):KeepI a c:=fun x cs hx=>(k x cs ((h x cs hx).trans hx)).trans (h x cs hx)
theorem KeepI.only {g T:Nat} {a b:World} {cur:Array Value} (h:Blk a g T cur) (hne:3≠T) (ho:Only g a b):KeepI a b:=fun x cs hx=>ho.block x hx.lt (by
 intro e
 injection e with e
 exact Blk.ne_ hx h hne e)
theorem OwTs.at12 {lo hi n c g k:Nat} {w:World} {a b:List Row} {x:Row} (h:OwTs lo hi w ⟨some ⟨g,0,none⟩,n,c⟩ (a ++ x :: b)) (hk:a.length=k) (p:TP) (hp:x.1=p) :
  ∃ cur z0 z1 z2 z3 z6 z7 z8 z9 z10,Blk w g 65 cur∧w.cell? ⟨g,k * 12,none⟩=some (z0)∧w.cell? ⟨g,k * 12+1,none⟩=some (z1)∧w.cell? ⟨g,k * 12+2,none⟩=some (z2)∧w.cell? ⟨g,k * 12+3,none⟩=some (z3)∧w.cell? ⟨g,k * 12+4,none⟩=some (.slice p.w.a p.w.n p.w.c)∧w.cell? ⟨g,k * 12+5,none⟩=some (.slice p.g.a p.g.n p.g.c)∧w.cell? ⟨g,k * 12+6,none⟩=some (z6)∧w.cell? ⟨g,k * 12+7,none⟩=some (z7)∧w.cell? ⟨g,k * 12+8,none⟩=some (z8)∧w.cell? ⟨g,k * 12+9,none⟩=some (z9)∧w.cell? ⟨g,k * 12+10,none⟩=some (z10)∧w.cell? ⟨g,k * 12+11,none⟩=some (.slice p.b.a p.b.n p.b.c):=by
 subst hp
 obtain ⟨h1,_,_,_,_⟩:=h
 have hO:Ow lo w 65 12 (some ⟨g,0,none⟩) n c (cellsT (a ++ x :: b)):=h1.ow
 have hlen:=hO.len
 rw [cellsT_len,List.length_append,List.length_cons] at hlen
 have hle:=hO.le
 obtain ⟨g',cur,hg,hB,hb,hnc,hcm,hcs,htk⟩:=hO.blk (by omega)
 injection hg with hg
 injection hg with hg
 subst hg
 have hc:∀ j v,(encT x)[j]?=some v→w.cell? ⟨g,k * 12+j,none⟩=some v:=by
  intro j v hv
  have hj:j<12:=(List.getElem?_eq_some_iff.1 hv).1
  have h2:(cellsT (a ++ x :: b))[k * 12+j]?=some v:=cellsX_get encT_len (a ++ x :: b) k x (by rw [← hk];simp) j v hv
  rw [hb.cell,← Array.getElem?_toList]
  rw [← htk,List.getElem?_take] at h2
  split at h2
  ·exact h2
  ·cases h2
 exact ⟨cur,_,_,_,_,_,_,_,_,_,hb,hc 0 _ rfl,hc 1 _ rfl,hc 2 _ rfl,hc 3 _ rfl,hc 4 _ rfl,hc 5 _ rfl,hc 6 _ rfl,hc 7 _ rfl,hc 8 _ rfl,hc 9 _ rfl,hc 10 _ rfl,hc 11 _ rfl⟩
end Go.Proofs.YtkgfmgajhgfgjaaGreatDoor
namespace Go.Proofs.YtkgfmgajhgfgjaaGreatDoor
open Go.RowKit Go.Sort
theorem OwTs.apartI {lo hi B n c:Nat} {A:Option Addr} {w w':World} {t:Sl} {xs:List Row} {vs:List Value} (h:OwTs lo hi w t xs) (k:Ow B w 3 1 A n c vs) (hg:w.grownBy w' (ownB A c)):OwTs lo hi w' t xs :=
 ⟨h.1.apart k (by decide) hg,fun x hx=>by
  obtain ⟨⟨h1,h2,h3⟩,h4,h5⟩:=h.2.1 x hx
  exact ⟨⟨h1.apart k (by decide) hg,h2.apart k (by decide) hg,h3⟩,h4.apart k (by decide) hg,h5⟩,h.2.2⟩
theorem keepZ {lo hi:Nat} {w w':World} {s:Sl} {zs:List Int} (h:OwZ lo hi w s zs) (hk:KeepI w w'):OwZ lo hi w' s zs :=
 OwI.keep h fun g hg hc=>by
  obtain ⟨g',cur,hA,_,hb,_⟩:=h.ow.blk hc
  rw [hA] at hg
  injection hg with hg
  simp only at hg
  subst hg
  exact hk _ _ hb
end Go.Proofs.YtkgfmgajhgfgjaaGreatDoor
namespace Go.Proofs.YtkgfmgajhgfgjaaGreatDoor
open Go.RowKit Go.Sort
theorem t12 {w:World} {b:Nat} {x:Row} (h:Blk w b 65 #[.int .i64 x.2.l.id,.int .i64 x.2.l.ticks,.int .i64 x.2.l.sx,.int .i64 x.2.l.sy,.slice x.1.w.a x.1.w.n x.1.w.c,.slice x.1.g.a x.1.g.n x.1.g.c,.int .i64 x.2.l.f.1,.int .i64 x.2.l.f.2.1,.int .i64 x.2.l.f.2.2.1,.int .i64 x.2.l.f.2.2.2,.int .i64 x.2.l.bans,.slice x.1.b.a x.1.b.n x.1.b.c]):w.cell? ⟨b,0,none⟩=some (.int .i64 x.2.l.id)∧w.cell? ⟨b,1,none⟩=some (.int .i64 x.2.l.ticks)∧w.cell? ⟨b,2,none⟩=some (.int .i64 x.2.l.sx)∧w.cell? ⟨b,3,none⟩=some (.int .i64 x.2.l.sy)∧w.cell? ⟨b,4,none⟩=some (.slice x.1.w.a x.1.w.n x.1.w.c)∧w.cell? ⟨b,5,none⟩=some (.slice x.1.g.a x.1.g.n x.1.g.c)∧w.cell? ⟨b,6,none⟩=some (.int .i64 x.2.l.f.1)∧w.cell? ⟨b,7,none⟩=some (.int .i64 x.2.l.f.2.1)∧w.cell? ⟨b,8,none⟩=some (.int .i64 x.2.l.f.2.2.1)∧w.cell? ⟨b,9,none⟩=some (.int .i64 x.2.l.f.2.2.2)∧w.cell? ⟨b,10,none⟩=some (.int .i64 x.2.l.bans)∧w.cell? ⟨b,11,none⟩=some (.slice x.1.b.a x.1.b.n x.1.b.c) :=
 ⟨h.cell 0,h.cell 1,h.cell 2,h.cell 3,h.cell 4,h.cell 5,h.cell 6,h.cell 7,h.cell 8,h.cell 9,h.cell 10,h.cell 11⟩
theorem blk_t {lo hi T T' sz n c x:Nat} {A:Option Addr} {w0 w w':World} {cs:Array Value} {vs:List Value} (h:Blk w x T cs) (k:OwI lo hi w0 T' sz A n c vs) (hg:w.grownBy w' (ownB A c)) (hx:hi≤x):Blk w' x T cs :=
 (hg.block x h.lt (by
  intro e
  unfold ownB at e
  split at e
  ·cases e
  ·have:=(k.lt e.symm (by omega)).2.1
   omega)).trans h
theorem blk_apart' {B T T' sz n c x:Nat} {A:Option Addr} {w w':World} {cs:Array Value} {vs:List Value} (h:Blk w x T cs) (k:Ow B w T' sz A n c vs) (hne:T≠T') (hg:w.grownBy w' (ownB A c)):Blk w' x T cs :=
 (hg.block x h.lt (by
  intro e
  rcases Nat.eq_zero_or_pos c with h0|h0
  ·rw [h0] at e;simp [ownB] at e
  ·obtain ⟨g2,_,e2,_,hb2,_⟩:=k.blk h0
   unfold ownB at e
   rw [if_neg (by omega),e2] at e
   injection e with e
   simp only at e
   exact Blk.ne_ h hb2 hne e)).trans h
theorem keepI_frm {o T:Nat} {w w':World} {cs:Array Value} (hf:Frm o (o+1) w w') (h:Blk w o T cs) (hne:3≠T):KeepI w w':=fun x _ hx=>hf.block x hx.lt (by
 have:x≠o:=by rintro rfl;exact Blk.ne_ hx h hne rfl
 omega)
theorem OwR.apart {lo hi B n c:Nat} {A:Option Addr} {w w':World} {xs:List Row} {vs:List Value} (h:OwR lo hi w xs) (k:Ow B w 65 12 A n c vs) (hg:w.grownBy w' (ownB A c)):OwR lo hi w' xs :=
 ⟨fun x hx=>by
  obtain ⟨⟨h1,h2,h3⟩,h4,h5⟩:=h.own x hx
  exact ⟨⟨h1.apart k (by decide) hg,h2.apart k (by decide) hg,h3⟩,h4.apart k (by decide) hg,h5⟩,h.box,h.ent⟩
theorem copy_round {o p c' c4 M:Nat} {A' A4:Option Addr} {ys:List Row} {y:Row} {wr xl w3 X:World} {ob:Obj} (ho:o<M) (hM:M≤wr.heap.size) (hp:p<1048576)
  (hT:OwTs M wr.heap.size wr ⟨A',p,c'⟩ ys) (hb:Below wr.heap.size wr xl)
  (hL:OwL wr.heap.size xl.heap.size xl y.2.l y.1.w y.1.g) (hnd:(blkOf y.1.w ++ blkOf y.1.g).Nodup) (hE:OwEn wr.heap.size xl.heap.size xl y.1.b y.2.b) (hEn:y.1.b.n≤1048576)
  (hO4:Ow M w3 65 12 A4 (p+1) c4 (cellsT ys ++ encT y)) (hg4:(xl.alloc ob).grownBy w3 (ownB A' c')) (hX:Frm o (o+1) w3 X) :
  OwTs M X.heap.size X ⟨A4,p+1,c4⟩ (ys ++ [y]):=by
 have ha:Below xl.heap.size xl (xl.alloc ob):=(Below.refl _ _).alloc (Nat.le_refl _) _
 have hk:Ow M (xl.alloc ob) 65 12 A' p c' (cellsT ys):=((hT.1.next hb).next ha).ow
 have r1:OwR M wr.heap.size X ys:=(((hT.rows.next hb).next ha).apart hk hg4).frm hX (.inr ho)
 have hL':=hL.next ha
 have hE':OwEn wr.heap.size xl.heap.size (xl.alloc ob) y.1.b y.2.b:=OwI.next hE ha
 have ry:OwR wr.heap.size xl.heap.size (xl.alloc ob) [y]:=⟨fun z hz=>by
  obtain rfl:z=y:=List.mem_singleton.1 hz
  exact ⟨hL',hE',hEn⟩,by rw [boxBlks_one];exact hnd,by rw [entBlks_one];exact blkOf_nodup _⟩
 have r2:OwR wr.heap.size xl.heap.size X [y]:=(ry.apart hk hg4).frm hX (.inr (by omega))
 have s1:xl.heap.size≤X.heap.size:=Nat.le_trans (Nat.le_trans ha.size hg4.size) hX.size
 have hR:=(r1.app r2 hM hb.size).mono (lo':=M) (Nat.le_refl _) s1
 refine OwTs.mk_ ?_ hR (by show p+1≤1048576;omega)
 have h5:=(OwI.of hO4).frm hX (.inr ho)
 have h6:=h5.mono (lo':=M) (Nat.le_refl _) hX.size
 show OwI M _ _ _ 12 _ _ _ (cellsX encT (ys ++ [y]))
 rw [cellsX_append,cellsX_one]
 exact h6
theorem copy_frm {o M c':Nat} {A':Option Addr} {wr xl w3 X:World} {ob:Obj} {p:Nat} {vs:List Value} {wc:World} (hwc:wc.heap.size=M) (h0:Frm o (o+1) wc wr) (hT:OwI M wr.heap.size wr 65 12 A' p c' vs) (hb:Below wr.heap.size wr xl) (hg4:(xl.alloc ob).grownBy w3 (ownB A' c')) (hX:Frm o (o+1) w3 X):Frm o (o+1) wc X:=by
 have ha:Below xl.heap.size xl (xl.alloc ob):=(Below.refl _ _).alloc (Nat.le_refl _) _
 have h1:=((h0.next hb).next ha)
 refine Frm.trans ⟨hg4.os.trans h1.os,hg4.tape.trans h1.tape,hg4.output.trans h1.output,Nat.le_trans h1.size hg4.size,fun i hi ho=>?_⟩ hX
 rw [hg4.block i (Nat.lt_of_lt_of_le hi h1.size) ?_]
 ·exact h1.block i hi ho
 ·intro e
  unfold ownB at e
  split at e
  ·cases e
  ·have:=(hT.lt e.symm (by omega)).1
   omega
end Go.Proofs.YtkgfmgajhgfgjaaGreatDoor

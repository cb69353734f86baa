/-
  Lemmas and contracts: Ek Em Lp Et. No condition.
-/
import Derived.Test.YtkgfmgajhgfgjaaGreatDoorKa9
import Derived.Test.YtkgfmgajhgfgjaaGreatDoorKa10
import Derived.Test.YtkgfmgajhgfgjaaGreatDoorKa16
import Derived.Test.YtkgfmgajhgfgjaaGreatDoorKa20
set_option linter.unusedSimpArgs false
set_option linter.unusedVariables false
set_option linter.unusedSectionVars false
namespace Go.Proofs.YtkgfmgajhgfgjaaGreatDoor
open Go.RowKit Go.Sort
def accS (S:Svc) (r:Rep) (i:Nat) (tr:Trk):Svc × Int :=
 if hasZ S.tags r.tag then (S,10) else if (addE tr.b (r.pl,r.sc)).2=1 then (S,11) else if (addE tr.b (r.pl,r.sc)).2=2 then (S,12)
 else if 12≤S.tags.length then (S,13) else (⟨S.ts.set i ⟨tr.l,(addE tr.b (r.pl,r.sc)).1⟩,S.keys,S.tags ++ [r.tag]⟩,0)
theorem OwS.addTag {lo hi hi' n' c':Nat} {w w':World} {t k g:Sl} {S:Svc} {A':Option Addr} {v:Int} (h:OwS lo hi w t k g S) (ho:Ow lo w' 3 1 A' n' c' (cellsI (S.tags ++ [v]))) (hg:w.grownBy w' (ownB g.a g.c))
  (hn:∀ b,A'.map (·.block)=some b→0<c'→ownB g.a g.c=some b∨hi≤b) (hb:∀ b,A'.map (·.block)=some b→0<c'→b<hi') (hh:hi≤hi') (hl:n'≤1048576):OwS lo hi' w' t k ⟨A',n',c'⟩ ⟨S.ts,S.keys,S.tags ++ [v]⟩:=by
 obtain ⟨⟨xs,h1,h2⟩,h3,h4,h5,h6,h7⟩:=h
 have hd:=(List.nodup_append.1 h5)
 have hk:OwZ lo hi w' k S.keys:=OwI.apartB h3 (fun x hx hx'=>hd.2.2 x hx x hx' rfl) hg
 refine ⟨⟨xs,h1,(h2.apartI h4.ow hg).mono (Nat.le_refl _) hh⟩,OwI.mono hk (Nat.le_refl _) hh,⟨ho,fun hc b hbb=>hb b hbb hc⟩,?_,h6,hl⟩
 rw [List.nodup_append]
 refine ⟨hd.1,blkOf_nodup _,fun x hx y hy e=>?_⟩
 subst e
 obtain ⟨hc,hy⟩:=mem_blkOf.1 hy
 rcases hn x hy hc with h|h
 ·exact hd.2.2 x hx x (by show x ∈ (ownB g.a g.c).toList;rw [h];simp) rfl
 ·have:=(OwI.mem h3 x hx).2
  omega
theorem cnt_ret {w w3 Z:World} {lo hi q:Nat} {t k g:Sl} {S:Svc} {v:Int} (h:OwS lo hi w3 t k g S) (hb:Below w.heap.size w w3) (h1:q+1≤lo) (h2:w.heap.size≤q) (h3:hi≤w3.heap.size) (hZ:Frm q (q+1) w3 Z) :
  CntPost w.heap.size (S,v) w (.returned (.tuple #[svV t k g,.int .i64 v])) Z :=
 ⟨t,k,g,rfl,(h.frm hZ (.inr h1)).mono (by omega) (Nat.le_trans h3 hZ.size),hb.trans (hZ.below h2 hb.size)⟩
theorem OwI.onlyT {lo hi T sz n c o T':Nat} {A:Option Addr} {w w':World} {vs:List Value} {cs:Array Value} (h:OwI lo hi w T sz A n c vs) (k:Blk w o T' cs) (hne:T≠T') (ho:Only o w w'):OwI lo hi w' T sz A n c vs:=⟨h.1.onlyT k hne ho,h.2⟩
theorem OwS.onlyT {lo hi o T':Nat} {w w':World} {t k g:Sl} {S:Svc} {cs:Array Value} (h:OwS lo hi w t k g S) (b:Blk w o T' cs) (h1:27≠T') (h2:55≠T') (h3:65≠T') (h4:3≠T') (ho:Only o w w'):OwS lo hi w' t k g S:=by
 obtain ⟨⟨xs,e1,r1,r2,r3,r4,r5⟩,e3,e4,e5⟩:=h
 exact ⟨⟨xs,e1,OwI.onlyT r1 b h3 ho,fun x hx=>by
  obtain ⟨⟨q1,q2,q3⟩,q4,q5⟩:=r2 x hx
  exact ⟨⟨OwI.onlyT q1 b h1 ho,OwI.onlyT q2 b h1 ho,q3⟩,OwI.onlyT q4 b h2 ho,q5⟩,r3,r4,r5⟩,OwI.onlyT e3 b h4 ho,OwI.onlyT e4 b h4 ho,e5⟩
theorem split_at {α:Type} {l:List α} {i:Nat} {x:α} (h:l[i]?=some x):∃ a b,l=a ++ x :: b∧a.length=i:=by
 obtain ⟨hi,hx⟩:=List.getElem?_eq_some_iff.1 h
 refine ⟨l.take i,l.drop (i+1),?_,by simp;omega⟩
 rw [← hx,← List.drop_eq_getElem_cons hi,List.take_append_drop]
theorem OwS.cell11 {lo hi i n c:Nat} {w:World} {A:Option Addr} {k gg:Sl} {S:Svc} {tr:Trk} (h:OwS lo hi w ⟨A,n,c⟩ k gg S) (ht:S.ts[i]?=some tr) :
  ∃ g cur v,A=some ⟨g,0,none⟩∧lo≤g∧g<hi∧Blk w g 65 cur∧w.cell? ⟨g,i * 12+11,none⟩=some v∧i<n:=by
 obtain ⟨⟨xs,h1,h2⟩,h3,h4,h5,h6,h7⟩:=h
 obtain ⟨x,hx,_⟩:=row_of h1 ht
 have hin:i<n:=by have:=(List.getElem?_eq_some_iff.1 hx).1;have:=h2.rd.1.len;simp only at this;omega
 obtain ⟨a,b,rfl,hl⟩:=split_at hx
 obtain ⟨gt,_,hA,hg1,_⟩:=h2.1.ow.blk (Nat.lt_of_lt_of_le (show 0<n by omega) h2.1.ow.le)
 simp only at hA
 subst hA
 obtain ⟨cur,z0,z1,z2,z3,z6,z7,z8,z9,z10,hbk,_,_,_,_,_,_,_,_,_,_,_,e11⟩:=h2.at12 hl x.1 rfl
 have:=h2.1.2 (Nat.lt_of_lt_of_le (show 0<n by omega) h2.1.ow.le) gt rfl
 exact ⟨gt,cur,_,rfl,hg1,this,hbk,e11,hin⟩
theorem OwS.newBoard {lo hi hi' n c g i:Nat} {w:World} {k gg:Sl} {S:Svc} {tr:Trk} {s:Sl} {es:List Ent} (h:OwS lo hi w ⟨some ⟨g,0,none⟩,n,c⟩ k gg S) (ht:S.ts[i]?=some tr) (hb:OwEn hi hi' w s es) (hlh:lo≤hi) (hle:hi≤hi') (hs:s.n≤1048576) :
  OwS lo hi' (w.setCell ⟨g,i * 12+11,none⟩ (.slice s.a s.n s.c)) ⟨some ⟨g,0,none⟩,n,c⟩ k gg ⟨S.ts.set i ⟨tr.l,es⟩,S.keys,S.tags⟩:=by
 obtain ⟨⟨xs,h1,h2⟩,h3,h4,h5,h6,h7⟩:=h
 obtain ⟨x,hx,hxt⟩:=row_of h1 ht
 have hin:i<n:=by have:=(List.getElem?_eq_some_iff.1 hx).1;have:=h2.rd.1.len;simp only at this;omega
 obtain ⟨a,b,rfl,hl⟩:=split_at hx
 have hO:Ow lo w 65 12 (some ⟨g,0,none⟩) n c (cellsT (a ++ x :: b)):=h2.1.ow
 have hc:0<c:=by have:=hO.le;omega
 have hG:w.grownBy (w.setCell ⟨g,i * 12+11,none⟩ (.slice s.a s.n s.c)) (ownB (some ⟨g,0,none⟩) c):=by
  rw [ownB_some hc]
  exact Only.set_ (p:=⟨g,i * 12+11,none⟩) (Only.refl g w) (.inl rfl) _
 refine ⟨⟨_,?_,h2.newBoard hl hb hlh hle hs⟩,(OwI.apart h3 hO (by decide) hG).mono (Nat.le_refl _) hle,(OwI.apart h4 hO (by decide) hG).mono (Nat.le_refl _) hle,h5,h6,h7⟩
 rw [← h1,← hxt,← hl]
 simp
set_option maxRecDepth 100000 in
set_option maxHeartbeats 8000000 in
theorem l41Accept_any (t k g:Sl) (S:Svc) (r:Rep) (si sh:Sl) (i:Nat) (tr:Trk) (w:World) (hr:RdS w t k g S) (hq:RdR w r si sh) (hv:validS S=true) (ho:repOk r=true) (ht:S.ts[i]?=some tr) :
  Calls Tryz.prog 94 #[svV t k g,repV r si sh,.int .i64 (i:Int)] w (CntPost w.heap.size (accS S r i tr) w):=by
 have HRS:=Lib.hid hr
 have HRR:=Lib.hid hq
 have HV:=Lib.hid hv
 have HO:=Lib.hid (repOk_facts ho)
 obtain ⟨i0,hi0,hz0,hz1,hz2⟩:=info_parts infoZ
 have HI:=Lib.hid hi0
 have HZ:=Lib.hid hz0
 have HS:=Lib.hid hz1
 have HBY:=Lib.hid hz2
 clear hi0 hz0 hz1 hz2
 obtain ⟨⟨xs,hxs,hr1⟩,_,hr3,⟨_,hn1⟩,_,_,hn3⟩:=hr
 obtain ⟨A,n,c⟩:=t
 obtain ⟨GA,gn,gc⟩:=g
 simp only at hr1 hn1 hr3 hn3
 have HR:=Lib.hid hr1
 have HG:=Lib.hid hr3
 have hgl:=hr3.len
 have HGL:=Lib.hid hgl
 obtain ⟨x,hx,hxt⟩:=row_of hxs ht
 have hin:i<n:=by have:=(List.getElem?_eq_some_iff.1 hx).1;have:=hr1.1.len;omega
 obtain ⟨b,off,y,hA,hb,hy,hry,e0,e1,e2,e3,e4,e5,e6,e7,e8,e9,e10,e11⟩:=RdTs.cells hr1 hin
 obtain rfl:y=x:=by rw [hx] at hy;exact (Option.some.inj hy).symm
 subst hxt
 have HTR:=Lib.hid ht
 have HRY:=Lib.hid hry
 have hvb:=(valid_trk hv ht).2.1
 have hb4:y.2.b.length≤4:=by simp [validE] at hvb;omega
 have HB4:=Lib.hid hb4
 have hg12:gn≤12:=by have:=(validS_of hv).2.2.1;omega
 subst hA
 clear hr1 hr3 hxs hq hv ho ht hx hy hry hvb hgl e0 e1 e2 e3 e4 e5 e6 e7 e8 e9 e10
 go_enter Tryz.func94,Tryz.ntmps94
 go_upto_region 1 with (fail)
 refine into_world (fun W=>Below w.heap.size w W∧W.heap.size=w.heap.size+3∧Blk W w.heap.size 42 #[.slice (some ⟨b,off,none⟩) n c,.slice k.a k.n k.c,.slice GA gn gc]∧Blk W (w.heap.size+1) 35 (repC r si sh)∧Blk W (w.heap.size+1+1) 42 #[.slice none 0 0,.slice none 0 0,.slice none 0 0]) ⟨ba (ba (ba (Below.refl _ _))),by simp,((Blk.new _ _ _).alloc _).alloc _,(Blk.newAt _ _ _ _ (by simp)).alloc _,Blk.newAt _ _ _ _ (by simp)⟩ ?_
 rintro W ⟨hbw,hwz,hka,hkq,hkr⟩
 have HBW:=Lib.hid hbw
 have HKA:=Lib.hid hka
 have HKQ:=Lib.hid hkq
 have HKR:=Lib.hid hkr
 clear hbw hka hkq hkr
 have ca:=fun o=>HKA.out.cell o
 have fa:=fun o=>HKA.out.frozen o
 have za:=HKA.out.lt
 go_wp2_with fail
 refine (l41Copy_any _ _ _ S _ (HRS.out.below HBW.out)).mono ?_
 rintro e w2 ⟨t2,k2,g2,rfl,ho2,hb2⟩
 have HO2:=Lib.hid ho2
 have HBW2:=Lib.hid (below_next HBW.out hb2)
 have hs2:=hb2.size
 replace HKA:=Lib.hid (HKA.out.next hb2)
 replace HKQ:=Lib.hid (HKQ.out.next hb2)
 replace HKR:=Lib.hid (HKR.out.next hb2)
 clear hb2 ho2 ca fa za
 obtain ⟨A2,n2,c2⟩:=t2
 obtain ⟨k2a,k2n,k2c⟩:=k2
 obtain ⟨g2a,g2n,g2c⟩:=g2
 go_upto_region 2 with (fail)
 refine into_world (fun W2=>Below w2.heap.size w2 W2∧W2.heap.size=w2.heap.size+1∧Blk W2 w2.heap.size 42 #[.slice A2 n2 c2,.slice k2a k2n k2c,.slice g2a g2n g2c]) ⟨by go_grown,by simp,Blk.new _ _ _⟩ ?_
 rintro W2 ⟨hb3,hz3,hkl⟩
 have HKL:=Lib.hid hkl
 have HBW3:=Lib.hid (below_next HBW2.out hb3)
 have HO3:=Lib.hid (HO2.out.next hb3)
 replace HKA:=Lib.hid (HKA.out.next hb3)
 replace HKQ:=Lib.hid (HKQ.out.next hb3)
 replace HKR:=Lib.hid (HKR.out.next hb3)
 clear hb3 hkl HO2
 have ca:=fun o=>HKA.out.cell o
 have fa:=fun o=>HKA.out.frozen o
 have za:=HKA.out.lt
 have cq:=fun o=>HKQ.out.cell o
 have fq:=fun o=>HKQ.out.frozen o
 have zq:=HKQ.out.lt
 go_wp2_with fail
 refine (l1Has_any GA gn gc S.tags r.tag _ (HG.out.below HBW3.out) hn3).mono ?_
 rintro e w3 ⟨rfl,hb3⟩
 have HBW4:=Lib.hid (below_next HBW3.out hb3)
 have HO4:=Lib.hid (HO3.out.next hb3)
 have hs3:=hb3.size
 replace HKA:=Lib.hid (HKA.out.next hb3)
 replace HKQ:=Lib.hid (HKQ.out.next hb3)
 replace HKR:=Lib.hid (HKR.out.next hb3)
 replace HKL:=Lib.hid (HKL.out.next hb3)
 clear hb3 ca fa za cq fq zq HO3
 cases h1:hasZ S.tags r.tag
 rotate_left
 ·have HACC:=Lib.hid (show accS S r i y.2=(S,10) by simp [accS,h1])
  clear h1
  have cl:=fun o=>HKL.out.cell o
  have fl:=fun o=>HKL.out.frozen o
  have zl:=HKL.out.lt
  have cr:=fun o=>HKR.out.cell o
  have fr:=fun o=>HKR.out.frozen o
  have zr:=HKR.out.lt
  go_wp2_with fail
  refine bodyPost_ret (v:=.tuple #[svV ⟨A2,n2,c2⟩ ⟨k2a,k2n,k2c⟩ ⟨g2a,g2n,g2c⟩,.int .i64 10]) (by simp [results,Tryz.results94,go_sem,cr]) rfl ?_
  rw [HACC.out]
  refine cnt_ret (q:=w.heap.size+1+1) HO4.out HBW4.out (by omega) (by omega) (by omega) ?_
  iterate 3 (refine Frm.set_ ?_ (by simp) (by simp) _)
  exact Frm.refl _ _ _
 have H1:=Lib.hid h1
 clear h1
 obtain ⟨es,hes⟩:∃ t,(addE y.2.b (r.pl,r.sc)).1=t:=⟨_,rfl⟩
 obtain ⟨cd,hcd⟩:∃ t,(addE y.2.b (r.pl,r.sc)).2=t:=⟨_,rfl⟩
 have hes8:es.length≤8:=by rw [← hes];exact addE_len8 _ _ (Nat.le_trans HB4.out (by decide))
 have HES:=Lib.hid hes
 have HCD:=Lib.hid hcd
 clear hes hcd
 have hnb:=HRY.out.2.2.2
 have hi0':(0:Int)≤i:=by omega
 have hin':(i:Int)<n:=by omega
 go_upto_region 4 with (fail)
 refine wp_region_grow 16 (by kernel_rfl) (by kernel_rfl) (by kernel_rfl) (fun a b=>Below a.heap.size a b) (fun mq w'=>Below w3.heap.size w3 w') (fun iq v w'=>match iq with|0=>(v=.pointer (some ⟨w.heap.size,0,none⟩))|1=>(v=.slice (some ⟨b,off,none⟩) n c)|2=>(v=.int .i64 (i:Int))|3=>(v=.pointer (some ⟨b,off+i * 12,none⟩))|4=>(v=.pointer (some ⟨b,off+i * 12+11,none⟩))|5=>(v=.slice y.1.b.a y.1.b.n y.1.b.c)|6=>(v=.pointer (some ⟨w.heap.size+1,1,none⟩))|7=>(v=.int .i64 r.pl)|8=>(v=.pointer (some ⟨w.heap.size+1,2,none⟩))|9=>(v=.int .i64 r.sc)|10=>(v=.agg #[.int .i64 r.pl,.int .i64 r.sc])|11=>(∃ B c',v=.tuple #[.slice B es.length c',.int .i64 cd]∧OwE w3.heap.size w' B es.length c' es)|12=>(∃ B c',v=.tuple #[.slice B es.length c',.int .i64 cd]∧OwE w3.heap.size w' B es.length c' es)|13=>(∃ B c',v=.slice B es.length c'∧OwE w3.heap.size w' B es.length c' es)|14=>(v=.int .i64 cd)|15=>(∃ B c',v=.slice B es.length c'∧OwE w3.heap.size w' B es.length c' es)|_=>True) (fun sq=>{ tmps:=#[svV ⟨some (⟨b,off,none⟩:Addr),n,c⟩ k ⟨GA,gn,gc⟩,repV r si sh,Value.int .i64 (i:Int),Value.pointer (some (⟨w.heap.size,0,none⟩:Addr)),Value.pointer (some (⟨w.heap.size+1,0,none⟩:Addr)),undef,Value.pointer (some (⟨w.heap.size+1+1,0,none⟩:Addr)),Value.int .i64 0,Value.pointer (some (⟨w2.heap.size,0,none⟩:Addr)),sq 15,undef,Value.agg #[Value.slice (some (⟨b,off,none⟩:Addr)) n c,Value.slice k.a k.n k.c,Value.slice GA gn gc],svV ⟨A2,n2,c2⟩ ⟨k2a,k2n,k2c⟩ ⟨g2a,g2n,g2c⟩,Value.pointer (some (⟨w.heap.size,2,none⟩:Addr)),Value.slice GA gn gc,Value.pointer (some (⟨w.heap.size+1,5,none⟩:Addr)),Value.int .i64 r.tag,Value.bool false,undef,sq 12,sq 0,sq 1,sq 2,sq 3,sq 4,sq 5,sq 6,sq 7,sq 8,sq 9,sq 10,sq 11,sq 13,sq 14,undef,undef,undef,undef,undef,undef,undef,undef,undef,undef,undef,undef,undef,undef,undef,undef,undef,undef,undef,undef,undef,undef,undef,undef,undef,undef,undef,undef],defers:=[] }) (fun _=>undef) ?_ ?_ ?_ ?_
 ·rintro iq v a b hg h
  match iq,h with
  | 0,h=>exact h
  | 1,h=>exact h
  | 2,h=>exact h
  | 3,h=>exact h
  | 4,h=>exact h
  | 5,h=>exact h
  | 6,h=>exact h
  | 7,h=>exact h
  | 8,h=>exact h
  | 9,h=>exact h
  | 10,h=>exact h
  | 11,h=>exact (by obtain ⟨B,c',rfl,ho⟩:=h;exact ⟨B,c',rfl,Ow.next ho hg⟩)
  | 12,h=>exact (by obtain ⟨B,c',rfl,ho⟩:=h;exact ⟨B,c',rfl,Ow.next ho hg⟩)
  | 13,h=>exact (by obtain ⟨B,c',rfl,ho⟩:=h;exact ⟨B,c',rfl,Ow.next ho hg⟩)
  | 14,h=>exact h
  | 15,h=>exact (by obtain ⟨B,c',rfl,ho⟩:=h;exact ⟨B,c',rfl,Ow.next ho hg⟩)
  | (kq+16),_=>exact trivial
 ·exact ⟨rfl,rfl,rfl,Nat.le_refl _,fun _ _=>rfl⟩
 ·intro mq sq w' iq oq hmq hiq hoq hJ hd Kq hK
  have hiq':iq=0∨iq=1∨iq=2∨iq=3∨iq=4∨iq=5∨iq=6∨iq=7∨iq=8∨iq=9∨iq=10∨iq=11∨iq=12∨iq=13∨iq=14∨iq=15:=by omega
  rcases hiq' with rfl|rfl|rfl|rfl|rfl|rfl|rfl|rfl|rfl|rfl|rfl|rfl|rfl|rfl|rfl|rfl
  ·cases (show some _=some oq from hoq)
   have hK':=hK
   simp only [updV,Nat.reduceEqDiff,↓reduceIte] at hK'
   clear hK hd
   generalize sq 0=x0,sq 1=x1,sq 2=x2,sq 3=x3,sq 4=x4,sq 5=x5,sq 6=x6,sq 7=x7,sq 8=x8,sq 9=x9,sq 10=x10,sq 11=x11,sq 12=x12,sq 13=x13,sq 14=x14,sq 15=x15 at *
   go_simp
   exact hK' _ _ (Below.refl _ _) hJ rfl
  ·cases (show some _=some oq from hoq)
   have d0:=hd 0 (by kernel_rfl) (by decide)
   have hK':=hK
   simp only [updV,Nat.reduceEqDiff,↓reduceIte] at hK'
   clear hK hd
   generalize sq 0=x0,sq 1=x1,sq 2=x2,sq 3=x3,sq 4=x4,sq 5=x5,sq 6=x6,sq 7=x7,sq 8=x8,sq 9=x9,sq 10=x10,sq 11=x11,sq 12=x12,sq 13=x13,sq 14=x14,sq 15=x15 at *
   obtain rfl:=d0
   have hcc:=(HKA.out.next hJ).cell 0
   go_simp
   exact hK' _ _ (Below.refl _ _) hJ rfl
  ·cases (show some _=some oq from hoq)
   have hK':=hK
   simp only [updV,Nat.reduceEqDiff,↓reduceIte] at hK'
   clear hK hd
   generalize sq 0=x0,sq 1=x1,sq 2=x2,sq 3=x3,sq 4=x4,sq 5=x5,sq 6=x6,sq 7=x7,sq 8=x8,sq 9=x9,sq 10=x10,sq 11=x11,sq 12=x12,sq 13=x13,sq 14=x14,sq 15=x15 at *
   go_simp
   exact hK' _ _ (Below.refl _ _) hJ rfl
  ·cases (show some _=some oq from hoq)
   have d1:=hd 1 (by kernel_rfl) (by decide)
   have d2:=hd 2 (by kernel_rfl) (by decide)
   have hK':=hK
   simp only [updV,Nat.reduceEqDiff,↓reduceIte] at hK'
   clear hK hd
   generalize sq 0=x0,sq 1=x1,sq 2=x2,sq 3=x3,sq 4=x4,sq 5=x5,sq 6=x6,sq 7=x7,sq 8=x8,sq 9=x9,sq 10=x10,sq 11=x11,sq 12=x12,sq 13=x13,sq 14=x14,sq 15=x15 at *
   obtain rfl:=d1
   obtain rfl:=d2
   go_simp
   exact hK' _ _ (Below.refl _ _) hJ rfl
  ·cases (show some _=some oq from hoq)
   have d3:=hd 3 (by kernel_rfl) (by decide)
   have hK':=hK
   simp only [updV,Nat.reduceEqDiff,↓reduceIte] at hK'
   clear hK hd
   generalize sq 0=x0,sq 1=x1,sq 2=x2,sq 3=x3,sq 4=x4,sq 5=x5,sq 6=x6,sq 7=x7,sq 8=x8,sq 9=x9,sq 10=x10,sq 11=x11,sq 12=x12,sq 13=x13,sq 14=x14,sq 15=x15 at *
   obtain rfl:=d3
   go_simp
   exact hK' _ _ (Below.refl _ _) hJ rfl
  ·cases (show some _=some oq from hoq)
   have d4:=hd 4 (by kernel_rfl) (by decide)
   have hK':=hK
   simp only [updV,Nat.reduceEqDiff,↓reduceIte] at hK'
   clear hK hd
   generalize sq 0=x0,sq 1=x1,sq 2=x2,sq 3=x3,sq 4=x4,sq 5=x5,sq 6=x6,sq 7=x7,sq 8=x8,sq 9=x9,sq 10=x10,sq 11=x11,sq 12=x12,sq 13=x13,sq 14=x14,sq 15=x15 at *
   obtain rfl:=d4
   have hcc:=((bcell (below_next HBW4.out hJ)).1 b _ hb).trans e11
   go_simp
   exact hK' _ _ (Below.refl _ _) hJ rfl
  ·cases (show some _=some oq from hoq)
   have hK':=hK
   simp only [updV,Nat.reduceEqDiff,↓reduceIte] at hK'
   clear hK hd
   generalize sq 0=x0,sq 1=x1,sq 2=x2,sq 3=x3,sq 4=x4,sq 5=x5,sq 6=x6,sq 7=x7,sq 8=x8,sq 9=x9,sq 10=x10,sq 11=x11,sq 12=x12,sq 13=x13,sq 14=x14,sq 15=x15 at *
   go_simp
   exact hK' _ _ (Below.refl _ _) hJ rfl
  ·cases (show some _=some oq from hoq)
   have d6:=hd 6 (by kernel_rfl) (by decide)
   have hK':=hK
   simp only [updV,Nat.reduceEqDiff,↓reduceIte] at hK'
   clear hK hd
   generalize sq 0=x0,sq 1=x1,sq 2=x2,sq 3=x3,sq 4=x4,sq 5=x5,sq 6=x6,sq 7=x7,sq 8=x8,sq 9=x9,sq 10=x10,sq 11=x11,sq 12=x12,sq 13=x13,sq 14=x14,sq 15=x15 at *
   obtain rfl:=d6
   have hcc:=(HKQ.out.next hJ).cell 1
   go_simp
   exact hK' _ _ (Below.refl _ _) hJ rfl
  ·cases (show some _=some oq from hoq)
   have hK':=hK
   simp only [updV,Nat.reduceEqDiff,↓reduceIte] at hK'
   clear hK hd
   generalize sq 0=x0,sq 1=x1,sq 2=x2,sq 3=x3,sq 4=x4,sq 5=x5,sq 6=x6,sq 7=x7,sq 8=x8,sq 9=x9,sq 10=x10,sq 11=x11,sq 12=x12,sq 13=x13,sq 14=x14,sq 15=x15 at *
   go_simp
   exact hK' _ _ (Below.refl _ _) hJ rfl
  ·cases (show some _=some oq from hoq)
   have d8:=hd 8 (by kernel_rfl) (by decide)
   have hK':=hK
   simp only [updV,Nat.reduceEqDiff,↓reduceIte] at hK'
   clear hK hd
   generalize sq 0=x0,sq 1=x1,sq 2=x2,sq 3=x3,sq 4=x4,sq 5=x5,sq 6=x6,sq 7=x7,sq 8=x8,sq 9=x9,sq 10=x10,sq 11=x11,sq 12=x12,sq 13=x13,sq 14=x14,sq 15=x15 at *
   obtain rfl:=d8
   have hcc:=(HKQ.out.next hJ).cell 2
   go_simp
   exact hK' _ _ (Below.refl _ _) hJ rfl
  ·cases (show some _=some oq from hoq)
   have d7:=hd 7 (by kernel_rfl) (by decide)
   have d9:=hd 9 (by kernel_rfl) (by decide)
   have hK':=hK
   simp only [updV,Nat.reduceEqDiff,↓reduceIte] at hK'
   clear hK hd
   generalize sq 0=x0,sq 1=x1,sq 2=x2,sq 3=x3,sq 4=x4,sq 5=x5,sq 6=x6,sq 7=x7,sq 8=x8,sq 9=x9,sq 10=x10,sq 11=x11,sq 12=x12,sq 13=x13,sq 14=x14,sq 15=x15 at *
   obtain rfl:=d7
   obtain rfl:=d9
   go_simp
   exact hK' _ _ (Below.refl _ _) hJ rfl
  ·cases (show some _=some oq from hoq)
   have d5:=hd 5 (by kernel_rfl) (by decide)
   have d10:=hd 10 (by kernel_rfl) (by decide)
   have hK':=hK
   simp only [updV,Nat.reduceEqDiff,↓reduceIte] at hK'
   clear hK hd
   generalize sq 0=x0,sq 1=x1,sq 2=x2,sq 3=x3,sq 4=x4,sq 5=x5,sq 6=x6,sq 7=x7,sq 8=x8,sq 9=x9,sq 10=x10,sq 11=x11,sq 12=x12,sq 13=x13,sq 14=x14,sq 15=x15 at *
   obtain rfl:=d5
   obtain rfl:=d10
   go_simp
   refine (specBoardAdd_any y.1.b.a y.1.b.n y.1.b.c y.2.b (r.pl,r.sc) _ (HRY.out.below (below_next HBW4.out hJ)).2.1 (Nat.le_trans hnb (by decide))).mono ?_
   rintro e w5 ⟨B,c',rfl,ho,hb5⟩
   rw [HES.out] at ho ⊢
   rw [HCD.out]
   exact hK' _ _ hb5 (below_next hJ hb5) ⟨B,c',rfl,Ow.mono ho hJ.size⟩
  ·cases (show some _=some oq from hoq)
   have d11:=hd 11 (by kernel_rfl) (by decide)
   have hK':=hK
   simp only [updV,Nat.reduceEqDiff,↓reduceIte] at hK'
   clear hK hd
   generalize sq 0=x0,sq 1=x1,sq 2=x2,sq 3=x3,sq 4=x4,sq 5=x5,sq 6=x6,sq 7=x7,sq 8=x8,sq 9=x9,sq 10=x10,sq 11=x11,sq 12=x12,sq 13=x13,sq 14=x14,sq 15=x15 at *
   obtain ⟨B,c',rfl,ho⟩:=d11
   go_simp
   exact hK' _ _ (Below.refl _ _) hJ ⟨B,c',rfl,ho⟩
  ·cases (show some _=some oq from hoq)
   have d12:=hd 12 (by kernel_rfl) (by decide)
   have hK':=hK
   simp only [updV,Nat.reduceEqDiff,↓reduceIte] at hK'
   clear hK hd
   generalize sq 0=x0,sq 1=x1,sq 2=x2,sq 3=x3,sq 4=x4,sq 5=x5,sq 6=x6,sq 7=x7,sq 8=x8,sq 9=x9,sq 10=x10,sq 11=x11,sq 12=x12,sq 13=x13,sq 14=x14,sq 15=x15 at *
   obtain ⟨B,c',rfl,ho⟩:=d12
   go_simp
   exact hK' _ _ (Below.refl _ _) hJ ⟨B,c',rfl,ho⟩
  ·cases (show some _=some oq from hoq)
   have d12:=hd 12 (by kernel_rfl) (by decide)
   have hK':=hK
   simp only [updV,Nat.reduceEqDiff,↓reduceIte] at hK'
   clear hK hd
   generalize sq 0=x0,sq 1=x1,sq 2=x2,sq 3=x3,sq 4=x4,sq 5=x5,sq 6=x6,sq 7=x7,sq 8=x8,sq 9=x9,sq 10=x10,sq 11=x11,sq 12=x12,sq 13=x13,sq 14=x14,sq 15=x15 at *
   obtain ⟨B,c',rfl,ho⟩:=d12
   go_simp
   exact hK' _ _ (Below.refl _ _) hJ rfl
  ·cases (show some _=some oq from hoq)
   have d13:=hd 13 (by kernel_rfl) (by decide)
   have hK':=hK
   simp only [updV,Nat.reduceEqDiff,↓reduceIte] at hK'
   clear hK hd
   generalize sq 0=x0,sq 1=x1,sq 2=x2,sq 3=x3,sq 4=x4,sq 5=x5,sq 6=x6,sq 7=x7,sq 8=x8,sq 9=x9,sq 10=x10,sq 11=x11,sq 12=x12,sq 13=x13,sq 14=x14,sq 15=x15 at *
   obtain ⟨B,c',rfl,ho⟩:=d13
   go_simp
   exact hK' _ _ (Below.refl _ _) hJ ⟨B,c',rfl,ho⟩
 ·intro sq w' hJ hφ
  simp only [List.drop_succ_cons,List.drop_zero]
  have d14:=hφ 14 (by decide)
  have d15:=hφ 15 (by decide)
  clear hφ
  generalize sq 0=x0,sq 1=x1,sq 2=x2,sq 3=x3,sq 4=x4,sq 5=x5,sq 6=x6,sq 7=x7,sq 8=x8,sq 9=x9,sq 10=x10,sq 11=x11,sq 12=x12,sq 13=x13,sq 14=x14,sq 15=x15 at *
  obtain rfl:=d14
  obtain ⟨B,bc,rfl,hob⟩:=d15
  have HOB:=Lib.hid hob
  have HBW5:=Lib.hid (below_next HBW4.out hJ)
  have HO5:=Lib.hid (HO4.out.next hJ)
  have hs4:=hJ.size
  have hb3:=hJ
  replace HKA:=Lib.hid (HKA.out.next hb3)
  replace HKQ:=Lib.hid (HKQ.out.next hb3)
  replace HKR:=Lib.hid (HKR.out.next hb3)
  replace HKL:=Lib.hid (HKL.out.next hb3)
  clear hb3 hJ hob HO4
  by_cases q1:cd=1
  ·have HACC:=Lib.hid (show accS S r i y.2=(S,11) by simp [accS,H1.out,HCD.out,q1])
   have q1':(cd == 1)=true:=by simpa using q1
   clear q1
   have cl:=fun o=>HKL.out.cell o
   have fl:=fun o=>HKL.out.frozen o
   have zl:=HKL.out.lt
   have cr:=fun o=>HKR.out.cell o
   have fr:=fun o=>HKR.out.frozen o
   have zr:=HKR.out.lt
   go_wp2_with fail
   refine bodyPost_ret (v:=.tuple #[svV ⟨A2,n2,c2⟩ ⟨k2a,k2n,k2c⟩ ⟨g2a,g2n,g2c⟩,.int .i64 11]) (by simp [results,Tryz.results94,go_sem,cr]) rfl ?_
   rw [HACC.out]
   refine cnt_ret (q:=w.heap.size+1+1) HO5.out HBW5.out (by omega) (by omega) (by omega) ?_
   iterate 3 (refine Frm.set_ ?_ (by simp) (by simp) _)
   exact Frm.refl _ _ _
  have q1':(cd == 1)=false:=by simpa using q1
  have Q1:=Lib.hid q1
  clear q1
  by_cases q2:cd=2
  ·have HACC:=Lib.hid (show accS S r i y.2=(S,12) by simp [accS,H1.out,HCD.out,q2])
   have q2':(cd == 2)=true:=by simpa using q2
   clear q2
   have cl:=fun o=>HKL.out.cell o
   have fl:=fun o=>HKL.out.frozen o
   have zl:=HKL.out.lt
   have cr:=fun o=>HKR.out.cell o
   have fr:=fun o=>HKR.out.frozen o
   have zr:=HKR.out.lt
   go_wp2_with fail
   refine bodyPost_ret (v:=.tuple #[svV ⟨A2,n2,c2⟩ ⟨k2a,k2n,k2c⟩ ⟨g2a,g2n,g2c⟩,.int .i64 12]) (by simp [results,Tryz.results94,go_sem,cr]) rfl ?_
   rw [HACC.out]
   refine cnt_ret (q:=w.heap.size+1+1) HO5.out HBW5.out (by omega) (by omega) (by omega) ?_
   iterate 3 (refine Frm.set_ ?_ (by simp) (by simp) _)
   exact Frm.refl _ _ _
  have q2':(cd == 2)=false:=by simpa using q2
  have Q2:=Lib.hid q2
  clear q2
  have ca:=fun o=>HKA.out.cell o
  have fa:=fun o=>HKA.out.frozen o
  have za:=HKA.out.lt
  by_cases q3:12≤gn
  ·have HACC:=Lib.hid (show accS S r i y.2=(S,13) by simp [accS,H1.out,HCD.out,Q1.out,Q2.out,HGL.out,q3])
   have q3':decide ((12:Int)≤gn)=true:=by simp;omega
   clear q3
   have cl:=fun o=>HKL.out.cell o
   have fl:=fun o=>HKL.out.frozen o
   have zl:=HKL.out.lt
   have cr:=fun o=>HKR.out.cell o
   have fr:=fun o=>HKR.out.frozen o
   have zr:=HKR.out.lt
   go_wp2_with fail
   refine bodyPost_ret (v:=.tuple #[svV ⟨A2,n2,c2⟩ ⟨k2a,k2n,k2c⟩ ⟨g2a,g2n,g2c⟩,.int .i64 13]) (by simp [results,Tryz.results94,go_sem,cr]) rfl ?_
   rw [HACC.out]
   refine cnt_ret (q:=w.heap.size+1+1) HO5.out HBW5.out (by omega) (by omega) (by omega) ?_
   iterate 3 (refine Frm.set_ ?_ (by simp) (by simp) _)
   exact Frm.refl _ _ _
  have HACC:=Lib.hid (show accS S r i y.2=(⟨S.ts.set i ⟨y.2.l,es⟩,S.keys,S.tags ++ [r.tag]⟩,0) by simp [accS,H1.out,HCD.out,HES.out,Q1.out,Q2.out,HGL.out,q3])
  have q3':decide ((12:Int)≤gn)=false:=by simp;omega
  clear q3
  obtain ⟨gt,cur,v11,rfl,hgt1,hgt2,hbk,hc11,hin2⟩:=HO5.out.cell11 HTR.out
  have hgne:w.heap.size+1+1≠gt:=by omega
  have hgne1:w.heap.size+1≠gt:=by omega
  have hgne2:w2.heap.size≠gt:=Blk.ne_ HKL.out hbk (by decide)
  have hin2':(i:Int)<n2:=by omega
  have cl:=fun o=>HKL.out.cell o
  have fl:=fun o=>HKL.out.frozen o
  have zl:=HKL.out.lt
  have fbk:=fun o=>hbk.frozen o
  have zbk:=hbk.lt
  go_upto_region 12 with (fail)
  refine into_world (fun Y=>Below w.heap.size w Y∧Y.heap.size=w'.heap.size∧Blk Y (w.heap.size+1) 35 (repC r si sh)∧Blk Y (w.heap.size+1+1) 42 #[.slice none 0 0,.slice none 0 0,.slice none 0 0]∧Blk Y w2.heap.size 42 #[.slice (some ⟨gt,0,none⟩) n2 c2,.slice k2a k2n k2c,.slice g2a g2n g2c]∧OwS W.heap.size w'.heap.size Y ⟨some ⟨gt,0,none⟩,n2,c2⟩ ⟨k2a,k2n,k2c⟩ ⟨g2a,g2n,g2c⟩ ⟨S.ts.set i ⟨y.2.l,es⟩,S.keys,S.tags⟩) ⟨HBW5.out.setCell (by simp;omega) _,by simp [World.setCell],HKQ.out.far (p:=⟨gt,i * 12+11,none⟩) hgne1 _,HKR.out.far (p:=⟨gt,i * 12+11,none⟩) hgne _,HKL.out.far (p:=⟨gt,i * 12+11,none⟩) hgne2 _,?_⟩ ?_
  ·exact HO5.out.newBoard (s:=⟨B,es.length,bc⟩) HTR.out ((OwI.of HOB.out).mono (by omega) (Nat.le_refl _)) hs2 (by omega) (by show es.length≤_;omega)
  rintro Y ⟨hbY,hzY,hqY,hrY,hlY,hoY⟩
  have hog:Ow W.heap.size Y 3 1 g2a g2n g2c (cellsI S.tags):=hoY.2.2.1.ow
  have hgl2:g2n=gn:=by
   have h1:=hog.len
   have h2:=HGL.out
   simp only [List.length_map,Nat.mul_one] at h1
   omega
  subst hgl2
  have HZY:=Lib.hid hzY
  have HBY':=Lib.hid hbY
  have HQY:=Lib.hid hqY
  have HRY':=Lib.hid hrY
  have HLY:=Lib.hid hlY
  have HOY:=Lib.hid hoY
  have HOG:=Lib.hid hog
  clear hzY hbY hqY hrY hlY hoY hog hc11 fbk zbk cl fl zl ca fa za
  have cl:=fun o=>HLY.out.cell o
  have fl:=fun o=>HLY.out.frozen o
  have zl:=HLY.out.lt
  have cq:=fun o=>HQY.out.cell o
  have fq:=fun o=>HQY.out.frozen o
  have zq:=HQY.out.lt
  go_wp2_with (at_builtin;refine wpList_append_ow _ rfl (.tmp 55) (.tmp 58) _ rfl W.heap.size 3 i0 _ 1 8 Tryz.underlying33 HI.out HZ.out HS.out HBY.out rfl (by omega) _ g2n g2c (cellsI S.tags) rfl (HOG.out.alloc _) _ 1 1 (cellsI [r.tag]) rfl (Src.blk (Blk.new _ _ _) rfl) (cellsI_one _) (by unfold maxLen;omega) (by omega) (by simp;omega) ?_;intro A3 c3 w6 hown6 hg6 hn6;have HL6:=Lib.hid (blk_apart (HLY.out.alloc _) (HOG.out.alloc _) (by decide) hg6);have HOW6:=Lib.hid hown6;have HG6:=Lib.hid hg6;have HN6:=Lib.hid hn6;have HR6:=Lib.hid (blk_apart (HRY'.out.alloc _) (HOG.out.alloc _) (by decide) hg6);have ml:=fun o=>HL6.out.cell o;have nl:=fun o=>HL6.out.frozen o;have pl:=HL6.out.lt;have cr:=fun o=>HR6.out.cell o;have fr:=fun o=>HR6.out.frozen o;have zr:=HR6.out.lt;clear hown6 hg6 hn6 cl fl zl cq fq zq)
  refine bodyPost_ret (v:=.tuple #[svV ⟨some ⟨gt,0,none⟩,n2,c2⟩ ⟨k2a,k2n,k2c⟩ ⟨A3,g2n+1,c3⟩,.int .i64 0]) (by simp [results,Tryz.results94,go_sem,cr]) rfl ?_
  rw [HACC.out]
  have hzY:=HZY.out
  have hY6:Below w.heap.size w w6:=(HOG.out.alloc _).grown HG6.out (HBY'.out.alloc HBY'.out.size _) (by omega) (by simp;omega)
  have hsz6:Y.heap.size+1≤w6.heap.size:=by have:=HG6.out.size;simpa using this
  have hos6:OwS W.heap.size w6.heap.size w6 ⟨some ⟨gt,0,none⟩,n2,c2⟩ ⟨k2a,k2n,k2c⟩ ⟨A3,g2n+1,c3⟩ ⟨S.ts.set i ⟨y.2.l,es⟩,S.keys,S.tags ++ [r.tag]⟩:=by
   refine OwS.addTag (HOY.out.next (ba (Below.refl _ _))) (by show Ow _ _ _ _ _ _ _ (List.map (Value.int .i64) (S.tags ++ [r.tag]));rw [List.map_append];exact HOW6.out) HG6.out (fun b hb hc=>?_) (fun b hb hc=>(HOW6.out.lt hb hc).2) (by omega) (by omega)
   rcases HN6.out b hb hc with h|h
   ·exact .inl h
   ·exact .inr (by rw [h];simp;omega)
  have hos7:=hos6.onlyT HL6.out (by decide) (by decide) (by decide) (by decide) (Only.set_ (p:=⟨w2.heap.size,2,none⟩) (Only.refl _ w6) (.inl rfl) (.slice A3 (g2n+1) c3))
  refine cnt_ret (q:=w.heap.size+1+1) hos7 (hY6.setCell (by simp;omega) _) (by omega) (by omega) (by simp [World.setCell]) ?_
  iterate 3 (refine Frm.set_ ?_ (by simp) (by simp) _)
  exact Frm.refl _ _ _
end Go.Proofs.YtkgfmgajhgfgjaaGreatDoor
namespace Go.Proofs.YtkgfmgajhgfgjaaGreatDoor
open Go.RowKit Go.Sort
noncomputable def subS (S:Svc) (s:ByteArray):Svc × Int :=
 if validS S then
  if (decW s).2 then
   if (verS S (decW s).1).1=0 then
    match S.ts[(verS S (decW s).1).2.toNat]? with
    | some tr=>accS S (decW s).1 (verS S (decW s).1).2.toNat tr
    | none=>(S,0)
   else (S,(verS S (decW s).1).1)
  else (S,1)
 else (⟨[],[],[]⟩,-1)
theorem ver_found {S:Svc} {r:Rep} (h:(verS S r).1=0):∃ (i:Nat) (tr:Trk),(verS S r).2=i∧S.ts[i]?=some tr:=by
 unfold verS at h ⊢
 split at h
 ·cases h
 ·rename_i i hi
  split at h
  ·cases h
  ·rename_i t ht
   exact ⟨i,t,rfl,ht⟩
set_option maxRecDepth 100000 in
set_option maxHeartbeats 8000000 in
theorem specServiceSubmit_any (t k g:Sl) (S:Svc) (s:ByteArray) (w:World) (hr:RdS w t k g S) (hs:s.size≤1048576) :
  Calls Tryz.prog 31 #[svV t k g,.string s] w (CntPost w.heap.size (subS S s) w):=by
 have HRS:=Lib.hid hr
 clear hr
 go_enter Tryz.func31,Tryz.ntmps31
 go_upto_region 1 with (fail)
 refine into_world (fun W=>Below w.heap.size w W∧W.heap.size=w.heap.size+2∧Blk W w.heap.size 42 #[.slice t.a t.n t.c,.slice k.a k.n k.c,.slice g.a g.n g.c]∧Blk W (w.heap.size+1) 42 #[.slice none 0 0,.slice none 0 0,.slice none 0 0]) ⟨by go_grown,by simp,(Blk.new _ _ _).alloc _,Blk.newAt _ _ _ _ (by simp)⟩ ?_
 rintro W ⟨hbw,hwz,hka,hkr⟩
 have HB:=Lib.hid hbw
 have HKA:=Lib.hid hka
 have HKR:=Lib.hid hkr
 clear hbw hka hkr
 have ca:=fun o=>HKA.out.cell o
 have fa:=fun o=>HKA.out.frozen o
 have za:=HKA.out.lt
 go_wp2_with fail
 refine (specServiceValid_any _ _ _ S _ (HRS.out.below HB.out)).mono ?_
 rintro e w1 ⟨rfl,hb⟩
 have hs1:=hb.size
 replace HKA:=Lib.hid (HKA.out.next hb)
 replace HKR:=Lib.hid (HKR.out.next hb)
 replace HB:=Lib.hid (below_next HB.out hb)
 clear hb ca fa za
 cases hv:validS S
 ·have HACC:=Lib.hid (show subS S s=(⟨[],[],[]⟩,-1) by simp [subS,hv])
  clear hv
  have cr:=fun o=>HKR.out.cell o
  have fr:=fun o=>HKR.out.frozen o
  have zr:=HKR.out.lt
  go_wp2_with fail
  refine bodyPost_ret (v:=.tuple #[svV ⟨none,0,0⟩ ⟨none,0,0⟩ ⟨none,0,0⟩,.int .i64 (-1)]) (by simp [results,Tryz.results31,go_sem,cr]) rfl ?_
  rw [HACC.out]
  refine ⟨⟨none,0,0⟩,⟨none,0,0⟩,⟨none,0,0⟩,rfl,OwS.bare _ _ _ _ _ _,?_⟩
  iterate 3 (refine Below.setCell ?_ (by simp) _)
  exact HB.out
 have HV:=Lib.hid hv
 clear hv
 go_wp2_with fail
 refine (specReplayDecode_any s _ hs).mono ?_
 obtain ⟨r,ok,hdec⟩:∃ r ok,decW s=(r,ok):=⟨_,_,rfl⟩
 have HDEC:=Lib.hid hdec
 rw [hdec]
 clear hdec
 rintro e w2 ⟨si,sh,rfl,horep,hb⟩
 have HOR:=Lib.hid horep
 have hs2:=hb.size
 replace HKA:=Lib.hid (HKA.out.next hb)
 replace HKR:=Lib.hid (HKR.out.next hb)
 replace HB:=Lib.hid (below_next HB.out hb)
 clear hb horep
 obtain ⟨sia,sin,sic⟩:=si
 obtain ⟨sha,shn,shc⟩:=sh
 go_upto_region 4 with (fail)
 refine into_world (fun Y=>Below w2.heap.size w2 Y∧Y.heap.size=w2.heap.size+1∧Blk Y w2.heap.size 35 (repC r ⟨sia,sin,sic⟩ ⟨sha,shn,shc⟩)) ⟨by go_grown,by simp,Blk.new _ _ _⟩ ?_
 rintro Y ⟨hb,hzY,hkq⟩
 have HKQ:=Lib.hid hkq
 replace HKA:=Lib.hid (HKA.out.next hb)
 replace HKR:=Lib.hid (HKR.out.next hb)
 have HORY:=Lib.hid (HOR.out.next hb)
 replace HB:=Lib.hid (below_next HB.out hb)
 clear hb hkq HOR
 have ca:=fun o=>HKA.out.cell o
 have fa:=fun o=>HKA.out.frozen o
 have za:=HKA.out.lt
 cases ok
 ·have HACC:=Lib.hid (show subS S s=(S,1) by simp [subS,HV.out,HDEC.out])
  go_wp2_with fail
  refine (l41Copy_any _ _ _ S _ (HRS.out.below HB.out)).mono ?_
  rintro e w9 ⟨t2,k2,g2,rfl,ho2,hb⟩
  replace HKR:=Lib.hid (HKR.out.next hb)
  have hs9:=HB.out.size
  replace HB:=Lib.hid (below_next HB.out hb)
  clear hb ca fa za
  have cr:=fun o=>HKR.out.cell o
  have fr:=fun o=>HKR.out.frozen o
  have zr:=HKR.out.lt
  go_wp2_with fail
  refine bodyPost_ret (v:=.tuple #[svV t2 k2 g2,.int .i64 1]) (by simp [results,Tryz.results31,go_sem,cr]) rfl ?_
  rw [HACC.out]
  refine cnt_ret (q:=w.heap.size+1) ho2 HB.out (by omega) (by omega) (Nat.le_refl _) ?_
  iterate 3 (refine Frm.set_ ?_ (by simp) (by simp) _)
  exact Frm.refl _ _ _
 have HOK:=Lib.hid (show repOk r=true by have:=decW_ok (s:=s) (by rw [HDEC.out]);rwa [HDEC.out] at this)
 have cq:=fun o=>HKQ.out.cell o
 have fq:=fun o=>HKQ.out.frozen o
 have zq:=HKQ.out.lt
 go_wp2_with fail
 refine (l41Verdict_any _ _ _ S r ⟨sia,sin,sic⟩ ⟨sha,shn,shc⟩ _ (HRS.out.below HB.out) HORY.out.rd HV.out HOK.out).mono ?_
 obtain ⟨vd,kk,hver⟩:∃ a b,verS S r=(a,b):=⟨_,_,rfl⟩
 have HVER:=Lib.hid hver
 rw [hver]
 clear hver
 rintro e w4 ⟨rfl,hb⟩
 have hs4:=hb.size
 replace HKA:=Lib.hid (HKA.out.next hb)
 replace HKR:=Lib.hid (HKR.out.next hb)
 replace HKQ:=Lib.hid (HKQ.out.next hb)
 have HOR4:=Lib.hid (HORY.out.next hb)
 replace HB:=Lib.hid (below_next HB.out hb)
 clear hb ca fa za cq fq zq HORY
 have ca:=fun o=>HKA.out.cell o
 have fa:=fun o=>HKA.out.frozen o
 have za:=HKA.out.lt
 have cq:=fun o=>HKQ.out.cell o
 have fq:=fun o=>HKQ.out.frozen o
 have zq:=HKQ.out.lt
 by_cases h0:vd=0
 rotate_left
 ·have HACC:=Lib.hid (show subS S s=(S,vd) by simp [subS,HV.out,HDEC.out,HVER.out,h0])
  have h0':(vd == 0)=false:=by simpa using h0
  have h0n:(vd != 0)=true:=by simpa using h0
  clear h0
  go_wp2_with fail
  refine (l41Copy_any _ _ _ S _ (HRS.out.below HB.out)).mono ?_
  rintro e w9 ⟨t2,k2,g2,rfl,ho2,hb⟩
  replace HKR:=Lib.hid (HKR.out.next hb)
  have hs9:=HB.out.size
  replace HB:=Lib.hid (below_next HB.out hb)
  clear hb ca fa za
  have cr:=fun o=>HKR.out.cell o
  have fr:=fun o=>HKR.out.frozen o
  have zr:=HKR.out.lt
  go_wp2_with fail
  refine bodyPost_ret (v:=.tuple #[svV t2 k2 g2,.int .i64 vd]) (by simp [results,Tryz.results31,go_sem,cr]) rfl ?_
  rw [HACC.out]
  refine cnt_ret (q:=w.heap.size+1) ho2 HB.out (by omega) (by omega) (Nat.le_refl _) ?_
  iterate 3 (refine Frm.set_ ?_ (by simp) (by simp) _)
  exact Frm.refl _ _ _
 subst h0
 obtain ⟨i,tr,hki,htr⟩:=ver_found (S:=S) (r:=r) (by rw [HVER.out])
 rw [HVER.out] at hki
 simp only at hki
 subst hki
 have HTR:=Lib.hid htr
 have HACC:=Lib.hid (show subS S s=accS S r i tr by simp [subS,HV.out,HDEC.out,HVER.out,htr])
 clear htr
 go_wp2_with fail
 refine (l41Accept_any _ _ _ S r ⟨sia,sin,sic⟩ ⟨sha,shn,shc⟩ i tr _ (HRS.out.below HB.out) HOR4.out.rd HV.out HOK.out HTR.out).mono ?_
 obtain ⟨S',v',hacc⟩:∃ a b,accS S r i tr=(a,b):=⟨_,_,rfl⟩
 have HAC2:=Lib.hid (show subS S s=(S',v') by rw [HACC.out,hacc])
 rw [hacc]
 clear hacc HACC
 rintro e w9 ⟨t2,k2,g2,rfl,ho2,hb⟩
 replace HKR:=Lib.hid (HKR.out.next hb)
 have hs9:=HB.out.size
 replace HB:=Lib.hid (below_next HB.out hb)
 clear hb ca fa za cq fq zq
 have cr:=fun o=>HKR.out.cell o
 have fr:=fun o=>HKR.out.frozen o
 have zr:=HKR.out.lt
 go_wp2_with fail
 refine bodyPost_ret (v:=.tuple #[svV t2 k2 g2,.int .i64 v']) (by simp [results,Tryz.results31,go_sem,cr]) rfl ?_
 rw [HAC2.out]
 refine cnt_ret (q:=w.heap.size+1) ho2 HB.out (by omega) (by omega) (Nat.le_refl _) ?_
 iterate 3 (refine Frm.set_ ?_ (by simp) (by simp) _)
 exact Frm.refl _ _ _
end Go.Proofs.YtkgfmgajhgfgjaaGreatDoor
namespace Go.Proofs.YtkgfmgajhgfgjaaGreatDoor
open Go.RowKit Go.Sort
def placeOf (ts:List Trk) (id:Int):Nat:=(ts.takeWhile fun t=>decide (t.l.id<id)).length
def levelS (S:Svc) (l:Lvl):Svc × Bool :=
 if validS S && levelOk l then (if (S.ts.findIdx? (hasId l.id)).isSome || decide (4≤S.ts.length) then (S,false)
  else (⟨S.ts.take (placeOf S.ts l.id) ++ ⟨l,[]⟩ :: S.ts.drop (placeOf S.ts l.id),S.keys,S.tags⟩,true)) else (⟨[],[],[]⟩,false)
theorem levelS_bad {S:Svc} {l:Lvl} (h:(validS S && levelOk l)=false):levelS S l=(⟨[],[],[]⟩,false):=by simp [levelS,h]
theorem levelS_known {S:Svc} {l:Lvl} {i:Nat} (h1:validS S=true) (h2:levelOk l=true) (h:S.ts.findIdx? (hasId l.id)=some i):levelS S l=(S,false):=by simp [levelS,h1,h2,h]
theorem levelS_full {S:Svc} {l:Lvl} (h1:validS S=true) (h2:levelOk l=true) (h:4≤S.ts.length):levelS S l=(S,false):=by simp [levelS,h1,h2,h]
theorem levelS_done {S:Svc} {l:Lvl} {i:Nat} (h1:validS S=true) (h2:levelOk l=true) (h:S.ts.findIdx? (hasId l.id)=none) (h4:S.ts.length<4) (hp:placeOf S.ts l.id=i):levelS S l=(⟨S.ts.take i ++ ⟨l,[]⟩ :: S.ts.drop i,S.keys,S.tags⟩,true):=by
 have h5:¬ 4≤S.ts.length:=by omega
 simp [levelS,h1,h2,h,hp,h5]
theorem place_at:∀ (ts:List Trk) (id:Int) (i:Nat),i≤ts.length→(∀ j t,j<i→ts[j]?=some t→t.l.id<id)→(∀ t,ts[i]?=some t→¬ t.l.id<id)→placeOf ts id=i
 | [],_,i,hi,_,_=>by simp at hi;subst hi;rfl
 |t :: ts,id,0,_,_,h2=>by
  have:=h2 t rfl
  simp [placeOf,this]
 |t :: ts,id,i+1,hi,h1,h2=>by
  have h:=h1 0 t (Nat.succ_pos _) rfl
  have:=place_at ts id i (by simpa using hi) (fun j u hj hu=>h1 (j+1) u (by omega) (by simpa using hu)) (fun u hu=>h2 u (by simpa using hu))
  unfold placeOf at this ⊢
  rw [List.takeWhile_cons,if_pos (by simpa using h),List.length_cons,this]
theorem level_id {l:Lvl} (h:levelOk l=true):0≤l.id∧l.id≤99:=by
 unfold levelOk at h
 simp only [Bool.and_eq_true] at h
 have h2:=h.1.1.1.1.1.1.1.1.1
 simpa [inR] using h2
theorem perm_nodup {A B Y:List Nat} (h:((A ++ B) ++ Y).Nodup):(A ++ (Y ++ B)).Nodup:=by
 rw [List.append_assoc] at h
 exact (List.Perm.append_left A List.perm_append_comm).nodup_iff.1 h
theorem OwTs.insert {lo m hi n c c' k:Nat} {A A':Option Addr} {w w':World} {xs:List Row} {y:Row} (hT:OwTs lo m w ⟨A,n,c⟩ xs) (hy:OwT m hi w y) (hnd:(blkOf y.1.w ++ blkOf y.1.g).Nodup) (hlm:lo≤m) (hmh:m≤hi) (hw:hi≤w'.heap.size) (hA:0<c'→∀ g,A'.map (·.block)=some g→g<w'.heap.size)
  (hO:Ow lo w' 65 12 A' (n+1) c' ((cellsT xs).take (k * 12) ++ encT y ++ (cellsT xs).drop (k * 12))) (hg:w.grownBy w' (ownB A c)) (hn:n<1048576):OwTs lo w'.heap.size w' ⟨A',n+1,c'⟩ (xs.take k ++ y :: xs.drop k):=by
 have r1:OwR lo m w' xs:=hT.rows.apart hT.1.ow hg
 have r2:OwR m hi w' [y]:=OwR.apart ⟨fun z hz=>by
  obtain rfl:z=y:=List.mem_singleton.1 hz
  exact hy,by rw [boxBlks_one];exact hnd,by rw [entBlks_one];exact blkOf_nodup _⟩ hT.1.ow hg
 have r:=(r1.app r2 hlm hmh).mono (lo':=lo) (Nat.le_refl _) hw
 have hb:=r.box
 have he:=r.ent
 rw [← List.take_append_drop k xs,boxBlks_append,boxBlks_append] at hb
 rw [← List.take_append_drop k xs,entBlks_append,entBlks_append] at he
 refine OwTs.mk_ ⟨?_,hA⟩ ⟨fun z hz=>?_,?_,?_⟩ (by show n+1≤1048576;omega)
 ·show Ow lo _ _ 12 _ _ _ (cellsX encT (xs.take k ++ y :: xs.drop k))
  rw [cellsX_append,cellsX_cons,← List.append_assoc,← cellsX_take encT_len,← cellsX_drop encT_len]
  exact hO
 ·refine r.own z ?_
  rcases List.mem_append.1 hz with hz|hz
  ·exact List.mem_append_left _ (List.mem_of_mem_take hz)
  ·rcases List.mem_cons.1 hz with rfl|hz
   ·simp
   ·exact List.mem_append_left _ (List.mem_of_mem_drop hz)
 ·rw [show y :: xs.drop k=[y] ++ xs.drop k from rfl,boxBlks_append,boxBlks_append]
  exact perm_nodup hb
 ·rw [show y :: xs.drop k=[y] ++ xs.drop k from rfl,entBlks_append,entBlks_append]
  exact perm_nodup he
end Go.Proofs.YtkgfmgajhgfgjaaGreatDoor
namespace Go.Proofs.YtkgfmgajhgfgjaaGreatDoor
open Go.RowKit Go.Sort
structure Kp (q r:Nat) (a b:World):Prop where
 size:a.heap.size≤b.heap.size
 block:∀ i,i<a.heap.size→i≠q→i≠r→i≠r+1→b.heap[i]?=a.heap[i]?
section
variable {q r:Nat} {a b c:World}
theorem Kp.refl (q r:Nat) (a:World):Kp q r a a:=⟨Nat.le_refl _,fun _ _ _ _ _=>rfl⟩
theorem Kp.trans (h:Kp q r a b) (k:Kp q r b c):Kp q r a c:=⟨Nat.le_trans h.size k.size,fun i hi h1 h2 h3=>(k.block i (Nat.lt_of_lt_of_le hi h.size) h1 h2 h3).trans (h.block i hi h1 h2 h3)⟩
theorem Kp.of_only (h:Only q a b) (r:Nat):Kp q r a b:=⟨h.size,fun i hi h1 _ _=>h.block i hi (by intro e;injection e with e;exact h1 e)⟩
theorem Kp.of_only2 (h:Only r a b) (q:Nat):Kp q r a b:=⟨h.size,fun i hi _ h1 _=>h.block i hi (by intro e;injection e with e;exact h1 e)⟩
end
def DS (q r:Nat) (w:World) (t k g:Sl) (S:Svc):Prop:=∀ X,Kp q r w X→RdS X t k g S
section
variable {q r lo hi:Nat} {w w':World} {t k g:Sl} {S:Svc}
theorem DS.rd (h:DS q r w t k g S):RdS w t k g S:=h w (Kp.refl _ _ _)
theorem DS.step (h:DS q r w t k g S) (ho:Kp q r w w'):DS q r w' t k g S:=fun X hX=>h X (ho.trans hX)
theorem DS.only (h:DS q r w t k g S) (ho:Only q w w'):DS q r w' t k g S:=h.step (Kp.of_only ho r)
theorem OwS.keepB (h:OwS lo hi w t k g S) (hk:∀ i,lo≤i→i<w.heap.size→w'.heap[i]?=w.heap[i]?):OwS lo hi w' t k g S:=by
 obtain ⟨⟨xs,e1,r1,r2,r3,r4,r5⟩,e3,e4,e5⟩:=h
 have key:∀ {T sz n c:Nat} {A:Option Addr} {vs:List Value},OwI lo hi w T sz A n c vs→OwI lo hi w' T sz A n c vs:=fun h=>h.keep fun x hx hc=>hk x (h.lt hx hc).1 (h.lt hx hc).2.2
 exact ⟨⟨xs,e1,key r1,fun x hx=>by
  obtain ⟨⟨q1,q2,q3⟩,q4,q5⟩:=r2 x hx
  exact ⟨⟨key q1,key q2,q3⟩,key q4,q5⟩,r3,r4,r5⟩,key e3,key e4,e5⟩
theorem OwS.only (h:OwS lo hi w t k g S) (ho:Only q w w') (hq:q<lo):OwS lo hi w' t k g S:=h.frm (Frm.of_only ho (Nat.le_refl q) (Nat.lt_succ_self q)) (.inr hq)
theorem DS.of (h:OwS lo hi w t k g S) (hq:q<lo) (hr:r+1<lo):DS q r w t k g S:=fun _ hX=>(h.keepB fun i h1 h2=>hX.block i h2 (by omega) (by omega) (by omega)).rd
theorem Ow.apartT {B B' T T' sz sz' n n' c c':Nat} {A A':Option Addr} {vs vs':List Value} (h:Ow B w T sz A n c vs) (k:Ow B' w T' sz' A' n' c' vs') (hne:T≠T') (hg:w.grownBy w' (ownB A' c')):Ow B w' T sz A n c vs :=
 (OwI.apart (OwI.of h) k hne hg).1
theorem OwS.apart {B T' sz n c:Nat} {A:Option Addr} {vs:List Value} (h:OwS lo hi w t k g S) (b:Ow B w T' sz A n c vs) (h1:27≠T') (h2:55≠T') (h3:65≠T') (h4:3≠T') (hg:w.grownBy w' (ownB A c)):OwS lo hi w' t k g S:=by
 obtain ⟨⟨xs,e1,r1,r2,r3,r4,r5⟩,e3,e4,e5⟩:=h
 exact ⟨⟨xs,e1,OwI.apart r1 b h3 hg,fun x hx=>by
  obtain ⟨⟨q1,q2,q3⟩,q4,q5⟩:=r2 x hx
  exact ⟨⟨OwI.apart q1 b h1 hg,OwI.apart q2 b h1 hg,q3⟩,OwI.apart q4 b h2 hg,q5⟩,r3,r4,r5⟩,OwI.apart e3 b h4 hg,OwI.apart e4 b h4 hg,e5⟩
end
abbrev LvR:=Lvl × Sl × Sl
def encV (x:LvR):List Value:=(lvlC x.1 x.2.1 x.2.2).toList
theorem encV_len (x:LvR):(encV x).length=11:=rfl
theorem encV_one:∀ x,∀ u ∈ encV x,u.oneCell'=true:=by
 intro x u hu
 simp [encV] at hu
 rcases hu with rfl|rfl|rfl|rfl|rfl|rfl|rfl|rfl|rfl|rfl|rfl <;> rfl
abbrev cellsV:List LvR→List Value:=cellsX encV
theorem infoV:(Tryz.prog.info? 29).map (fun i=>(i.zero,i.size,i.bytes))=some (some (.agg #[.int .i64 0,.int .i64 0,.int .i64 0,.int .i64 0,.slice none 0 0,.slice none 0 0,.int .i64 0,.int .i64 0,.int .i64 0,.int .i64 0,.int .i64 0]),11,120):=by kernel_rfl
def OwV (B:Nat) (w:World) (A:Option Addr) (n c:Nat) (xs:List LvR):Prop:=Ow B w 29 11 A n c (cellsV xs)∧∀ x ∈ xs,OwLv B w x.1 x.2.1 x.2.2
section
variable {B q n c:Nat} {w w':World} {A:Option Addr} {xs:List LvR} {l:Lvl} {ws gs:Sl}
theorem OwLv.apart {B' T' sz:Nat} {vs:List Value} (h:OwLv B w l ws gs) (b:Ow B' w T' sz A n c vs) (hne:27≠T') (hg:w.grownBy w' (ownB A c)):OwLv B w' l ws gs :=
 ⟨Ow.apartT h.wl b hne hg,Ow.apartT h.gt b hne hg,h.wn,h.gn,h.dj⟩
theorem OwV.next (h:OwV B w A n c xs) (hb:Below w.heap.size w w'):OwV B w' A n c xs:=⟨h.1.next hb,fun x hx=>(h.2 x hx).next hb⟩
theorem OwV.only (h:OwV B w A n c xs) (ho:Only q w w') (hq:q<B):OwV B w' A n c xs:=⟨h.1.onlyG ho hq,fun x hx=>(h.2 x hx).only ho hq⟩
theorem OwV.onlyT {o T':Nat} {cs:Array Value} (h:OwV B w A n c xs) (k:Blk w o T' cs) (h1:27≠T') (h2:29≠T') (ho:Only o w w'):OwV B w' A n c xs:=⟨h.1.onlyT k h2 ho,fun x hx=>(h.2 x hx).onlyT k h1 ho⟩
theorem OwV.nil (B:Nat) (w:World) (A:Option Addr):OwV B w A 0 0 []:=⟨Ow.bare _ _ _ _ _,fun x hx=>by cases hx⟩
theorem OwV.push {A':Option Addr} {n' c':Nat} {x:LvR} (h:OwV B w A n c xs) (hx:OwLv B w x.1 x.2.1 x.2.2) (ho:Ow B w' 29 11 A' n' c' (cellsV xs ++ cellsV [x])) (hg:w.grownBy w' (ownB A c)):OwV B w' A' n' c' (xs ++ [x]):=by
 refine ⟨by show Ow _ _ _ _ _ _ _ (cellsX encV (xs ++ [x]));rw [cellsX_append];exact ho,fun y hy=>?_⟩
 rcases List.mem_append.1 hy with hy|hy
 ·exact (h.2 y hy).apart h.1 (by decide) hg
 ·rw [List.mem_singleton.1 hy]
  exact hx.apart h.1 (by decide) hg
theorem OwV.at_ (h:OwV B w A n c xs) {k:Nat} (hk:k<n):∃ (b:Nat) (x:LvR),A=some ⟨b,0,none⟩∧b<w.heap.size∧OwLv B w x.1 x.2.1 x.2.2∧w.rangeAt b (k * 11) (lvlC x.1 x.2.1 x.2.2).toList:=by
 obtain ⟨b,off,x,hA,hb,hx,hc⟩:=(h.1.rd encV_len (by omega)).at_ hk
 obtain ⟨g,_,hg,_⟩:=h.1.blk (Nat.lt_of_lt_of_le (show 0<n by omega) h.1.le)
 rw [hA] at hg
 injection hg with hg
 injection hg with hg1 hg2
 subst hg1
 subst hg2
 refine ⟨b,x,hA,hb,h.2 x (List.mem_of_getElem? hx),fun j v hv=>?_⟩
 have:=hc j v hv
 rwa [Nat.zero_add] at this
end
def idsOk (S:Svc):Prop:=S.ts.length≤4∧S.tags.length≤12∧∀ t ∈ S.ts,0≤t.l.id∧t.l.id≤99
theorem idsOk_nil {ks:List Int}:idsOk ⟨[],ks,[]⟩:=⟨by simp,by simp,fun t ht=>by cases ht⟩
theorem idsOk_new (zs:List Int):idsOk (newS zs).1:=by unfold newS;split <;> exact idsOk_nil
theorem idsOk_level {S:Svc} (h:idsOk S) (l:Lvl):idsOk (levelS S l).1:=by
 unfold levelS
 split
 ·rename_i hv
  simp only [Bool.and_eq_true] at hv
  split
  ·exact h
  ·rename_i hn
   simp only [Bool.or_eq_true,decide_eq_true_eq,not_or] at hn
   refine ⟨?_,h.2.1,fun t ht=>?_⟩
   ·simp only [List.length_append,List.length_cons,List.length_take,List.length_drop]
    omega
   simp only [List.mem_append,List.mem_cons] at ht
   rcases ht with ht|rfl|ht
   ·exact h.2.2 t (List.mem_of_mem_take ht)
   ·exact level_id hv.2
   ·exact h.2.2 t (List.mem_of_mem_drop ht)
 ·exact idsOk_nil
theorem idsOk_acc {S:Svc} (h:idsOk S) (r:Rep) (i:Nat) (tr:Trk) (ht:S.ts[i]?=some tr):idsOk (accS S r i tr).1:=by
 have key:∀ es:List Ent,∀ t ∈ S.ts.set i ⟨tr.l,es⟩,0≤t.l.id∧t.l.id≤99:=fun es t hm=>by
  rcases List.mem_or_eq_of_mem_set hm with hm|rfl
  ·exact h.2.2 t hm
  ·exact h.2.2 tr (List.mem_of_getElem? ht)
 unfold accS
 repeat' split
 all_goals first|exact h|exact ⟨by simpa using h.1,by simp;omega,key _⟩
theorem idsOk_sub {S:Svc} (h:idsOk S) (s:ByteArray):idsOk (subS S s).1:=by
 unfold subS
 repeat' split
 all_goals first|exact h|exact idsOk_nil|exact idsOk_acc h _ _ _ (by assumption)
theorem partStep_len (ps:List Ent) (k:Int):(partStep ps k).length≤ps.length+1:=by
 unfold partStep
 split <;> (try split) <;> simp
theorem partsW_len (xs:List Inp):(partsW xs).length≤xs.length:=by
 have:∀ (ys:List Inp) (ps:List Ent),(ys.foldl (fun ps x=>partStep ps (codeW x)) ps).length≤ps.length+ys.length:=by
  intro ys
  induction ys with
  | nil=>intro ps;simp
  | cons y r ih =>
   intro ps
   have h1:=ih (partStep ps (codeW y))
   have h2:=partStep_len ps (codeW y)
   simp only [List.foldl_cons,List.length_cons]
   omega
 have:=this xs []
 simpa [partsW] using this
theorem textW_small (r:Rep):(textW r).size≤2000:=by
 unfold textW
 split
 ·rename_i h
  obtain ⟨⟨a1,a2⟩,⟨b1,b2⟩,⟨c1,c2⟩,⟨d1,d2⟩,h5,h6,h7,h8⟩:=repOk_facts h
  have hp:=parts_bd r.ins h6 (by omega)
  have hpl:(partsW r.ins).length≤r.ins.length:=partsW_len r.ins
  have f1:(numsW [r.lv,r.pl,r.sc]).size≤8 * 3:=numsW_size (by intro z hz;simp at hz;omega)
  have f2:(numsW (flatP (partsW r.ins))).size≤8 * (flatP (partsW r.ins)).length:=numsW_size (by
   intro z hz
   simp only [flatP,List.mem_flatMap] at hz
   obtain ⟨e,he,hz⟩:=hz
   have:=hp e he
   simp at hz
   omega)
  rw [flatP_len] at f2
  have f3:(numsW r.hs).size≤8 * r.hs.length:=numsW_size (fun z hz=>by have:=h5 z hz;omega)
  have f4:(numsW [r.tag]).size≤8 * 1:=numsW_size (by intro z hz;simp at hz;omega)
  have e0:sReplay.size=6:=rfl
  have e1:sInputs.size=7:=rfl
  have e2:sHashes.size=7:=rfl
  have e3:sTag.size=4:=rfl
  have e4:sEnd.size=1:=rfl
  simp only [encW,ByteArray.size_append]
  omega
 ·simp
end Go.Proofs.YtkgfmgajhgfgjaaGreatDoor

/-
  Lemmas and contracts: YEa YEb YBa YDe YDb YEc YEd YEe YEf. No condition.
-/
import Derived.Laws.BytesArg
import Derived.Test.YtpcjdalgebgofaaGreatDoorKa12
import Derived.Test.YtpcjdalgebgofaaGreatDoorKa13
import Derived.Test.YtpcjdalgebgofaaGreatDoorKa15
import Derived.Test.YtpcjdalgebgofaaGreatDoorKa16
set_option linter.unusedSimpArgs false
set_option linter.unusedVariables false
set_option linter.unusedSectionVars false
namespace Go.Proofs.YtpcjdalgebgofaaGreatDoorY
open Go.RowKit Go.Sort
def rep0:Rep:=⟨0,0,0,[],[],0⟩
def makeOk (l:Lvl) (p key:Int) (xs:List Inp):Bool:=okW l xs && inR p 0 9 && inR key 1 9999
noncomputable def makeR (l:Lvl) (p:Int) (xs:List Inp) (tag:Int):Rep:=⟨l.id,p,max (scoreW l xs) 0,xs,hashesW l xs,tag⟩
noncomputable def makeW (l:Lvl) (p key:Int) (xs:List Inp):Rep × Bool :=
 if makeOk l p key xs then (makeR l p xs (tagW key (listW (makeR l p xs 0))),true) else (rep0,false)
def OwRep (w:World) (r:Rep) (si sh:Sl):Prop:=Ow 0 w 74 3 si.a si.n si.c (cellsN r.ins)∧Ow 0 w 3 1 sh.a sh.n sh.c (cellsI r.hs)∧si.n≤1048576∧sh.n≤1048576
theorem OwRep.rd {w:World} {r:Rep} {si sh:Sl} (h:OwRep w r si sh):RdR w r si sh:=⟨Ow.rd encIn_len (by decide) h.1,h.2.1.rdI,⟨h.1.le,h.2.2.1⟩,h.2.1.le,h.2.2.2⟩
theorem OwRep.next {w w':World} {r:Rep} {si sh:Sl} (h:OwRep w r si sh) (hb:Below w.heap.size w w'):OwRep w' r si sh:=⟨Ow.next h.1 hb,Ow.next h.2.1 hb,h.2.2⟩
def RepPost (B:Nat) (r:Rep × Bool) (w:World) (e:Ending) (w':World):Prop :=
 ∃ si sh:Sl,e=.returned (.tuple #[repV r.1 si sh,.bool r.2])∧OwRep w' r.1 si sh∧Below B w w'
theorem rdR_zero (w:World):OwRep w rep0 ⟨none,0,0⟩ ⟨none,0,0⟩:=⟨Ow.bare _ _ _ _ _,Ow.bare _ _ _ _ _,by simp,by simp⟩
theorem Blk.all6 {w:World} {g T:Nat} {a0 a1 a2 a3 a4 a5:Value} (h:Blk w g T #[a0,a1,a2,a3,a4,a5]) (v0 v1 v2 v3 v4 v5:Value) :
  Blk ((((((w.setCell ⟨g,0,none⟩ v0).setCell ⟨g,1,none⟩ v1).setCell ⟨g,2,none⟩ v2).setCell ⟨g,3,none⟩ v3).setCell ⟨g,4,none⟩ v4).setCell ⟨g,5,none⟩ v5) g T #[v0,v1,v2,v3,v4,v5]:=by
 have h1:Blk (w.setCell ⟨g,0,none⟩ v0) g T #[v0,a1,a2,a3,a4,a5]:=h.set_ 0 v0
 have h2:Blk ((w.setCell ⟨g,0,none⟩ v0).setCell ⟨g,1,none⟩ v1) g T #[v0,v1,a2,a3,a4,a5]:=h1.set_ 1 v1
 have h3:Blk (((w.setCell ⟨g,0,none⟩ v0).setCell ⟨g,1,none⟩ v1).setCell ⟨g,2,none⟩ v2) g T #[v0,v1,v2,a3,a4,a5]:=h2.set_ 2 v2
 have h4:Blk ((((w.setCell ⟨g,0,none⟩ v0).setCell ⟨g,1,none⟩ v1).setCell ⟨g,2,none⟩ v2).setCell ⟨g,3,none⟩ v3) g T #[v0,v1,v2,v3,a4,a5]:=h3.set_ 3 v3
 have h5:Blk (((((w.setCell ⟨g,0,none⟩ v0).setCell ⟨g,1,none⟩ v1).setCell ⟨g,2,none⟩ v2).setCell ⟨g,3,none⟩ v3).setCell ⟨g,4,none⟩ v4) g T #[v0,v1,v2,v3,v4,a5]:=h4.set_ 4 v4
 exact h5.set_ 5 v5
theorem Ow.onlyT {B T T' sz n c o:Nat} {A:Option Addr} {w W:World} {cs:Array Value} {vs:List Value} (h:Ow B w T sz A n c vs) (k:Blk w o T' cs) (hne:T≠T') (ho:Only o w W):Ow B W T sz A n c vs :=
 h.keep fun g hg hc=>by
  obtain ⟨g',cur,hA,_,hb,_⟩:=h.blk hc
  rw [hA] at hg
  have e:g'=g:=by simpa using hg
  subst e
  exact ho.block _ hb.lt (by
   intro e
   injection e with e
   exact (Blk.ne_ hb k hne) e)
set_option maxRecDepth 100000 in
set_option maxHeartbeats 4000000 in
theorem specReplayMake_any (l:Lvl) (ws gs:Sl) (p key:Int) (A:Option Addr) (n c:Nat) (xs:List Inp) (w:World) (hl:RdL w l ws gs) (hr:RdN w A n xs) (hn:n≤1048576) (_hc:n≤c) :
  Calls Qy.prog 60 #[lvlV l ws gs,.int .i64 p,.int .i64 key,.slice A n c] w (RepPost w.heap.size (makeW l p key xs) w):=by
 have HL:=Lib.hid hl
 have HN:=Lib.hid hr
 clear hl hr
 go_enter Qy.func60,Tryz.ntmps60
 go_wp2_with fail
 refine (l21Ok_any l ws gs A n c xs _ (HL.out.below (ba (ba (Below.refl _ _)))) (HN.out.below (ba (ba (Below.refl _ _)))) hn).mono ?_
 rintro e w1 ⟨rfl,hb⟩
 have KL:=Lib.hid (((Blk.new w 29 (lvlC l ws gs)).alloc _).next hb)
 have KR:=Lib.hid ((Blk.newAt _ 33 (repC rep0 ⟨none,0,0⟩ ⟨none,0,0⟩) (w.heap.size+1) (by simp)).next hb)
 have HB:=Lib.hid (ba (ba hb))
 have HKZ:=Lib.hid (show w.heap.size+1<w1.heap.size by have:=hb.size;simp at this;omega)
 clear hb
 cases h1:okW l xs
 ·have HF:=Lib.hid (show makeW l p key xs=(rep0,false) by simp [makeW,makeOk,h1])
  have cr:=fun o=>KR.out.cell o
  have fr:=fun o=>KR.out.frozen o
  have zr:=KR.out.lt
  go_wp2_with fail
  refine bodyPost_ret (v:=.tuple #[repV rep0 ⟨none,0,0⟩ ⟨none,0,0⟩,.bool false]) (by simp [results,Tryz.results60,go_sem,cr,rep0]) rfl ?_
  unfold RepPost
  rw [HF.out]
  exact ⟨_,_,rfl,rdR_zero _,by have hb:=HB.out;go_grown⟩
 ·have H1:=Lib.hid h1
  clear h1
  go_wp2_with fail
  refine (l6In_any _ _ _ _).mono ?_
  rintro e w' ⟨rfl,rfl⟩
  cases h2:inR p 0 9
  ·have HF:=Lib.hid (show makeW l p key xs=(rep0,false) by simp [makeW,makeOk,h2])
   have cr:=fun o=>KR.out.cell o
   have fr:=fun o=>KR.out.frozen o
   have zr:=KR.out.lt
   go_wp2_with fail
   refine bodyPost_ret (v:=.tuple #[repV rep0 ⟨none,0,0⟩ ⟨none,0,0⟩,.bool false]) (by simp [results,Tryz.results60,go_sem,cr,rep0]) rfl ?_
   unfold RepPost
   rw [HF.out]
   exact ⟨_,_,rfl,rdR_zero _,by have hb:=HB.out;go_grown⟩
  ·have H2:=Lib.hid h2
   clear h2
   go_wp2_with fail
   refine (l6In_any _ _ _ _).mono ?_
   rintro e w' ⟨rfl,rfl⟩
   cases h3:inR key 1 9999
   ·have HF:=Lib.hid (show makeW l p key xs=(rep0,false) by simp [makeW,makeOk,h3])
    have cr:=fun o=>KR.out.cell o
    have fr:=fun o=>KR.out.frozen o
    have zr:=KR.out.lt
    go_wp2_with fail
    refine bodyPost_ret (v:=.tuple #[repV rep0 ⟨none,0,0⟩ ⟨none,0,0⟩,.bool false]) (by simp [results,Tryz.results60,go_sem,cr,rep0]) rfl ?_
    unfold RepPost
    rw [HF.out]
    exact ⟨_,_,rfl,rdR_zero _,by have hb:=HB.out;go_grown⟩
   ·have HF:=Lib.hid (show makeW l p key xs=(makeR l p xs (tagW key (listW (makeR l p xs 0))),true) by simp [makeW,makeOk,H1.out,H2.out,h3])
    clear h3
    have HOKX:=Lib.hid (okW_ins H1.out)
    go_upto_region 3 with (fail)
    have hcl:=fun o=>KL.out.cell o
    have HLW:=Lib.hid (HL.out.below HB.out)
    have HNW:=Lib.hid (HN.out.below HB.out)
    obtain ⟨i0,hi0,hz0,hz1,hz2⟩:=info_parts infoN
    have HI:=Lib.hid hi0
    have HZ:=Lib.hid hz0
    have HS:=Lib.hid hz1
    have HBY:=Lib.hid hz2
    clear hi0 hz0 hz1 hz2
    obtain ⟨h,hh⟩:∃ h,(hashesW l xs).length=h:=⟨_,rfl⟩
    have HHL:=Lib.hid hh
    have hhb:h≤1048576:=by
     rw [← hh]
     unfold hashesW
     split
     ·simp;have:=HN.out.len;omega
     ·simp
    clear hh
    have hmx:(if scoreW l xs<0 then (0:Int) else scoreW l xs)=max (scoreW l xs) 0:=by
     rw [Int.max_def]
     split <;> split <;> omega
    refine wp_region_grow 15 (by kernel_rfl) (by kernel_rfl) (by kernel_rfl) (fun a b=>Below a.heap.size a b) (fun mq w'=>Below w1.heap.size w1 w') (fun iq v w'=>match iq with|0=>(v=.pointer (some ⟨w.heap.size,0,none⟩))|1=>(v=.int .i64 l.id)|2=>(v=.int .i64 p)|3=>(v=lvlV l ws gs)|4=>(v=.slice A n c)|5=>(v=.int .i64 (scoreW l xs))|6=>(v=.int .i64 (max (scoreW l xs) 0))|7=>(∃ B,v=.slice B 0 0)|8=>(v=.slice A n c)|9=>(∃ B c',v=.slice B n c'∧Ow 0 w' 74 3 B n c' (cellsN xs))|10=>(v=lvlV l ws gs)|11=>(v=.slice A n c)|12=>(∃ B c',v=.slice B h c'∧Ow 0 w' 3 1 B h c' (cellsI (hashesW l xs)))|13=>(∃ B c' B' c'',v=.agg #[.int .i64 l.id,.int .i64 p,.int .i64 (max (scoreW l xs) 0),.slice B n c',.slice B' h c'',.int .i64 0]∧Ow 0 w' 74 3 B n c' (cellsN xs)∧Ow 0 w' 3 1 B' h c'' (cellsI (hashesW l xs)))|14=>(∃ o,v=.pointer (some ⟨o,0,none⟩)∧w1.heap.size≤o∧Blk w' o 33 (repC rep0 ⟨none,0,0⟩ ⟨none,0,0⟩))|_=>True) (fun sq=>{ tmps:=#[lvlV l ws gs,Value.int .i64 p,Value.int .i64 key,Value.slice A n c,Value.pointer (some (⟨w.heap.size,0,none⟩:Addr)),undef,undef,undef,Value.pointer (some (⟨w.heap.size+1,0,none⟩:Addr)),Value.bool false,sq 14,Value.agg #[Value.int .i64 l.id,Value.int .i64 l.ticks,Value.int .i64 l.sx,Value.int .i64 l.sy,Value.slice ws.a ws.n ws.c,Value.slice gs.a gs.n gs.c,Value.int .i64 l.f.1,Value.int .i64 l.f.2.1,Value.int .i64 l.f.2.2.1,Value.int .i64 l.f.2.2.2,Value.int .i64 l.bans],Value.slice A n c,Value.bool true,Value.bool false,Value.bool false,Value.int .i64 p,Value.bool true,Value.bool false,Value.bool false,Value.bool false,Value.int .i64 key,Value.bool true,Value.bool false,Value.bool false,undef,sq 0,sq 1,sq 2,sq 3,sq 4,sq 5,sq 6,sq 7,sq 8,sq 9,sq 10,sq 11,sq 12,sq 13,undef,undef,undef,undef,undef,undef],defers:=[] }) (fun _=>undef) ?_ ?_ ?_ ?_
    ·rintro iq v a b hg h
     match iq,h with
     | 0,h=>exact h
     | 1,h=>exact h
     | 2,h=>exact h
     | 3,h=>exact h
     | 4,h=>exact h
     | 5,h=>exact h
     | 6,h=>exact h
     | 7,h=>exact h
     | 8,h=>exact h
     | 9,h=>exact (by obtain ⟨B,c',rfl,ho⟩:=h;exact ⟨B,c',rfl,Ow.next ho hg⟩)
     | 10,h=>exact h
     | 11,h=>exact h
     | 12,h=>exact (by obtain ⟨B,c',rfl,ho⟩:=h;exact ⟨B,c',rfl,Ow.next ho hg⟩)
     | 13,h=>exact (by obtain ⟨B,c',B',c'',rfl,ho,ho'⟩:=h;exact ⟨B,c',B',c'',rfl,Ow.next ho hg,Ow.next ho' hg⟩)
     | 14,h=>exact (by obtain ⟨o,rfl,h1,h2⟩:=h;exact ⟨o,rfl,h1,h2.next hg⟩)
     | (kq+15),_=>exact trivial
    ·exact ⟨rfl,rfl,rfl,Nat.le_refl _,fun _ _=>rfl⟩
    ·intro mq sq w' iq oq hmq hiq hoq hJ hd Kq hK
     have hiq':iq=0∨iq=1∨iq=2∨iq=3∨iq=4∨iq=5∨iq=6∨iq=7∨iq=8∨iq=9∨iq=10∨iq=11∨iq=12∨iq=13∨iq=14:=by omega
     rcases hiq' with rfl|rfl|rfl|rfl|rfl|rfl|rfl|rfl|rfl|rfl|rfl|rfl|rfl|rfl|rfl
     ·cases (show some _=some oq from hoq)
      have hK':=hK
      simp only [updV,Nat.reduceEqDiff,↓reduceIte] at hK'
      clear hK hd
      generalize sq 0=x0,sq 1=x1,sq 2=x2,sq 3=x3,sq 4=x4,sq 5=x5,sq 6=x6,sq 7=x7,sq 8=x8,sq 9=x9,sq 10=x10,sq 11=x11,sq 12=x12,sq 13=x13,sq 14=x14 at *
      go_simp
      exact hK' _ _ (Below.refl _ _) hJ rfl
     ·cases (show some _=some oq from hoq)
      have d0:=hd 0 (by kernel_rfl) (by decide)
      have hK':=hK
      simp only [updV,Nat.reduceEqDiff,↓reduceIte] at hK'
      clear hK hd
      generalize sq 0=x0,sq 1=x1,sq 2=x2,sq 3=x3,sq 4=x4,sq 5=x5,sq 6=x6,sq 7=x7,sq 8=x8,sq 9=x9,sq 10=x10,sq 11=x11,sq 12=x12,sq 13=x13,sq 14=x14 at *
      obtain rfl:=d0
      have cl:=(KL.out.next hJ).cell 0
      go_simp
      exact hK' _ _ (Below.refl _ _) hJ rfl
     ·cases (show some _=some oq from hoq)
      have hK':=hK
      simp only [updV,Nat.reduceEqDiff,↓reduceIte] at hK'
      clear hK hd
      generalize sq 0=x0,sq 1=x1,sq 2=x2,sq 3=x3,sq 4=x4,sq 5=x5,sq 6=x6,sq 7=x7,sq 8=x8,sq 9=x9,sq 10=x10,sq 11=x11,sq 12=x12,sq 13=x13,sq 14=x14 at *
      go_simp
      exact hK' _ _ (Below.refl _ _) hJ rfl
     ·cases (show some _=some oq from hoq)
      have hK':=hK
      simp only [updV,Nat.reduceEqDiff,↓reduceIte] at hK'
      clear hK hd
      generalize sq 0=x0,sq 1=x1,sq 2=x2,sq 3=x3,sq 4=x4,sq 5=x5,sq 6=x6,sq 7=x7,sq 8=x8,sq 9=x9,sq 10=x10,sq 11=x11,sq 12=x12,sq 13=x13,sq 14=x14 at *
      have cl:=fun o=>(KL.out.next hJ).cell o
      go_simp
      exact hK' _ _ (Below.refl _ _) hJ rfl
     ·cases (show some _=some oq from hoq)
      have hK':=hK
      simp only [updV,Nat.reduceEqDiff,↓reduceIte] at hK'
      clear hK hd
      generalize sq 0=x0,sq 1=x1,sq 2=x2,sq 3=x3,sq 4=x4,sq 5=x5,sq 6=x6,sq 7=x7,sq 8=x8,sq 9=x9,sq 10=x10,sq 11=x11,sq 12=x12,sq 13=x13,sq 14=x14 at *
      go_simp
      exact hK' _ _ (Below.refl _ _) hJ rfl
     ·cases (show some _=some oq from hoq)
      have d3:=hd 3 (by kernel_rfl) (by decide)
      have d4:=hd 4 (by kernel_rfl) (by decide)
      have hK':=hK
      simp only [updV,Nat.reduceEqDiff,↓reduceIte] at hK'
      clear hK hd
      generalize sq 0=x0,sq 1=x1,sq 2=x2,sq 3=x3,sq 4=x4,sq 5=x5,sq 6=x6,sq 7=x7,sq 8=x8,sq 9=x9,sq 10=x10,sq 11=x11,sq 12=x12,sq 13=x13,sq 14=x14 at *
      obtain rfl:=d3
      obtain rfl:=d4
      go_simp
      refine (specRunScore_any l ws gs A n c xs _ (HLW.out.below hJ) (HNW.out.below hJ) hn).mono ?_
      rintro e w2 ⟨rfl,hb⟩
      exact hK' _ _ hb (below_next hJ hb) rfl
     ·cases (show some _=some oq from hoq)
      have d5:=hd 5 (by kernel_rfl) (by decide)
      have hK':=hK
      simp only [updV,Nat.reduceEqDiff,↓reduceIte] at hK'
      clear hK hd
      generalize sq 0=x0,sq 1=x1,sq 2=x2,sq 3=x3,sq 4=x4,sq 5=x5,sq 6=x6,sq 7=x7,sq 8=x8,sq 9=x9,sq 10=x10,sq 11=x11,sq 12=x12,sq 13=x13,sq 14=x14 at *
      obtain rfl:=d5
      go_simp
      exact hK' _ _ (Below.refl _ _) hJ rfl
     ·cases (show some _=some oq from hoq)
      have hK':=hK
      simp only [updV,Nat.reduceEqDiff,↓reduceIte] at hK'
      clear hK hd
      generalize sq 0=x0,sq 1=x1,sq 2=x2,sq 3=x3,sq 4=x4,sq 5=x5,sq 6=x6,sq 7=x7,sq 8=x8,sq 9=x9,sq 10=x10,sq 11=x11,sq 12=x12,sq 13=x13,sq 14=x14 at *
      go_simp
      exact hK' _ _ (ba (Below.refl _ _)) (hJ.alloc hJ.size _) ⟨_,rfl⟩
     ·cases (show some _=some oq from hoq)
      have hK':=hK
      simp only [updV,Nat.reduceEqDiff,↓reduceIte] at hK'
      clear hK hd
      generalize sq 0=x0,sq 1=x1,sq 2=x2,sq 3=x3,sq 4=x4,sq 5=x5,sq 6=x6,sq 7=x7,sq 8=x8,sq 9=x9,sq 10=x10,sq 11=x11,sq 12=x12,sq 13=x13,sq 14=x14 at *
      go_simp
      exact hK' _ _ (Below.refl _ _) hJ rfl
     ·cases (show some _=some oq from hoq)
      have d7:=hd 7 (by kernel_rfl) (by decide)
      have d8:=hd 8 (by kernel_rfl) (by decide)
      have hK':=hK
      simp only [updV,Nat.reduceEqDiff,↓reduceIte] at hK'
      clear hK hd
      generalize sq 0=x0,sq 1=x1,sq 2=x2,sq 3=x3,sq 4=x4,sq 5=x5,sq 6=x6,sq 7=x7,sq 8=x8,sq 9=x9,sq 10=x10,sq 11=x11,sq 12=x12,sq 13=x13,sq 14=x14 at *
      obtain ⟨B,rfl⟩:=d7
      obtain rfl:=d8
      refine step_append_ow _ rfl (.tmp 33) (.tmp 34) _ rfl w'.heap.size 74 i0 _ 3 24 (Qy.un Tryz.underlying30) HI.out HZ.out HS.out HBY.out rfl (by omega) _ 0 0 [] rfl (Ow.bare _ _ _ _ _) _ n c (cellsN xs) rfl (Src.rd encIn_len (HNW.out.below hJ)) (cellsX_oneCell encIn_one xs) (by unfold maxLen;omega) (by omega) (Nat.le_refl _) ?_
      intro A2 c2 w3 hO hg _
      have hb3:=(Ow.bare w'.heap.size _ 74 3 _).grown hg (Below.refl _ _) (Nat.le_refl _) (Nat.le_refl _)
      rw [Nat.zero_add] at hO ⊢
      rw [List.nil_append] at hO
      exact hK' _ _ hb3 (below_next hJ hb3) ⟨_,_,rfl,Ow.mono hO (Nat.zero_le _)⟩
     ·cases (show some _=some oq from hoq)
      have hK':=hK
      simp only [updV,Nat.reduceEqDiff,↓reduceIte] at hK'
      clear hK hd
      generalize sq 0=x0,sq 1=x1,sq 2=x2,sq 3=x3,sq 4=x4,sq 5=x5,sq 6=x6,sq 7=x7,sq 8=x8,sq 9=x9,sq 10=x10,sq 11=x11,sq 12=x12,sq 13=x13,sq 14=x14 at *
      have cl:=fun o=>(KL.out.next hJ).cell o
      go_simp
      exact hK' _ _ (Below.refl _ _) hJ rfl
     ·cases (show some _=some oq from hoq)
      have hK':=hK
      simp only [updV,Nat.reduceEqDiff,↓reduceIte] at hK'
      clear hK hd
      generalize sq 0=x0,sq 1=x1,sq 2=x2,sq 3=x3,sq 4=x4,sq 5=x5,sq 6=x6,sq 7=x7,sq 8=x8,sq 9=x9,sq 10=x10,sq 11=x11,sq 12=x12,sq 13=x13,sq 14=x14 at *
      go_simp
      exact hK' _ _ (Below.refl _ _) hJ rfl
     ·cases (show some _=some oq from hoq)
      have d10:=hd 10 (by kernel_rfl) (by decide)
      have d11:=hd 11 (by kernel_rfl) (by decide)
      have hK':=hK
      simp only [updV,Nat.reduceEqDiff,↓reduceIte] at hK'
      clear hK hd
      generalize sq 0=x0,sq 1=x1,sq 2=x2,sq 3=x3,sq 4=x4,sq 5=x5,sq 6=x6,sq 7=x7,sq 8=x8,sq 9=x9,sq 10=x10,sq 11=x11,sq 12=x12,sq 13=x13,sq 14=x14 at *
      obtain rfl:=d10
      obtain rfl:=d11
      go_simp
      refine (specRunHashes_any l ws gs A n c xs _ (HLW.out.below hJ) (HNW.out.below hJ) hn).mono ?_
      rintro e w2 ⟨B,c',rfl,ho,hb⟩
      rw [HHL.out] at ho ⊢
      exact hK' _ _ hb (below_next hJ hb) ⟨_,_,rfl,Ow.mono ho (Nat.zero_le _)⟩
     ·cases (show some _=some oq from hoq)
      have d1:=hd 1 (by kernel_rfl) (by decide)
      have d2:=hd 2 (by kernel_rfl) (by decide)
      have d6:=hd 6 (by kernel_rfl) (by decide)
      have d9:=hd 9 (by kernel_rfl) (by decide)
      have d12:=hd 12 (by kernel_rfl) (by decide)
      have hK':=hK
      simp only [updV,Nat.reduceEqDiff,↓reduceIte] at hK'
      clear hK hd
      generalize sq 0=x0,sq 1=x1,sq 2=x2,sq 3=x3,sq 4=x4,sq 5=x5,sq 6=x6,sq 7=x7,sq 8=x8,sq 9=x9,sq 10=x10,sq 11=x11,sq 12=x12,sq 13=x13,sq 14=x14 at *
      obtain rfl:=d1
      obtain rfl:=d2
      obtain rfl:=d6
      obtain ⟨B,c',rfl,ho⟩:=d9
      obtain ⟨B',c'',rfl,ho'⟩:=d12
      go_simp
      exact hK' _ _ (Below.refl _ _) hJ ⟨B,c',B',c'',rfl,ho,ho'⟩
     ·cases (show some _=some oq from hoq)
      have hK':=hK
      simp only [updV,Nat.reduceEqDiff,↓reduceIte] at hK'
      clear hK hd
      generalize sq 0=x0,sq 1=x1,sq 2=x2,sq 3=x3,sq 4=x4,sq 5=x5,sq 6=x6,sq 7=x7,sq 8=x8,sq 9=x9,sq 10=x10,sq 11=x11,sq 12=x12,sq 13=x13,sq 14=x14 at *
      go_simp
      exact hK' _ _ (ba (Below.refl _ _)) (hJ.alloc hJ.size _) ⟨_,rfl,hJ.size,Blk.new _ _ _⟩
    ·intro sq w' hJ hφ
     simp only [List.drop_succ_cons,List.drop_zero]
     have d13:=hφ 13 (by decide)
     have d14:=hφ 14 (by decide)
     clear hφ
     generalize sq 0=x0,sq 1=x1,sq 2=x2,sq 3=x3,sq 4=x4,sq 5=x5,sq 6=x6,sq 7=x7,sq 8=x8,sq 9=x9,sq 10=x10,sq 11=x11,sq 12=x12,sq 13=x13,sq 14=x14 at *
     obtain ⟨B,c',B',c'',rfl,hO1,hO2⟩:=d13
     obtain ⟨o,rfl,ho1,hbo⟩:=d14
     obtain ⟨sc,hsc⟩:∃ sc,max (scoreW l xs) 0=sc:=⟨_,rfl⟩
     rw [hsc]
     have HSC:=Lib.hid hsc
     clear hmx hsc
     have HO1:=Lib.hid hO1
     have HO2:=Lib.hid hO2
     have KO:=Lib.hid hbo
     have hcc1:=hO1.le
     have hcc2:=hO2.le
     replace KR:=Lib.hid (KR.out.next hJ)
     have hzo:=KR.out.lt
     have hw1z:=HB.out.size
     have hw1k:w.heap.size+1<o:=by
      have h1:w.heap.size+1<w1.heap.size:=HKZ.out
      omega
     replace HB:=Lib.hid (below_next HB.out hJ)
     clear hO1 hO2 hbo hJ hcl
     have co:=fun o=>KO.out.cell o
     have fo:=fun o=>KO.out.frozen o
     have zo:=KO.out.lt
     go_upto_region 4 with (fail)
     refine into_world (fun W=>Only o w' W∧Blk W o 33 (repC (makeR l p xs 0) ⟨B,n,c'⟩ ⟨B',h,c''⟩)) ⟨?_,?_⟩ ?_
     ·exact (((((((Only.refl o w').set_ (p:=⟨o,0,none⟩) (.inl rfl) _).set_ (p:=⟨o,1,none⟩) (.inl rfl) _).set_ (p:=⟨o,2,none⟩) (.inl rfl) _).set_ (p:=⟨o,3,none⟩) (.inl rfl) _).set_ (p:=⟨o,4,none⟩) (.inl rfl) _).set_ (p:=⟨o,5,none⟩) (.inl rfl) _)
     ·have:=Blk.all6 KO.out (.int .i64 l.id) (.int .i64 p) (.int .i64 sc) (.slice B n c') (.slice B' h c'') (.int .i64 0)
      rw [← HSC.out] at this ⊢
      exact this
     rintro W ⟨ho,hko⟩
     replace HO1:=Lib.hid (HO1.out.onlyT KO.out (by decide) ho)
     replace HO2:=Lib.hid (HO2.out.onlyT KO.out (by decide) ho)
     replace KR:=Lib.hid (KR.out.only ho (by omega))
     replace HB:=Lib.hid (HB.out.trans (ho.below (by omega) HB.out.size))
     replace KO:=Lib.hid hko
     clear co fo zo ho hko
     have co:=fun o=>KO.out.cell o
     have fo:=fun o=>KO.out.frozen o
     have zo:=KO.out.lt
     go_wp2_with fail
     refine (l23List_any (makeR l p xs 0) ⟨B,n,c'⟩ ⟨B',h,c''⟩ _ ⟨Ow.rd encIn_len (by decide) HO1.out,HO2.out.rdI,⟨hcc1,hn⟩,hcc2,hhb⟩).mono ?_
     rintro e w2 ⟨A2,c2,rfl,hO,hb⟩
     replace KO:=Lib.hid (KO.out.next hb)
     replace KR:=Lib.hid (KR.out.next hb)
     replace HO1:=Lib.hid (HO1.out.next hb)
     replace HO2:=Lib.hid (HO2.out.next hb)
     replace HB:=Lib.hid (below_next HB.out hb)
     have HLI:=Lib.hid hO
     have hll:(listW (makeR l p xs 0)).length≤1099511627776:=by
      have e1:(makeR l p xs 0).ins.length=n:=HN.out.len
      have e2:(makeR l p xs 0).hs.length=h:=HHL.out
      simp only [listW,List.length_append,List.length_map,e1,e2,List.length_cons,List.length_nil]
      omega
     have HLL:=Lib.hid hll
     clear hO hb co fo zo hll
     go_wp2_with fail
     refine (l4Tag_any key A2 _ c2 (listW (makeR l p xs 0)) _ HLI.out.rdI HLL.out).mono ?_
     rintro e w3 ⟨rfl,rfl⟩
     obtain ⟨tg,htg⟩:∃ t,tagW key (listW (makeR l p xs 0))=t:=⟨_,rfl⟩
     rw [htg]
     have HTG:=Lib.hid htg
     clear htg
     have co:=fun o=>KO.out.cell o
     have fo:=fun o=>KO.out.frozen o
     have zo:=KO.out.lt
     have cr:=fun o=>KR.out.cell o
     have fr:=fun o=>KR.out.frozen o
     have zr:=KR.out.lt
     go_wp2_with fail
     refine bodyPost_ret (v:=.tuple #[repV (makeR l p xs tg) ⟨B,n,c'⟩ ⟨B',h,c''⟩,.bool true]) (by simp [results,Tryz.results60,go_sem,cr,makeR]) rfl ?_
     unfold RepPost
     rw [HF.out,HTG.out]
     have q1:Only o w3 (w3.setCell ⟨o,5,none⟩ (.int .i64 tg)):=(Only.refl o w3).set_ (p:=⟨o,5,none⟩) (.inl rfl) _
     have kr1:=KR.out.only q1 (by omega)
     have q2:=fun v0 v1 v2 v3 v4 v5=>(((((((Only.refl (w.heap.size+1) (w3.setCell ⟨o,5,none⟩ (.int .i64 tg))).set_ (p:=⟨w.heap.size+1,0,none⟩) (.inl rfl) v0).set_ (p:=⟨w.heap.size+1,1,none⟩) (.inl rfl) v1).set_ (p:=⟨w.heap.size+1,2,none⟩) (.inl rfl) v2).set_ (p:=⟨w.heap.size+1,3,none⟩) (.inl rfl) v3).set_ (p:=⟨w.heap.size+1,4,none⟩) (.inl rfl) v4).set_ (p:=⟨w.heap.size+1,5,none⟩) (.inl rfl) v5)
     have hb1:=HB.out.trans (q1.below (show w.heap.size≤o by omega) HB.out.size)
     refine ⟨⟨B,n,c'⟩,⟨B',h,c''⟩,rfl,⟨(HO1.out.onlyT KO.out (by decide) q1).onlyT kr1 (by decide) (q2 _ _ _ _ _ _),(HO2.out.onlyT KO.out (by decide) q1).onlyT kr1 (by decide) (q2 _ _ _ _ _ _),hn,hhb⟩,hb1.trans ((q2 _ _ _ _ _ _).below (by omega) hb1.size)⟩
theorem OwRep.onlyT {w W:World} {r:Rep} {si sh:Sl} {o T':Nat} {cs:Array Value} (h:OwRep w r si sh) (k:Blk w o T' cs) (h1:74≠T') (h2:3≠T') (ho:Only o w W):OwRep W r si sh:=⟨h.1.onlyT k h1 ho,h.2.1.onlyT k h2 ho,h.2.2⟩
end Go.Proofs.YtpcjdalgebgofaaGreatDoorY
namespace Go.Proofs.YtpcjdalgebgofaaGreatDoorY
open Go.RowKit Go.Sort
end Go.Proofs.YtpcjdalgebgofaaGreatDoorY
namespace Go.Proofs.YtpcjdalgebgofaaGreatDoorY
open Go.RowKit Go.Sort
end Go.Proofs.YtpcjdalgebgofaaGreatDoorY
namespace Go.Proofs.YtpcjdalgebgofaaGreatDoorY
open Go.RowKit Go.Sort
end Go.Proofs.YtpcjdalgebgofaaGreatDoorY
namespace Go.Proofs.YtpcjdalgebgofaaGreatDoorY
open Go.RowKit Go.Sort
theorem Only.own_ {g:Nat} {a b c:World} {row:Option Nat} (h:Only g a b) (k:b.grownBy c row) (hr:∀ x,row=some x→a.heap.size≤x):Only g a c :=
 ⟨k.os.trans h.os,k.tape.trans h.tape,k.output.trans h.output,Nat.le_trans h.size k.size,fun i hi hne=>(k.block i (Nat.lt_of_lt_of_le hi h.size) (by
  intro e
  have:=hr i e.symm
  omega)).trans (h.block i hi hne)⟩
end Go.Proofs.YtpcjdalgebgofaaGreatDoorY
namespace Go.Proofs.YtpcjdalgebgofaaGreatDoorY
open Go.RowKit Go.Sort
end Go.Proofs.YtpcjdalgebgofaaGreatDoorY
namespace Go.Proofs.YtpcjdalgebgofaaGreatDoorY
open Go.RowKit Go.Sort
theorem repOk_facts {r:Rep} (h:repOk r=true):(0≤r.lv∧r.lv≤99)∧(0≤r.pl∧r.pl≤9)∧(0≤r.sc∧r.sc≤60)∧(0≤r.tag∧r.tag≤1000002)∧(∀ z ∈ r.hs,0≤z∧z≤1000002)∧(∀ x ∈ r.ins,inOk x=true)∧r.ins.length≤60∧r.hs.length=r.ins.length / 5:=by
 simp only [repOk,insOk,Bool.and_eq_true,List.all_eq_true,decide_eq_true_eq,inR,hashOk] at h
 obtain ⟨⟨⟨⟨⟨⟨h1,h2⟩,h3⟩,h4⟩,h5,h6⟩,h7⟩,h8⟩:=h
 exact ⟨h2,h3,h4,h8,h1,h5,by omega,by omega⟩
end Go.Proofs.YtpcjdalgebgofaaGreatDoorY
namespace Go.Proofs.YtpcjdalgebgofaaGreatDoorY
open Go.RowKit Go.Sort
end Go.Proofs.YtpcjdalgebgofaaGreatDoorY
namespace Go.Proofs.YtpcjdalgebgofaaGreatDoorY
open Go.RowKit Go.Sort
end Go.Proofs.YtpcjdalgebgofaaGreatDoorY

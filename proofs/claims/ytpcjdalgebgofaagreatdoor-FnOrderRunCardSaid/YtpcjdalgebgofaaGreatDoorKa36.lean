/-
  Lemmas and contracts: YIj YIk YWr. No condition.
-/
import Derived.Deep.CutBlock
import Derived.Test.YtpcjdalgebgofaaGreatDoorKa27
import Derived.Test.YtpcjdalgebgofaaGreatDoorKa31
import Derived.Test.YtpcjdalgebgofaaGreatDoorKa35
set_option linter.unusedSimpArgs false
set_option linter.unusedVariables false
set_option linter.unusedSectionVars false
namespace Go.Proofs.YtpcjdalgebgofaaGreatDoorY
open Go.RowKit Go.Sort
def LieInv (g p:Nat) (w Y:World):Prop :=
 ∃ (q:Nat) (r:Rep) (si sh:Sl),q≤p∧Dr w g q Y∧Blk Y w.heap.size 33 (repC r si sh)∧Blk Y (w.heap.size+1) 33 (repC rep0 ⟨none,0,0⟩ ⟨none,0,0⟩)∧Ow (w.heap.size+2) Y 74 3 si.a si.n si.c (cellsN r.ins)∧Ow (w.heap.size+2) Y 3 1 sh.a sh.n sh.c (cellsI r.hs)∧si.n≤61∧sh.n≤100
def LiePost (g p K:Nat) (w:World) (e:Ending) (w':World):Prop :=
 ∃ (r:Rep) (si sh:Sl) (q:Nat),e=.returned (repV r si sh)∧OwRep w' r si sh∧si.n≤61∧sh.n≤100∧q≤p+K∧Dr w g q w'
theorem Ow.low {B T sz n c b o:Nat} {A:Option Addr} {w:World} {vs:List Value} {v:Value} (h:Ow B w T sz A n c vs) (hb:b<B):Ow B (w.setCell ⟨b,o,none⟩ v) T sz A n c vs :=
 h.keep fun g hg hc=>Below.heap_setCell w ⟨b,o,none⟩ v g (by have:=(h.lt hg hc).1;show g≠b;omega)
theorem cellsN_put:∀ (ds:List Inp) (k:Nat) (e:Inp),k<ds.length→(((cellsN ds).set (k * 3) (.int .i64 e.s)).set (k * 3+1) (.int .i64 e.p)).set (k * 3+2) (.bool e.z)=cellsN (ds.set k e)
 | [],_,_,h=>by simp at h
 | x :: r,0,e,_=>rfl
 |x :: r,k+1,e,h=>by
  have ih:=cellsN_put r k e (by simpa using h)
  rw [show (k+1) * 3=k * 3+1+1+1 by omega]
  show Value.int .i64 x.s :: Value.int .i64 x.p :: Value.bool x.z :: (((cellsN r).set (k * 3) _).set (k * 3+1) _).set (k * 3+2) _=Value.int .i64 x.s :: Value.int .i64 x.p :: Value.bool x.z :: cellsN (r.set k e)
  rw [ih]
theorem Ow.put3 {B T n c g k:Nat} {w:World} {ds:List Inp} {x:Inp} (h:Ow B w T 3 (some ⟨g,0,none⟩) n c (cellsN ds)) (hk:k<ds.length) :
  Ow B (((w.setCell ⟨g,k * 3,none⟩ (.int .i64 x.s)).setCell ⟨g,k * 3+1,none⟩ (.int .i64 x.p)).setCell ⟨g,k * 3+2,none⟩ (.bool x.z)) T 3 (some ⟨g,0,none⟩) n c (cellsN (ds.set k x)):=by
 have hl:(cellsN ds).length=ds.length * 3:=cellsX_length encIn_len ds
 rw [← cellsN_put ds k x hk]
 exact Ow.set_ (Ow.set_ (Ow.set_ h (by omega) _) (by simp;omega) _) (by simp;omega) _
set_option maxRecDepth 100000 in
set_option maxHeartbeats 8000000 in
theorem l92Lie_any (g p:Nat) (key:Int) (r:Rep) (si sh:Sl) (w:World) (h:Rdr w g p) (hp:p≤800000) (hr:RdR w r si sh) (h1:si.n≤60) (h2:sh.n≤60) :
  Calls Qy.prog 27 #[.pointer (some ⟨g,0,none⟩),.int .i64 key,repV r si sh] w (LiePost g p 60 w):=by
 have hg:=h.lt
 have hne:w.heap.size≠g:=by omega
 have hne1:w.heap.size+1≠g:=by omega
 obtain ⟨i0,hi0,hy0,hy1,hy2⟩:=info_parts infoZ
 have HI:=Lib.hid hi0
 have HZ:=Lib.hid hy0
 have HS:=Lib.hid hy1
 have HBY:=Lib.hid hy2
 clear hi0 hy0 hy1 hy2
 obtain ⟨j0,hi0,hy0,hy1,hy2⟩:=info_parts infoN
 have HJ:=Lib.hid hi0
 have HJZ:=Lib.hid hy0
 have HJS:=Lib.hid hy1
 have HJB:=Lib.hid hy2
 clear hi0 hy0 hy1 hy2
 obtain ⟨hri,hrh,hs1,hs2⟩:=hr
 have HRI:=Lib.hid hri
 have HRH:=Lib.hid hrh
 have KX:=Lib.hid ((Blk.new w 33 (repC r si sh)).alloc (.cells (repC rep0 ⟨none,0,0⟩ ⟨none,0,0⟩) 33))
 have KR:=Lib.hid (Blk.newAt (w.alloc (.cells (repC r si sh) 33)) 33 (repC rep0 ⟨none,0,0⟩ ⟨none,0,0⟩) (w.heap.size+1) (by simp))
 have HD:=Lib.hid (show Dr w g p _ from Dr.next (Dr.next ⟨h,Only.refl _ _⟩ (ba (Below.refl _ _) (o:=.cells (repC r si sh) 33))) (ba (Below.refl _ _) (o:=.cells (repC rep0 ⟨none,0,0⟩ ⟨none,0,0⟩) 33)))
 have hW0:((w.alloc (.cells (repC r si sh) 33)).alloc (.cells (repC rep0 ⟨none,0,0⟩ ⟨none,0,0⟩) 33)).heap.size=w.heap.size+2:=by simp
 clear h hri hrh
 go_enter Qy.func27,Tryz.ntmps27
 go_upto_region 1 with (fail)
 refine into_world (fun Y=>Y.heap.size=w.heap.size+2∧Dr w g p Y∧Blk Y w.heap.size 33 (repC r si sh)∧Blk Y (w.heap.size+1) 33 (repC rep0 ⟨none,0,0⟩ ⟨none,0,0⟩)∧Below w.heap.size w Y) ⟨hW0,HD.out,KX.out,KR.out,((Below.refl _ _).alloc (Nat.le_refl _) _).alloc (by simp) _⟩ ?_
 clear HD KX KR hW0
 rintro W ⟨hz,hD,hKX,hKR,hbw⟩
 have HD:=Lib.hid hD
 have KX:=Lib.hid hKX
 have KR:=Lib.hid hKR
 have HBW:=Lib.hid hbw
 clear hD hKX hKR hbw
 have cx:=fun o=>KX.out.cell o
 have fx:=fun o=>KX.out.frozen o
 have zx:=KX.out.lt
 have hsn:=Src.rd encIn_len ((HRI.out.below HBW.out).below (ba (Below.refl _ _):Below W.heap.size W (W.alloc (.cells #[] 74))))
 go_upto_region 2 with (at_builtin;refine wpList_append_ow _ rfl (.tmp 7) (.tmp 9) _ rfl (w.heap.size+2) 74 j0 _ 3 24 (Qy.un Tryz.underlying30) HJ.out HJZ.out HJS.out HJB.out rfl (by omega) _ 0 0 _ rfl (Ow.bare _ _ _ _ _) _ si.n si.c (cellsN r.ins) rfl hsn (cellsX_oneCell encIn_one _) (by unfold maxLen;omega) (by omega) (by simp;omega) ?_;intro A1 c1 w1 hown1 hg1 hn1;have HO1:=Lib.hid hown1;have HB1:=Lib.hid ((ba (Below.refl _ _):Below W.heap.size W (W.alloc (.cells #[] 74))).grown hg1 (by simp) (fun b hb=>by simp [ownB] at hb));clear hown1 hg1 hn1;have k1:=fun o=>(KX.out.next HB1.out).cell o;have k2:=fun o=>(KX.out.next HB1.out).frozen o;have k3:=(KX.out.next HB1.out).lt)
 have hon:=(Only.refl w.heap.size w1).set_ (p:=⟨w.heap.size,3,none⟩) (.inl rfl) (.slice A1 si.n c1)
 refine into_world (fun Y=>Dr w g p Y∧Blk Y w.heap.size 33 (repC r ⟨A1,si.n,c1⟩ sh)∧Blk Y (w.heap.size+1) 33 (repC rep0 ⟨none,0,0⟩ ⟨none,0,0⟩)∧Below w.heap.size w Y∧Ow (w.heap.size+2) Y 74 3 A1 si.n c1 (cellsN r.ins)) ⟨(HD.out.next HB1.out).set (a:=⟨w.heap.size,3,none⟩) (Nat.le_refl _) hg _,(KX.out.next HB1.out).set_ 3 _,(KR.out.next HB1.out).far (p:=⟨w.heap.size,3,none⟩) (by simp) _,(below_at HBW.out HBW.out.size HB1.out).trans (hon.below (Nat.le_refl _) (Nat.le_trans HBW.out.size HB1.out.size)),by have h:=HO1.out;rw [Nat.zero_add,List.nil_append] at h;exact h.only hon (fun hA=>by rcases Nat.eq_zero_or_pos c1 with h0|h0;exact h0;exact absurd (h.lt hA h0).1 (by omega))⟩ ?_
 clear HD KX KR HBW HO1 HB1 hon k1 k2 k3 hsn cx fx zx
 rintro W2 ⟨hD,hKX,hKR,hbw,hO⟩
 have HD:=Lib.hid hD
 have KX:=Lib.hid hKX
 have KR:=Lib.hid hKR
 have HBW:=Lib.hid hbw
 have HOI:=Lib.hid hO
 have hz2:w.heap.size+1<W2.heap.size:=hKR.lt
 clear hD hKX hKR hbw hO
 have cx:=fun o=>KX.out.cell o
 have fx:=fun o=>KX.out.frozen o
 have zx:=KX.out.lt
 have hsn:=Src.ints ((HRH.out.below HBW.out).below (ba (Below.refl _ _):Below W2.heap.size W2 (W2.alloc (.cells #[] 3))))
 go_upto_region 3 with (at_builtin;refine wpList_append_ow _ rfl (.tmp 12) (.tmp 14) _ rfl (w.heap.size+2) 3 i0 _ 1 8 (Qy.un Tryz.underlying31) HI.out HZ.out HS.out HBY.out rfl (by omega) _ 0 0 _ rfl (Ow.bare _ _ _ _ _) _ sh.n sh.c (cellsI r.hs) rfl hsn (cellsI_one _) (by unfold maxLen;omega) (by omega) (by simp;omega) ?_;intro A2 c2 w2 hown1 hg1 hn1;have HO2:=Lib.hid hown1;have HB2:=Lib.hid ((ba (Below.refl _ _):Below W2.heap.size W2 (W2.alloc (.cells #[] 3))).grown hg1 (by simp) (fun b hb=>by simp [ownB] at hb));clear hown1 hg1 hn1;have k1:=fun o=>(KX.out.next HB2.out).cell o;have k2:=fun o=>(KX.out.next HB2.out).frozen o;have k3:=(KX.out.next HB2.out).lt)
 have hon:=(Only.refl w.heap.size w2).set_ (p:=⟨w.heap.size,4,none⟩) (.inl rfl) (.slice A2 sh.n c2)
 obtain ⟨lv,pl,sc,ins,hs,tag⟩:=r
 refine into_world (fun Y=>Dr w g p Y∧Blk Y w.heap.size 33 (repC ⟨lv,pl,sc,ins,hs,tag⟩ ⟨A1,si.n,c1⟩ ⟨A2,sh.n,c2⟩)∧Blk Y (w.heap.size+1) 33 (repC rep0 ⟨none,0,0⟩ ⟨none,0,0⟩)∧Ow (w.heap.size+2) Y 74 3 A1 si.n c1 (cellsN ins)∧Ow (w.heap.size+2) Y 3 1 A2 sh.n c2 (cellsI hs)) ⟨(HD.out.next HB2.out).set (a:=⟨w.heap.size,4,none⟩) (Nat.le_refl _) hg _,(KX.out.next HB2.out).set_ 4 _,(KR.out.next HB2.out).far (p:=⟨w.heap.size,4,none⟩) (by simp) _,(Ow.next HOI.out HB2.out).low (by omega),by have h:=HO2.out;rw [Nat.zero_add,List.nil_append] at h;exact h.low (by omega)⟩ ?_
 clear HD KX KR HBW HOI HO2 HB2 hon k1 k2 k3 hsn cx fx zx HRI HRH
 rintro W3 ⟨hD,hKX,hKR,hO,hO2⟩
 have HD:=Lib.hid hD
 have KX:=Lib.hid hKX
 have KR:=Lib.hid hKR
 have HOI:=Lib.hid hO
 have HOH:=Lib.hid hO2
 obtain ⟨n1,hn1⟩:∃ n,si.n=n:=⟨_,rfl⟩
 obtain ⟨n2,hn2⟩:∃ n,sh.n=n:=⟨_,rfl⟩
 rw [hn1] at HOI KX h1
 rw [hn2] at HOH KX h2
 clear hD hKX hKR hO hO2
 go_wp2_with fail
 refine (pick_any g 9 _ _ HD.out.1 (by omega)).mono ?_
 rintro e w4 ⟨v4,rfl,a4,b4,hR,hO⟩
 replace KX:=Lib.hid (KX.out.only hO hne)
 replace KR:=Lib.hid (KR.out.only hO hne1)
 replace HOI:=Lib.hid (HOI.out.onlyG hO (by omega))
 replace HOH:=Lib.hid (HOH.out.onlyG hO (by omega))
 replace HD:=Lib.hid (HD.out.step hR hO)
 clear hR hO
 go_upto_block 0 with (fail)
 go_cut [18] (fun _ wx=>Hid (LieInv g (p+40) w wx))
 case rest =>
  obtain ⟨q,r,si',sh',hq,hD,hKX,hKR,hO,hO2,hn1,hn2⟩:=hcut.out
  obtain ⟨A3,n3,c3⟩:=si'
  obtain ⟨A4,n4,c4⟩:=sh'
  simp only at hn1 hn2 hO hO2 hKX
  have HD:=Lib.hid hD
  have KX:=Lib.hid hKX
  have KR:=Lib.hid hKR
  have HOI:=Lib.hid hO
  have HOH:=Lib.hid hO2
  clear hcut hD hKX hKR hO hO2
  go_wp2_with fail
  refine (pick_any g 2 _ _ HD.out.1 (by omega)).mono ?_
  rintro e w7 ⟨v7,rfl,a7,b7,hR,hO⟩
  replace KX:=Lib.hid (KX.out.only hO hne)
  replace KR:=Lib.hid (KR.out.only hO hne1)
  replace HOI:=Lib.hid (HOI.out.onlyG hO (by omega))
  replace HOH:=Lib.hid (HOH.out.onlyG hO (by omega))
  replace HD:=Lib.hid (HD.out.step hR hO)
  clear hR hO
  by_cases e7:v7=0
  ·have h7':(v7 == 0)=true:=by simpa using e7
   clear e7
   have cx:=fun o=>KX.out.cell o
   have fx:=fun o=>KX.out.frozen o
   have zx:=KX.out.lt
   go_wp2_with fail
   refine (specReplayValid_any r ⟨A3,n3,c3⟩ ⟨A4,n4,c4⟩ _ ⟨Ow.rd encIn_len (by decide) HOI.out,HOH.out.rdI,⟨HOI.out.le,by simp only;omega⟩,HOH.out.le,by simp only;omega⟩).mono ?_
   rintro e w8 ⟨rfl,hb⟩
   replace HD:=Lib.hid (HD.out.next hb)
   replace KX:=Lib.hid (KX.out.next hb)
   replace KR:=Lib.hid (KR.out.next hb)
   replace HOI:=Lib.hid (Ow.next HOI.out hb)
   replace HOH:=Lib.hid (Ow.next HOH.out hb)
   clear hb cx fx zx
   cases hro:repOk r
   ·clear hro
    obtain ⟨lv,pl,sc,ins,hs,tag⟩:=r
    go_upto_region 23 with (fail)
    refine into_world (fun Y=>Dr w g (q+1) Y∧Blk Y w.heap.size 33 (repC ⟨lv,pl,sc,ins,hs,tag⟩ ⟨A3,n3,c3⟩ ⟨A4,n4,c4⟩)∧Blk Y (w.heap.size+1) 33 (repC rep0 ⟨none,0,0⟩ ⟨none,0,0⟩)∧Ow (w.heap.size+2) Y 74 3 A3 n3 c3 (cellsN ins)∧Ow (w.heap.size+2) Y 3 1 A4 n4 c4 (cellsI hs)) ⟨HD.out,KX.out,KR.out,HOI.out,HOH.out⟩ ?_
    clear HD KX KR HOI HOH
    rintro U ⟨hD,hKX,hKR,hO,hO2⟩
    have HX6:=Lib.hid (only6' (q:=w.heap.size+1) (.inl rfl) (Only.refl (w.heap.size+1) U) (.int .i64 lv) (.int .i64 pl) (.int .i64 sc) (.slice A3 n3 c3) (.slice A4 n4 c4) (.int .i64 tag))
    have KR3:=Lib.hid (hKR.all6 (.int .i64 lv) (.int .i64 pl) (.int .i64 sc) (.slice A3 n3 c3) (.slice A4 n4 c4) (.int .i64 tag))
    have HD2:=Lib.hid (hD.six' (e:=w.heap.size+1) (by omega) hg (.int .i64 lv) (.int .i64 pl) (.int .i64 sc) (.slice A3 n3 c3) (.slice A4 n4 c4) (.int .i64 tag))
    have HOI2:=Lib.hid (hO.onlyT hKR (by decide) HX6.out)
    have HOH2:=Lib.hid (hO2.onlyT hKR (by decide) HX6.out)
    have KX:=Lib.hid hKX
    have KR:=Lib.hid hKR
    clear hD hKX hKR hO hO2
    have cx:=fun o=>KX.out.cell o
    have fx:=fun o=>KX.out.frozen o
    have zx:=KX.out.lt
    have cr:=fun o=>KR.out.cell o
    have fr:=fun o=>KR.out.frozen o
    have zr:=KR.out.lt
    go_wp2_with fail
    obtain ⟨V,hV⟩:∃ V,((((((U.setCell ⟨w.heap.size+1,0,none⟩ (.int .i64 lv)).setCell ⟨w.heap.size+1,1,none⟩ (.int .i64 pl)).setCell ⟨w.heap.size+1,2,none⟩ (.int .i64 sc)).setCell ⟨w.heap.size+1,3,none⟩ (.slice A3 n3 c3)).setCell ⟨w.heap.size+1,4,none⟩ (.slice A4 n4 c4)).setCell ⟨w.heap.size+1,5,none⟩ (.int .i64 tag))=V:=⟨_,rfl⟩
    rw [hV] at HX6 KR3 HD2 HOI2 HOH2 ⊢
    have cc3:=fun o=>KR3.out.cell o
    refine bodyPost_ret (v:=repV ⟨lv,pl,sc,ins,hs,tag⟩ ⟨A3,n3,c3⟩ ⟨A4,n4,c4⟩) (by simp [results,Tryz.results27,go_sem,cc3]) rfl ?_
    exact ⟨⟨lv,pl,sc,ins,hs,tag⟩,⟨A3,n3,c3⟩,⟨A4,n4,c4⟩,q+1,rfl,⟨HOI2.out.mono (Nat.zero_le _),HOH2.out.mono (Nat.zero_le _),by simp only;omega,by simp only;omega⟩,by simp only;omega,by simp only;omega,by omega,HD2.out⟩
   clear hro
   go_wp2_with fail
   refine (l6In_any key 1 9999 _).mono ?_
   rintro e w9 ⟨rfl,rfl⟩
   cases hin:inR key 1 9999
   ·clear hin
    obtain ⟨lv,pl,sc,ins,hs,tag⟩:=r
    go_upto_region 23 with (fail)
    refine into_world (fun Y=>Dr w g (q+1) Y∧Blk Y w.heap.size 33 (repC ⟨lv,pl,sc,ins,hs,tag⟩ ⟨A3,n3,c3⟩ ⟨A4,n4,c4⟩)∧Blk Y (w.heap.size+1) 33 (repC rep0 ⟨none,0,0⟩ ⟨none,0,0⟩)∧Ow (w.heap.size+2) Y 74 3 A3 n3 c3 (cellsN ins)∧Ow (w.heap.size+2) Y 3 1 A4 n4 c4 (cellsI hs)) ⟨HD.out,KX.out,KR.out,HOI.out,HOH.out⟩ ?_
    clear HD KX KR HOI HOH
    rintro U ⟨hD,hKX,hKR,hO,hO2⟩
    have HX6:=Lib.hid (only6' (q:=w.heap.size+1) (.inl rfl) (Only.refl (w.heap.size+1) U) (.int .i64 lv) (.int .i64 pl) (.int .i64 sc) (.slice A3 n3 c3) (.slice A4 n4 c4) (.int .i64 tag))
    have KR3:=Lib.hid (hKR.all6 (.int .i64 lv) (.int .i64 pl) (.int .i64 sc) (.slice A3 n3 c3) (.slice A4 n4 c4) (.int .i64 tag))
    have HD2:=Lib.hid (hD.six' (e:=w.heap.size+1) (by omega) hg (.int .i64 lv) (.int .i64 pl) (.int .i64 sc) (.slice A3 n3 c3) (.slice A4 n4 c4) (.int .i64 tag))
    have HOI2:=Lib.hid (hO.onlyT hKR (by decide) HX6.out)
    have HOH2:=Lib.hid (hO2.onlyT hKR (by decide) HX6.out)
    have KX:=Lib.hid hKX
    have KR:=Lib.hid hKR
    clear hD hKX hKR hO hO2
    have cx:=fun o=>KX.out.cell o
    have fx:=fun o=>KX.out.frozen o
    have zx:=KX.out.lt
    have cr:=fun o=>KR.out.cell o
    have fr:=fun o=>KR.out.frozen o
    have zr:=KR.out.lt
    go_wp2_with fail
    obtain ⟨V,hV⟩:∃ V,((((((U.setCell ⟨w.heap.size+1,0,none⟩ (.int .i64 lv)).setCell ⟨w.heap.size+1,1,none⟩ (.int .i64 pl)).setCell ⟨w.heap.size+1,2,none⟩ (.int .i64 sc)).setCell ⟨w.heap.size+1,3,none⟩ (.slice A3 n3 c3)).setCell ⟨w.heap.size+1,4,none⟩ (.slice A4 n4 c4)).setCell ⟨w.heap.size+1,5,none⟩ (.int .i64 tag))=V:=⟨_,rfl⟩
    rw [hV] at HX6 KR3 HD2 HOI2 HOH2 ⊢
    have cc3:=fun o=>KR3.out.cell o
    refine bodyPost_ret (v:=repV ⟨lv,pl,sc,ins,hs,tag⟩ ⟨A3,n3,c3⟩ ⟨A4,n4,c4⟩) (by simp [results,Tryz.results27,go_sem,cc3]) rfl ?_
    exact ⟨⟨lv,pl,sc,ins,hs,tag⟩,⟨A3,n3,c3⟩,⟨A4,n4,c4⟩,q+1,rfl,⟨HOI2.out.mono (Nat.zero_le _),HOH2.out.mono (Nat.zero_le _),by simp only;omega,by simp only;omega⟩,by simp only;omega,by simp only;omega,by omega,HD2.out⟩
   clear hin
   have cx:=fun o=>KX.out.cell o
   have fx:=fun o=>KX.out.frozen o
   have zx:=KX.out.lt
   go_wp2_with fail
   refine (l23List_any r ⟨A3,n3,c3⟩ ⟨A4,n4,c4⟩ _ ⟨Ow.rd encIn_len (by decide) HOI.out,HOH.out.rdI,⟨HOI.out.le,by simp only;omega⟩,HOH.out.le,by simp only;omega⟩).mono ?_
   rintro e w10 ⟨A6,c6,rfl,hO6,hb⟩
   replace HD:=Lib.hid (HD.out.next hb)
   replace KX:=Lib.hid (KX.out.next hb)
   replace KR:=Lib.hid (KR.out.next hb)
   replace HOI:=Lib.hid (Ow.next HOI.out hb)
   replace HOH:=Lib.hid (Ow.next HOH.out hb)
   clear hb cx fx zx
   have hlen:(listW r).length≤200:=by
    have h1:=HOI.out.lenN
    have h2:=HOH.out.lenI
    simp [listW]
    omega
   go_wp2_with fail
   refine (l4Tag_any key A6 _ c6 (listW r) _ hO6.rdI (by omega)).mono ?_
   rintro e w11 ⟨rfl,rfl⟩
   generalize tagW key (listW r)=tg
   clear hO6
   have cx:=fun o=>KX.out.cell o
   have fx:=fun o=>KX.out.frozen o
   have zx:=KX.out.lt
   go_upto_region 23 with (fail)
   refine into_world (fun Y=>LieInv g (q+1) w Y) ⟨q+1,⟨r.lv,r.pl,r.sc,r.ins,r.hs,tg⟩,⟨A3,n3,c3⟩,⟨A4,n4,c4⟩,Nat.le_refl _,HD.out.set (a:=⟨w.heap.size,5,none⟩) (Nat.le_refl _) hg _,KX.out.set_ 5 _,KR.out.far (p:=⟨w.heap.size,5,none⟩) (by simp) _,HOI.out.low (by omega),HOH.out.low (by omega),hn1,hn2⟩ ?_
   rintro Y hY
   clear HD KX KR HOI HOH cx fx zx hlen
   obtain ⟨q2,r2,si2,sh2,hq2,hD,hKX,hKR,hO,hO2,hn1',hn2'⟩:=hY
   obtain ⟨A3,n3,c3⟩:=si2
   obtain ⟨A4,n4,c4⟩:=sh2
   simp only at hn1' hn2' hO hO2 hKX
   have HD:=Lib.hid hD
   have KX:=Lib.hid hKX
   have KR:=Lib.hid hKR
   have HOI:=Lib.hid hO
   have HOH:=Lib.hid hO2
   clear hD hKX hKR hO hO2
   obtain ⟨lv,pl,sc,ins,hs,tag⟩:=r2
   go_upto_region 23 with (fail)
   refine into_world (fun Y=>Dr w g (q2) Y∧Blk Y w.heap.size 33 (repC ⟨lv,pl,sc,ins,hs,tag⟩ ⟨A3,n3,c3⟩ ⟨A4,n4,c4⟩)∧Blk Y (w.heap.size+1) 33 (repC rep0 ⟨none,0,0⟩ ⟨none,0,0⟩)∧Ow (w.heap.size+2) Y 74 3 A3 n3 c3 (cellsN ins)∧Ow (w.heap.size+2) Y 3 1 A4 n4 c4 (cellsI hs)) ⟨HD.out,KX.out,KR.out,HOI.out,HOH.out⟩ ?_
   clear HD KX KR HOI HOH
   rintro U ⟨hD,hKX,hKR,hO,hO2⟩
   have HX6:=Lib.hid (only6' (q:=w.heap.size+1) (.inl rfl) (Only.refl (w.heap.size+1) U) (.int .i64 lv) (.int .i64 pl) (.int .i64 sc) (.slice A3 n3 c3) (.slice A4 n4 c4) (.int .i64 tag))
   have KR3:=Lib.hid (hKR.all6 (.int .i64 lv) (.int .i64 pl) (.int .i64 sc) (.slice A3 n3 c3) (.slice A4 n4 c4) (.int .i64 tag))
   have HD2:=Lib.hid (hD.six' (e:=w.heap.size+1) (by omega) hg (.int .i64 lv) (.int .i64 pl) (.int .i64 sc) (.slice A3 n3 c3) (.slice A4 n4 c4) (.int .i64 tag))
   have HOI2:=Lib.hid (hO.onlyT hKR (by decide) HX6.out)
   have HOH2:=Lib.hid (hO2.onlyT hKR (by decide) HX6.out)
   have KX:=Lib.hid hKX
   have KR:=Lib.hid hKR
   clear hD hKX hKR hO hO2
   have cx:=fun o=>KX.out.cell o
   have fx:=fun o=>KX.out.frozen o
   have zx:=KX.out.lt
   have cr:=fun o=>KR.out.cell o
   have fr:=fun o=>KR.out.frozen o
   have zr:=KR.out.lt
   go_wp2_with fail
   obtain ⟨V,hV⟩:∃ V,((((((U.setCell ⟨w.heap.size+1,0,none⟩ (.int .i64 lv)).setCell ⟨w.heap.size+1,1,none⟩ (.int .i64 pl)).setCell ⟨w.heap.size+1,2,none⟩ (.int .i64 sc)).setCell ⟨w.heap.size+1,3,none⟩ (.slice A3 n3 c3)).setCell ⟨w.heap.size+1,4,none⟩ (.slice A4 n4 c4)).setCell ⟨w.heap.size+1,5,none⟩ (.int .i64 tag))=V:=⟨_,rfl⟩
   rw [hV] at HX6 KR3 HD2 HOI2 HOH2 ⊢
   have cc3:=fun o=>KR3.out.cell o
   refine bodyPost_ret (v:=repV ⟨lv,pl,sc,ins,hs,tag⟩ ⟨A3,n3,c3⟩ ⟨A4,n4,c4⟩) (by simp [results,Tryz.results27,go_sem,cc3]) rfl ?_
   exact ⟨⟨lv,pl,sc,ins,hs,tag⟩,⟨A3,n3,c3⟩,⟨A4,n4,c4⟩,q2,rfl,⟨HOI2.out.mono (Nat.zero_le _),HOH2.out.mono (Nat.zero_le _),by simp only;omega,by simp only;omega⟩,by simp only;omega,by simp only;omega,by omega,HD2.out⟩
  ·have h7':(v7 == 0)=false:=by simpa using e7
   clear e7
   obtain ⟨lv,pl,sc,ins,hs,tag⟩:=r
   go_upto_region 23 with (fail)
   refine into_world (fun Y=>Dr w g (q+1) Y∧Blk Y w.heap.size 33 (repC ⟨lv,pl,sc,ins,hs,tag⟩ ⟨A3,n3,c3⟩ ⟨A4,n4,c4⟩)∧Blk Y (w.heap.size+1) 33 (repC rep0 ⟨none,0,0⟩ ⟨none,0,0⟩)∧Ow (w.heap.size+2) Y 74 3 A3 n3 c3 (cellsN ins)∧Ow (w.heap.size+2) Y 3 1 A4 n4 c4 (cellsI hs)) ⟨HD.out,KX.out,KR.out,HOI.out,HOH.out⟩ ?_
   clear HD KX KR HOI HOH
   rintro U ⟨hD,hKX,hKR,hO,hO2⟩
   have HX6:=Lib.hid (only6' (q:=w.heap.size+1) (.inl rfl) (Only.refl (w.heap.size+1) U) (.int .i64 lv) (.int .i64 pl) (.int .i64 sc) (.slice A3 n3 c3) (.slice A4 n4 c4) (.int .i64 tag))
   have KR3:=Lib.hid (hKR.all6 (.int .i64 lv) (.int .i64 pl) (.int .i64 sc) (.slice A3 n3 c3) (.slice A4 n4 c4) (.int .i64 tag))
   have HD2:=Lib.hid (hD.six' (e:=w.heap.size+1) (by omega) hg (.int .i64 lv) (.int .i64 pl) (.int .i64 sc) (.slice A3 n3 c3) (.slice A4 n4 c4) (.int .i64 tag))
   have HOI2:=Lib.hid (hO.onlyT hKR (by decide) HX6.out)
   have HOH2:=Lib.hid (hO2.onlyT hKR (by decide) HX6.out)
   have KX:=Lib.hid hKX
   have KR:=Lib.hid hKR
   clear hD hKX hKR hO hO2
   have cx:=fun o=>KX.out.cell o
   have fx:=fun o=>KX.out.frozen o
   have zx:=KX.out.lt
   have cr:=fun o=>KR.out.cell o
   have fr:=fun o=>KR.out.frozen o
   have zr:=KR.out.lt
   go_wp2_with fail
   obtain ⟨V,hV⟩:∃ V,((((((U.setCell ⟨w.heap.size+1,0,none⟩ (.int .i64 lv)).setCell ⟨w.heap.size+1,1,none⟩ (.int .i64 pl)).setCell ⟨w.heap.size+1,2,none⟩ (.int .i64 sc)).setCell ⟨w.heap.size+1,3,none⟩ (.slice A3 n3 c3)).setCell ⟨w.heap.size+1,4,none⟩ (.slice A4 n4 c4)).setCell ⟨w.heap.size+1,5,none⟩ (.int .i64 tag))=V:=⟨_,rfl⟩
   rw [hV] at HX6 KR3 HD2 HOI2 HOH2 ⊢
   have cc3:=fun o=>KR3.out.cell o
   refine bodyPost_ret (v:=repV ⟨lv,pl,sc,ins,hs,tag⟩ ⟨A3,n3,c3⟩ ⟨A4,n4,c4⟩) (by simp [results,Tryz.results27,go_sem,cc3]) rfl ?_
   exact ⟨⟨lv,pl,sc,ins,hs,tag⟩,⟨A3,n3,c3⟩,⟨A4,n4,c4⟩,q+1,rfl,⟨HOI2.out.mono (Nat.zero_le _),HOH2.out.mono (Nat.zero_le _),by simp only;omega,by simp only;omega⟩,by simp only;omega,by simp only;omega,by omega,HD2.out⟩
 case first =>
  by_cases e0:v4=0
  ·have h0':(v4 == 0)=true:=by simpa using e0
   clear e0
   go_wp2_with fail
   refine (pick_any g 63 _ _ HD.out.1 (by omega)).mono ?_
   rintro e w5 ⟨v5,rfl,a5,b5,hR,hO⟩
   replace KX:=Lib.hid (KX.out.only hO hne)
   replace KR:=Lib.hid (KR.out.only hO hne1)
   replace HOI:=Lib.hid (HOI.out.onlyG hO (by omega))
   replace HOH:=Lib.hid (HOH.out.onlyG hO (by omega))
   replace HD:=Lib.hid (HD.out.step hR hO)
   clear hR hO
   have cx:=fun o=>KX.out.cell o
   have fx:=fun o=>KX.out.frozen o
   have zx:=KX.out.lt
   go_wp2_with fail
   go_meet
   exact ⟨p+2,⟨lv,pl,v5 - 1,ins,hs,tag⟩,⟨A1,n1,c1⟩,⟨A2,n2,c2⟩,by omega,HD.out.set (a:=⟨w.heap.size,2,none⟩) (Nat.le_refl _) hg _,KX.out.set_ 2 _,KR.out.far (p:=⟨w.heap.size,2,none⟩) (by simp) _,HOI.out.low (by omega),HOH.out.low (by omega),by simp only;omega,by simp only;omega⟩
  have h0':(v4 == 0)=false:=by simpa using e0
  by_cases e1:v4=1
  ·have h1':(v4 == 1)=true:=by simpa using e1
   clear e0 e1
   have hz4:w.heap.size+1<w4.heap.size:=KR.out.lt
   have cx:=fun o=>KX.out.cell o
   have fx:=fun o=>KX.out.frozen o
   have zx:=KX.out.lt
   go_wp2_with fail
   refine (l92Hashes_any g _ A2 n2 c2 hs _ HD.out.1 (by omega) HOH.out.rdI (by omega)).mono ?_
   rintro e w5 ⟨A5,m5,c5,zs5,q5,rfl,hO5,hm5,hq5,hD5⟩
   replace KX:=Lib.hid (KX.out.only hD5.2 hne)
   replace KR:=Lib.hid (KR.out.only hD5.2 hne1)
   replace HOI:=Lib.hid (HOI.out.onlyG hD5.2 (by omega))
   replace HOH:=Lib.hid (hO5.mono (show w.heap.size+2≤w4.heap.size by omega))
   replace HD:=Lib.hid (HD.out.step hD5.1 hD5.2)
   clear hO5 hD5 cx fx zx
   have cx:=fun o=>KX.out.cell o
   have fx:=fun o=>KX.out.frozen o
   have zx:=KX.out.lt
   go_wp2_with fail
   go_meet
   exact ⟨q5,⟨lv,pl,sc,ins,zs5,tag⟩,⟨A1,n1,c1⟩,⟨A5,m5,c5⟩,by omega,HD.out.set (a:=⟨w.heap.size,4,none⟩) (Nat.le_refl _) hg _,KX.out.set_ 4 _,KR.out.far (p:=⟨w.heap.size,4,none⟩) (by simp) _,HOI.out.low (by omega),HOH.out.low (by omega),by simp only;omega,by simp only;omega⟩
  have h1':(v4 == 1)=false:=by simpa using e1
  by_cases e2:v4=2
  ·have h2':(v4 == 2)=true:=by simpa using e2
   clear e0 e1 e2
   rcases Nat.eq_zero_or_pos n1 with hn0|hn0
   ·subst hn0
    have cx:=fun o=>KX.out.cell o
    have fx:=fun o=>KX.out.frozen o
    have zx:=KX.out.lt
    go_wp2_with fail
    go_meet
    exact ⟨p+1,⟨lv,pl,sc,ins,hs,tag⟩,⟨A1,0,c1⟩,⟨A2,n2,c2⟩,by omega,HD.out,KX.out,KR.out,HOI.out,HOH.out,by simp only;omega,by simp only;omega⟩
   ·have hn0':decide ((0:Int)<(n1:Int))=true:=by simp;omega
    have hn0i:(0:Int)<(n1:Int):=by omega
    have cx:=fun o=>KX.out.cell o
    have fx:=fun o=>KX.out.frozen o
    have zx:=KX.out.lt
    go_upto_region 10 with (fail)
    have hz4:w.heap.size+1<w4.heap.size:=KR.out.lt
    refine wp_region_grow 9 (by kernel_rfl) (by kernel_rfl) (by kernel_rfl) (fun a b=>Only g a b) (fun mq w'=>∃ q,q≤p+1+3 * mq∧Dr w g q w'∧Only g w4 w') (fun iq v w'=>match iq with|0=>(v=.pointer (some ⟨w.heap.size,3,none⟩))|1=>(v=.slice A1 n1 c1)|2=>(v=.pointer (some ⟨g,0,none⟩))|3=>(v=.pointer (some ⟨w.heap.size,3,none⟩))|4=>(v=.slice A1 n1 c1)|5=>(v=.int .i64 (n1:Int))|6=>(∃ k:Nat,v=.int .i64 k∧k<n1)|7=>(v=.pointer (some ⟨g,0,none⟩))|8=>(∃ x:Inp,v=inV x)|_=>True) (fun sq=>{ tmps:=#[Value.pointer (some (⟨g,0,none⟩:Addr)),Value.int .i64 key,repV { lv:=lv,pl:=pl,sc:=sc,ins:=ins,hs:=hs,tag:=tag } si sh,undef,undef,Value.pointer (some (⟨w.heap.size,0,none⟩:Addr)),Value.pointer (some (⟨w.heap.size+1,0,none⟩:Addr)),Value.slice (some (⟨w.heap.size+2,0,none⟩:Addr)) 0 0,Value.pointer (some (⟨w.heap.size,3,none⟩:Addr)),Value.slice si.a n1 si.c,Value.slice A1 n1 c1,Value.pointer (some (⟨w.heap.size,3,none⟩:Addr)),Value.slice (some (⟨W2.heap.size,0,none⟩:Addr)) 0 0,Value.pointer (some (⟨w.heap.size,4,none⟩:Addr)),Value.slice sh.a n2 sh.c,Value.slice A2 n2 c2,Value.pointer (some (⟨w.heap.size,4,none⟩:Addr)),Value.pointer (some (⟨g,0,none⟩:Addr)),Value.int .i64 v4,Value.bool false,Value.bool false,undef,undef,undef,undef,Value.bool false,Value.bool false,undef,undef,undef,undef,undef,Value.bool true,Value.bool true,Value.pointer (some (⟨w.heap.size,3,none⟩:Addr)),Value.slice A1 n1 c1,Value.int .i64 (n1:Int),Value.bool true,sq 0,sq 1,sq 2,sq 3,sq 4,sq 5,sq 6,sq 7,sq 8,undef,undef,undef,undef,undef,undef,undef,undef,undef,undef,undef,undef,undef,undef,undef,undef,undef,undef,undef,undef,undef,undef,undef,undef,undef,undef,undef,undef,undef,undef,undef,undef,undef,undef,undef,undef,undef,undef,undef,undef,undef,undef,undef,undef,undef,undef,undef,undef,undef,undef,undef,undef,undef,undef,undef,undef,undef,undef,undef],defers:=[] }) (fun _=>undef) ?_ ?_ ?_ ?_
    ·rintro iq v a b hg h
     match iq,h with
     | 0,h=>exact h
     | 1,h=>exact h
     | 2,h=>exact h
     | 3,h=>exact h
     | 4,h=>exact h
     | 5,h=>exact h
     | 6,h=>exact h
     | 7,h=>exact h
     | 8,h=>exact h
     | (kq+9),_=>exact trivial
    ·exact ⟨_,by omega,HD.out.next ⟨rfl,rfl,rfl,Nat.le_refl _,fun _ _=>rfl⟩,(show Only g w4 w4.drew from ⟨rfl,rfl,rfl,Nat.le_refl _,fun _ _ _=>rfl⟩)⟩
    ·intro mq sq w' iq oq hmq hiq hoq hJ hd Kq hK
     have hiq':iq=0∨iq=1∨iq=2∨iq=3∨iq=4∨iq=5∨iq=6∨iq=7∨iq=8:=by omega
     rcases hiq' with rfl|rfl|rfl|rfl|rfl|rfl|rfl|rfl|rfl
     ·cases (show some _=some oq from hoq)
      have hK':=hK
      simp only [updV,Nat.reduceEqDiff,↓reduceIte] at hK'
      clear hK hd
      generalize sq 0=x0,sq 1=x1,sq 2=x2,sq 3=x3,sq 4=x4,sq 5=x5,sq 6=x6,sq 7=x7,sq 8=x8 at *
      go_simp
      exact hK' _ _ (Only.refl _ _) (by obtain ⟨q,hq,hD,hO⟩:=hJ;exact ⟨q,by omega,hD,hO⟩) rfl
     ·cases (show some _=some oq from hoq)
      have d0:=hd 0 (by kernel_rfl) (by decide)
      have hK':=hK
      simp only [updV,Nat.reduceEqDiff,↓reduceIte] at hK'
      clear hK hd
      generalize sq 0=x0,sq 1=x1,sq 2=x2,sq 3=x3,sq 4=x4,sq 5=x5,sq 6=x6,sq 7=x7,sq 8=x8 at *
      obtain rfl:=d0
      obtain ⟨q,hq,hD,hO⟩:=hJ
      have hcc:=(KX.out.only hO hne).cell 3
      go_simp
      exact hK' _ _ (Only.refl _ _) ⟨q,by omega,hD,hO⟩ rfl
     ·cases (show some _=some oq from hoq)
      have hK':=hK
      simp only [updV,Nat.reduceEqDiff,↓reduceIte] at hK'
      clear hK hd
      generalize sq 0=x0,sq 1=x1,sq 2=x2,sq 3=x3,sq 4=x4,sq 5=x5,sq 6=x6,sq 7=x7,sq 8=x8 at *
      go_simp
      exact hK' _ _ (Only.refl _ _) (by obtain ⟨q,hq,hD,hO⟩:=hJ;exact ⟨q,by omega,hD,hO⟩) rfl
     ·cases (show some _=some oq from hoq)
      have hK':=hK
      simp only [updV,Nat.reduceEqDiff,↓reduceIte] at hK'
      clear hK hd
      generalize sq 0=x0,sq 1=x1,sq 2=x2,sq 3=x3,sq 4=x4,sq 5=x5,sq 6=x6,sq 7=x7,sq 8=x8 at *
      go_simp
      exact hK' _ _ (Only.refl _ _) (by obtain ⟨q,hq,hD,hO⟩:=hJ;exact ⟨q,by omega,hD,hO⟩) rfl
     ·cases (show some _=some oq from hoq)
      have d3:=hd 3 (by kernel_rfl) (by decide)
      have hK':=hK
      simp only [updV,Nat.reduceEqDiff,↓reduceIte] at hK'
      clear hK hd
      generalize sq 0=x0,sq 1=x1,sq 2=x2,sq 3=x3,sq 4=x4,sq 5=x5,sq 6=x6,sq 7=x7,sq 8=x8 at *
      obtain rfl:=d3
      obtain ⟨q,hq,hD,hO⟩:=hJ
      have hcc:=(KX.out.only hO hne).cell 3
      go_simp
      exact hK' _ _ (Only.refl _ _) ⟨q,by omega,hD,hO⟩ rfl
     ·cases (show some _=some oq from hoq)
      have d4:=hd 4 (by kernel_rfl) (by decide)
      have hK':=hK
      simp only [updV,Nat.reduceEqDiff,↓reduceIte] at hK'
      clear hK hd
      generalize sq 0=x0,sq 1=x1,sq 2=x2,sq 3=x3,sq 4=x4,sq 5=x5,sq 6=x6,sq 7=x7,sq 8=x8 at *
      obtain rfl:=d4
      go_simp
      exact hK' _ _ (Only.refl _ _) (by obtain ⟨q,hq,hD,hO⟩:=hJ;exact ⟨q,by omega,hD,hO⟩) rfl
     ·cases (show some _=some oq from hoq)
      have d2:=hd 2 (by kernel_rfl) (by decide)
      have d5:=hd 5 (by kernel_rfl) (by decide)
      have hK':=hK
      simp only [updV,Nat.reduceEqDiff,↓reduceIte] at hK'
      clear hK hd
      generalize sq 0=x0,sq 1=x1,sq 2=x2,sq 3=x3,sq 4=x4,sq 5=x5,sq 6=x6,sq 7=x7,sq 8=x8 at *
      obtain rfl:=d2
      obtain rfl:=d5
      obtain ⟨q,hq,hD,hO⟩:=hJ
      go_simp
      refine (pick_any g n1 _ _ hD.1 (by omega)).mono ?_
      rintro e9 w9 ⟨v9,rfl,a9,b9,hR,hO9⟩
      have c9:=b9 hn0i
      obtain ⟨k,rfl⟩:=Int.eq_ofNat_of_zero_le a9
      exact hK' _ _ hO9 ⟨q+1,by omega,hD.step hR hO9,hO.trans hO9⟩ ⟨k,rfl,by omega⟩
     ·cases (show some _=some oq from hoq)
      have hK':=hK
      simp only [updV,Nat.reduceEqDiff,↓reduceIte] at hK'
      clear hK hd
      generalize sq 0=x0,sq 1=x1,sq 2=x2,sq 3=x3,sq 4=x4,sq 5=x5,sq 6=x6,sq 7=x7,sq 8=x8 at *
      go_simp
      exact hK' _ _ (Only.refl _ _) (by obtain ⟨q,hq,hD,hO⟩:=hJ;exact ⟨q,by omega,hD,hO⟩) rfl
     ·cases (show some _=some oq from hoq)
      have d7:=hd 7 (by kernel_rfl) (by decide)
      have hK':=hK
      simp only [updV,Nat.reduceEqDiff,↓reduceIte] at hK'
      clear hK hd
      generalize sq 0=x0,sq 1=x1,sq 2=x2,sq 3=x3,sq 4=x4,sq 5=x5,sq 6=x6,sq 7=x7,sq 8=x8 at *
      obtain rfl:=d7
      obtain ⟨q,hq,hD,hO⟩:=hJ
      go_simp
      refine (l91Input_any g q _ hD.1 (by omega)).mono ?_
      rintro e9 w9 ⟨x9,q9,rfl,hq9,hD9⟩
      exact hK' _ _ hD9.2 ⟨q9,by omega,hD.step hD9.1 hD9.2,hO.trans hD9.2⟩ ⟨x9,rfl⟩
    ·intro sq w' hJ hφ
     simp only [List.drop_succ_cons,List.drop_zero]
     have d1:=hφ 1 (by decide)
     have d6:=hφ 6 (by decide)
     have d8:=hφ 8 (by decide)
     clear hφ
     generalize sq 0=x0,sq 1=x1,sq 2=x2,sq 3=x3,sq 4=x4,sq 5=x5,sq 6=x6,sq 7=x7,sq 8=x8 at *
     obtain rfl:=d1
     obtain ⟨k,rfl,hk⟩:=d6
     obtain ⟨⟨s9,p9,z9⟩,rfl⟩:=d8
     obtain ⟨q9,hq9,hD9,hO9⟩:=hJ
     replace KX:=Lib.hid (KX.out.only hO9 hne)
     replace KR:=Lib.hid (KR.out.only hO9 hne1)
     replace HOI:=Lib.hid (HOI.out.onlyG hO9 (by omega))
     replace HOH:=Lib.hid (HOH.out.onlyG hO9 (by omega))
     replace HD:=Lib.hid hD9
     clear hD9 hO9
     obtain ⟨b,cur,rfl,hB,hbk,hnc,_,hs,ht⟩:=HOI.out.blk (Nat.lt_of_lt_of_le hn0 HOI.out.le)
     have hsz:k * 3+2<cur.size:=by omega
     have t0:w'.cell? ⟨b,k * 3,none⟩=some (cur[k * 3]'(by omega)):=by rw [hbk.cell,Array.getElem?_eq_getElem]
     have t1:w'.cell? ⟨b,k * 3+1,none⟩=some (cur[k * 3+1]'(by omega)):=by rw [hbk.cell,Array.getElem?_eq_getElem]
     have t2:w'.cell? ⟨b,k * 3+2,none⟩=some (cur[k * 3+2]'(by omega)):=by rw [hbk.cell,Array.getElem?_eq_getElem]
     have f0:=hbk.frozen (k * 3)
     have f1:=hbk.frozen (k * 3+1)
     have f2:=hbk.frozen (k * 3+2)
     generalize cur[k * 3]'(by omega)=t0v at t0
     generalize cur[k * 3+1]'(by omega)=t1v at t1
     generalize cur[k * 3+2]'(by omega)=t2v at t2
     have HBKB:=Lib.hid hbk
     have HPUT:=Lib.hid (HOI.out.put3 (x:=⟨s9,p9,z9⟩) (k:=k) (by rw [← HOI.out.lenN];exact hk))
     have hnb:w.heap.size≠b:=by omega
     have hnb1:w.heap.size+1≠b:=by omega
     have HO3:=Lib.hid ((((Only.refl b w').set_ (p:=⟨b,k * 3,none⟩) (.inl rfl) (.int .i64 s9)).set_ (p:=⟨b,k * 3+1,none⟩) (.inl rfl) (.int .i64 p9)).set_ (p:=⟨b,k * 3+2,none⟩) (.inl rfl) (.bool z9))
     clear hbk ht hs
     go_wp2_with fail
     go_meet
     exact ⟨q9,⟨lv,pl,sc,ins.set k ⟨s9,p9,z9⟩,hs,tag⟩,⟨_,n1,c1⟩,⟨A2,n2,c2⟩,by omega,((HD.out.set (a:=⟨b,k * 3,none⟩) (by show w.heap.size≤b;omega) hg _).set (a:=⟨b,k * 3+1,none⟩) (by show w.heap.size≤b;omega) hg _).set (a:=⟨b,k * 3+2,none⟩) (by show w.heap.size≤b;omega) hg _,KX.out.only HO3.out hnb,KR.out.only HO3.out hnb1,HPUT.out,HOH.out.onlyT HBKB.out (by decide) HO3.out,by simp only;omega,by simp only;omega⟩
  have h2':(v4 == 2)=false:=by simpa using e2
  by_cases e3:v4=3
  ·have h3':(v4 == 3)=true:=by simpa using e3
   clear e0 e1 e2 e3
   go_wp2_with fail
   refine (pick_any g 101 _ _ HD.out.1 (by omega)).mono ?_
   rintro e w5 ⟨v5,rfl,a5,b5,hR,hO⟩
   replace KX:=Lib.hid (KX.out.only hO hne)
   replace KR:=Lib.hid (KR.out.only hO hne1)
   replace HOI:=Lib.hid (HOI.out.onlyG hO (by omega))
   replace HOH:=Lib.hid (HOH.out.onlyG hO (by omega))
   replace HD:=Lib.hid (HD.out.step hR hO)
   clear hR hO
   have cx:=fun o=>KX.out.cell o
   have fx:=fun o=>KX.out.frozen o
   have zx:=KX.out.lt
   go_wp2_with fail
   go_meet
   exact ⟨p+2,⟨v5,pl,sc,ins,hs,tag⟩,⟨A1,n1,c1⟩,⟨A2,n2,c2⟩,by omega,HD.out.set (a:=⟨w.heap.size,0,none⟩) (Nat.le_refl _) hg _,KX.out.set_ 0 _,KR.out.far (p:=⟨w.heap.size,0,none⟩) (by simp) _,HOI.out.low (by omega),HOH.out.low (by omega),by simp only;omega,by simp only;omega⟩
  have h3':(v4 == 3)=false:=by simpa using e3
  by_cases e4:v4=4
  ·have h4':(v4 == 4)=true:=by simpa using e4
   clear e0 e1 e2 e3 e4
   go_wp2_with fail
   refine (pick_any g 12 _ _ HD.out.1 (by omega)).mono ?_
   rintro e w5 ⟨v5,rfl,a5,b5,hR,hO⟩
   replace KX:=Lib.hid (KX.out.only hO hne)
   replace KR:=Lib.hid (KR.out.only hO hne1)
   replace HOI:=Lib.hid (HOI.out.onlyG hO (by omega))
   replace HOH:=Lib.hid (HOH.out.onlyG hO (by omega))
   replace HD:=Lib.hid (HD.out.step hR hO)
   clear hR hO
   have cx:=fun o=>KX.out.cell o
   have fx:=fun o=>KX.out.frozen o
   have zx:=KX.out.lt
   go_wp2_with fail
   go_meet
   exact ⟨p+2,⟨lv,v5 - 1,sc,ins,hs,tag⟩,⟨A1,n1,c1⟩,⟨A2,n2,c2⟩,by omega,HD.out.set (a:=⟨w.heap.size,1,none⟩) (Nat.le_refl _) hg _,KX.out.set_ 1 _,KR.out.far (p:=⟨w.heap.size,1,none⟩) (by simp) _,HOI.out.low (by omega),HOH.out.low (by omega),by simp only;omega,by simp only;omega⟩
  have h4':(v4 == 4)=false:=by simpa using e4
  by_cases e5:v4=5
  ·have h5':(v4 == 5)=true:=by simpa using e5
   clear e0 e1 e2 e3 e4 e5
   go_wp2_with fail
   refine (pick_any g 100 _ _ HD.out.1 (by omega)).mono ?_
   rintro e w5 ⟨v5,rfl,a5,b5,hR,hO⟩
   replace KX:=Lib.hid (KX.out.only hO hne)
   replace KR:=Lib.hid (KR.out.only hO hne1)
   replace HOI:=Lib.hid (HOI.out.onlyG hO (by omega))
   replace HOH:=Lib.hid (HOH.out.onlyG hO (by omega))
   replace HD:=Lib.hid (HD.out.step hR hO)
   clear hR hO
   go_wp2_with fail
   refine (pick_any g 100 _ _ HD.out.1 (by omega)).mono ?_
   rintro e w6 ⟨v6,rfl,a6,b6,hR,hO⟩
   replace KX:=Lib.hid (KX.out.only hO hne)
   replace KR:=Lib.hid (KR.out.only hO hne1)
   replace HOI:=Lib.hid (HOI.out.onlyG hO (by omega))
   replace HOH:=Lib.hid (HOH.out.onlyG hO (by omega))
   replace HD:=Lib.hid (HD.out.step hR hO)
   clear hR hO
   have cx:=fun o=>KX.out.cell o
   have fx:=fun o=>KX.out.frozen o
   have zx:=KX.out.lt
   go_wp2_with fail
   go_meet
   exact ⟨p+3,⟨lv,pl,sc,ins,hs,10000 * v5+v6⟩,⟨A1,n1,c1⟩,⟨A2,n2,c2⟩,by omega,HD.out.set (a:=⟨w.heap.size,5,none⟩) (Nat.le_refl _) hg _,KX.out.set_ 5 _,KR.out.far (p:=⟨w.heap.size,5,none⟩) (by simp) _,HOI.out.low (by omega),HOH.out.low (by omega),by simp only;omega,by simp only;omega⟩
  have h5':(v4 == 5)=false:=by simpa using e5
  by_cases e6:v4=6
  ·have h6':(v4 == 6)=true:=by simpa using e6
   clear e0 e1 e2 e3 e4 e5 e6
   have hz4:w.heap.size+1<w4.heap.size:=KR.out.lt
   have cx:=fun o=>KX.out.cell o
   have fx:=fun o=>KX.out.frozen o
   have zx:=KX.out.lt
   go_upto_block 1 with (at_builtin;refine wpList_append_ow _ rfl (.tmp 71) (.tmp 73) _ rfl (w.heap.size+2) 74 j0 _ 3 24 (Qy.un Tryz.underlying30) HJ.out HJZ.out HJS.out HJB.out rfl (by omega) _ n1 c1 _ rfl (HOI.out.alloc _) _ 1 1 (cellsN [(⟨0,1,false⟩:Inp)]) rfl (Src.blk (Blk.new _ _ _) rfl) (cellsX_oneCell encIn_one _) (by unfold maxLen;omega) (by omega) (by simp;omega) ?_;intro A5 c5 w5 hown5 hg5 _;have HO5:=Lib.hid hown5;have HG5:=Lib.hid hg5;have KX5:=Lib.hid (show Blk w5 w.heap.size 33 (repC ⟨lv,pl,sc,ins,hs,tag⟩ ⟨A1,n1,c1⟩ ⟨A2,n2,c2⟩) from (hg5.block w.heap.size (by simp;omega) (fun h=>by have:=row_base HOI.out _ h.symm;omega)).trans (KX.out.alloc _));clear hown5 hg5;have k1:=fun o=>KX5.out.cell o;have k2:=fun o=>KX5.out.frozen o;have k3:=KX5.out.lt)
   have hgr:=HG5.out
   have hB5:Below (w.heap.size+2) w4 w5:=((Below.refl _ _).alloc (by omega) (.cells (encIn ⟨0,1,false⟩).toArray 74)).grown hgr (by simp;omega) (fun b hb=>row_base HOI.out b hb)
   have hD5:Dr w g (p+1) w5:=(HD.out.next (ba (Below.refl _ _):Below w4.heap.size w4 (w4.alloc (.cells (encIn ⟨0,1,false⟩).toArray 74)))).grown hg hgr (fun b hb=>by have:=row_base HOI.out b hb;omega)
   have hrow:Ow (w.heap.size+2) w5 74 3 A5 (n1+1) c5 (cellsN (ins ++ [⟨0,1,false⟩])):=by
    show Ow _ _ _ _ _ _ _ (cellsX encIn (ins ++ [⟨0,1,false⟩]))
    rw [cellsX_append]
    exact HO5.out
   have hOH5:Ow (w.heap.size+2) w5 3 1 A2 n2 c2 (cellsI hs):=(HOH.out.alloc _).keep fun b hb hc=>hgr.block b (((HOH.out.alloc _).lt hb hc).2) (fun h=>by
    obtain ⟨hx1,hx2⟩:=ownB_of h.symm
    obtain ⟨b1,cu1,hA1,_,hb1,_⟩:=(HOI.out.alloc (.cells (encIn ⟨0,1,false⟩).toArray 74)).blk hx2
    obtain ⟨b2,cu2,hA2,_,hb2,_⟩:=(HOH.out.alloc (.cells (encIn ⟨0,1,false⟩).toArray 74)).blk hc
    rw [hA1] at hx1
    rw [hA2] at hb
    injection hx1 with hx1
    injection hb with hb
    exact Blk.ne_ hb1 hb2 (by decide) (by rw [show b1=b from hx1,show b2=b from hb]))
   refine into_world (fun Y=>Dr w g (p+1) Y∧Blk Y w.heap.size 33 (repC ⟨lv,pl,sc,ins ++ [⟨0,1,false⟩],hs,tag⟩ ⟨A5,n1+1,c5⟩ ⟨A2,n2,c2⟩)∧Blk Y (w.heap.size+1) 33 (repC rep0 ⟨none,0,0⟩ ⟨none,0,0⟩)∧Ow (w.heap.size+2) Y 74 3 A5 (n1+1) c5 (cellsN (ins ++ [⟨0,1,false⟩]))∧Ow (w.heap.size+2) Y 3 1 A2 n2 c2 (cellsI hs)) ⟨hD5.set (a:=⟨w.heap.size,3,none⟩) (Nat.le_refl _) hg _,KX5.out.set_ 3 _,(KR.out.below hB5 (by omega)).far (p:=⟨w.heap.size,3,none⟩) (by simp) _,hrow.low (by omega),hOH5.low (by omega)⟩ ?_
   rintro U ⟨hD,hKX,hKR,hO,hO2⟩
   clear HD KX KR HOI HOH HO5 HG5 KX5 k1 k2 k3 cx fx zx hgr hB5 hD5 hrow hOH5
   go_wp2_with fail
   go_loopg [83] 20 (fun gg _ wr=>∃ (A:Option Addr) (n c:Nat) (zs:List Int),(n1+1) / 5 - n≤gg∧n≤60∧Hid (Dr w g (p+1) wr∧Blk wr w.heap.size 33 (repC ⟨lv,pl,sc,ins ++ [⟨0,1,false⟩],zs,tag⟩ ⟨A5,n1+1,c5⟩ ⟨A,n,c⟩)∧Blk wr (w.heap.size+1) 33 (repC rep0 ⟨none,0,0⟩ ⟨none,0,0⟩)∧Ow (w.heap.size+2) wr 74 3 A5 (n1+1) c5 (cellsN (ins ++ [⟨0,1,false⟩]))∧Ow (w.heap.size+2) wr 3 1 A n c (cellsI zs)))
   case atStart=>exact ⟨A2,n2,c2,hs,by omega,by omega,hD,hKX,hKR,hO,hO2⟩
   case round =>
    clear hD hKX hKR hO hO2
    obtain ⟨A,n,c,zs,hgg,hn60,HX⟩:=hrel
    obtain ⟨hD,hKX,hKR,hO,hO2⟩:=HX.out
    have HD:=Lib.hid hD
    have KX:=Lib.hid hKX
    have KR:=Lib.hid hKR
    have HOI:=Lib.hid hO
    have HOH:=Lib.hid hO2
    have hzr:w.heap.size+1<wr.heap.size:=hKR.lt
    clear hD hKX hKR hO hO2 HX
    have cx:=fun o=>KX.out.cell o
    have fx:=fun o=>KX.out.frozen o
    have zx:=KX.out.lt
    by_cases hlt:n<(n1+1) / 5
    ·have hlt':decide ((n:Int)<((n1:Int)+1) / 5)=true:=by simp;omega
     have hlti:(n:Int)<((n1:Int)+1) / 5:=by omega
     go_wp2_with (at_builtin;refine wpList_append_ow _ rfl (.tmp 85) (.tmp 86) _ rfl (w.heap.size+2) 3 i0 _ 1 8 (Qy.un Tryz.underlying31) HI.out HZ.out HS.out HBY.out rfl (by omega) _ n c _ rfl (HOH.out.alloc _) _ 1 1 (cellsI [5]) rfl (Src.blk (Blk.new _ _ _) rfl) (cellsI_one _) (by unfold maxLen;omega) (by omega) (by simp;omega) ?_;intro A7 c7 w7 hown7 hg7 _;have HO7:=Lib.hid hown7;have HG7:=Lib.hid hg7;have KX7:=Lib.hid (show Blk w7 w.heap.size 33 (repC ⟨lv,pl,sc,ins ++ [⟨0,1,false⟩],zs,tag⟩ ⟨A5,n1+1,c5⟩ ⟨A,n,c⟩) from (hg7.block w.heap.size (by simp;omega) (fun h=>by have:=row_base HOH.out _ h.symm;omega)).trans (KX.out.alloc _));clear hown7 hg7;have k1:=fun o=>KX7.out.cell o;have k2:=fun o=>KX7.out.frozen o;have k3:=KX7.out.lt)
     have hgr:=HG7.out
     have hB7:Below (w.heap.size+2) wr w7:=((Below.refl _ _).alloc (by omega) (.cells #[.int .i64 5] 3)).grown hgr (by simp;omega) (fun b hb=>row_base HOH.out b hb)
     have hD7:Dr w g (p+1) w7:=(HD.out.next (ba (Below.refl _ _):Below wr.heap.size wr (wr.alloc (.cells #[.int .i64 5] 3)))).grown hg hgr (fun b hb=>by have:=row_base HOH.out b hb;omega)
     have hrow:Ow (w.heap.size+2) w7 3 1 A7 (n+1) c7 (cellsI (zs ++ [5])):=by
      show Ow _ _ _ _ _ _ _ (List.map (Value.int .i64) (zs ++ [5]))
      rw [List.map_append]
      exact HO7.out
     have hOI7:Ow (w.heap.size+2) w7 74 3 A5 (n1+1) c5 (cellsN (ins ++ [⟨0,1,false⟩])):=(HOI.out.alloc _).keep fun b hb hc=>hgr.block b (((HOI.out.alloc _).lt hb hc).2) (fun h=>by
      obtain ⟨hx1,hx2⟩:=ownB_of h.symm
      obtain ⟨b1,cu1,hA1,_,hb1,_⟩:=(HOH.out.alloc (.cells #[.int .i64 5] 3)).blk hx2
      obtain ⟨b2,cu2,hA2,_,hb2,_⟩:=(HOI.out.alloc (.cells #[.int .i64 5] 3)).blk hc
      rw [hA1] at hx1
      rw [hA2] at hb
      injection hx1 with hx1
      injection hb with hb
      exact Blk.ne_ hb1 hb2 (by decide) (by rw [show b1=b from hx1,show b2=b from hb]))
     go_roundg ((n1+1) / 5 - (n+1))
     case measure=>omega
     case rel=>exact ⟨A7,n+1,c7,zs ++ [5],by omega,by omega,hD7.set (a:=⟨w.heap.size,4,none⟩) (Nat.le_refl _) hg _,KX7.out.set_ 4 _,(KR.out.below hB7 (by omega)).far (p:=⟨w.heap.size,4,none⟩) (by simp) _,hOI7.low (by omega),hrow.low (by omega)⟩
    ·have hlt':decide ((n:Int)<((n1:Int)+1) / 5)=false:=by simp;omega
     have hlti:¬ (n:Int)<((n1:Int)+1) / 5:=by omega
     go_wp2_with fail
     go_meet
     exact ⟨p+1,⟨lv,pl,sc,ins ++ [⟨0,1,false⟩],zs,tag⟩,⟨A5,n1+1,c5⟩,⟨A,n,c⟩,by omega,HD.out,KX.out,KR.out,HOI.out,HOH.out,by simp only;omega,by simp only;omega⟩
  have h6':(v4 == 6)=false:=by simpa using e6
  clear e0 e1 e2 e3 e4 e5 e6
  go_wp2_with fail
  go_meet
  exact ⟨p+1,⟨lv,pl,sc,ins,hs,tag⟩,⟨A1,n1,c1⟩,⟨A2,n2,c2⟩,by omega,HD.out,KX.out,KR.out,HOI.out,HOH.out,by simp only;omega,by simp only;omega⟩
end Go.Proofs.YtpcjdalgebgofaaGreatDoorY
namespace Go.Proofs.YtpcjdalgebgofaaGreatDoorY
open Go.RowKit Go.Sort
end Go.Proofs.YtpcjdalgebgofaaGreatDoorY
namespace Go.Proofs.YtpcjdalgebgofaaGreatDoorY
open Go.RowKit Go.Sort
def VrPost (w:World) (e:Ending) (w':World):Prop :=
 ∃ (l:Lvl) (ws gs:Sl) (key:Int) (r:Rep) (si sh:Sl),e=.returned (.tuple #[lvlV l ws gs,.int .i64 key,repV r si sh])∧RdL w' l ws gs∧RdR w' r si sh∧Below w.heap.size w w'
def VrInv (g X K:Nat) (w wx:World):Prop :=
 ∃ (q:Nat) (l:Lvl) (ws gs:Sl) (r:Rep) (si sh:Sl),q≤K∧Rdr wx g q∧Below w.heap.size w wx∧Blk wx w.heap.size 29 (lvlC lv0 ⟨none,0,0⟩ ⟨none,0,0⟩)∧Blk wx (w.heap.size+1) 33 (repC rep0 ⟨none,0,0⟩ ⟨none,0,0⟩)∧Blk wx X 29 (lvlC l ws gs)∧Blk wx (X+1) 33 (repC r si sh)∧OwLv (g+1) wx l ws gs∧OwRep wx r si sh
def VrG (g B:Nat) (a b:World):Prop :=
 Below a.heap.size a b∨(∃ cs,Blk a g 92 cs∧Only g a b)∨(∃ cs l ws gs,Blk a B 29 cs∧Only B a b∧Blk b B 29 (lvlC l ws gs)∧OwLw (g+1) b l ws gs)
section
variable {g B:Nat} {a b:World}
theorem OwLw.next {C:Nat} {w w':World} {l:Lvl} {ws gs:Sl} (h:OwLw C w l ws gs) (hb:Below w.heap.size w w'):OwLw C w' l ws gs:=⟨Ow.next h.1 hb,Ow.next h.2.1 hb,h.2.2⟩
theorem VrG.lw {l:Lvl} {ws gs:Sl} (h:VrG g B a b) (k:OwLw (g+1) a l ws gs):OwLw (g+1) b l ws gs:=by
 rcases h with h|⟨cs,h,ho⟩|⟨cs,_,_,_,h,ho,_⟩
 ·exact k.next h
 ·exact k.onlyT h (by decide) ho
 ·exact k.onlyT h (by decide) ho
theorem VrG.res (hne:B≠g) (h:VrG g B a b) (k:∃ l ws gs,Blk a B 29 (lvlC l ws gs)∧OwLw (g+1) a l ws gs):∃ l ws gs,Blk b B 29 (lvlC l ws gs)∧OwLw (g+1) b l ws gs:=by
 have h0:=h
 obtain ⟨l,ws,gs,k1,k2⟩:=k
 rcases h with h|⟨cs,h,ho⟩|⟨cs,l',ws',gs',h,ho,h3,h4⟩
 ·exact ⟨l,ws,gs,k1.next h,k2.next h⟩
 ·exact ⟨l,ws,gs,k1.only ho hne,VrG.lw h0 k2⟩
 ·exact ⟨l',ws',gs',h3,h4⟩
end
set_option maxRecDepth 100000 in
set_option maxHeartbeats 8000000 in
theorem drawVerifyReplay_any (A:Option Addr) (n c:Nat) (zs:List Int) (w:World) (hr:RdI .u8 w A n zs) (hz:∀ z ∈ zs,0≤z∧z≤255) (hn:n≤c) (hc:c≤maxLen) :
  Calls Qy.prog 9 #[.slice A n c] w (VrPost w):=by
 have HR:=Lib.hid hr
 have HZS:=Lib.hid hz
 clear hr hz
 go_enter Qy.func9,Tryz.ntmps9
 go_wp2_with fail
 refine (l6Open_any _ _ _ zs _ (HR.out.below (ba (ba (Below.refl _ _)))) HZS.out hn hc).mono ?_
 rintro e w1 ⟨g,rfl,hg,hR1,hb1⟩
 simp only [World.size_alloc] at hg
 have hgl:=hR1.lt
 have KA:=Lib.hid (((Blk.new w 29 (lvlC lv0 ⟨none,0,0⟩ ⟨none,0,0⟩)).alloc _).next hb1)
 have KB:=Lib.hid ((Blk.newAt _ 33 (repC rep0 ⟨none,0,0⟩ ⟨none,0,0⟩) (w.heap.size+1) (by simp)).next hb1)
 have HB:=Lib.hid (show Below w.heap.size w w1 from ba (ba hb1))
 have HR1:=Lib.hid hR1
 clear hb1 hR1
 go_wp2_with fail
 refine (l92Good_any g 0 _ HR1.out (by omega)).mono ?_
 rintro e w2 ⟨l,ws,gs,key,r,si,sh,q,rfl,hol,hor,h1,h2,hq,hD⟩
 have hz2:=hD.2.size
 replace HB:=Lib.hid (HB.out.trans (hD.2.below (by omega) HB.out.size))
 replace KA:=Lib.hid (KA.out.only hD.2 (by omega))
 replace KB:=Lib.hid (KB.out.only hD.2 (by omega))
 have HRD:=Lib.hid hD.1
 have HOR:=Lib.hid hor
 have HOL:=Lib.hid (hol.mono (show g+1≤w1.heap.size by omega))
 clear hD hor hol
 go_upto_region 3 with (fail)
 refine into_world (fun Y=>Rdr Y g q∧Below w.heap.size w Y∧Blk Y w.heap.size 29 (lvlC lv0 ⟨none,0,0⟩ ⟨none,0,0⟩)∧Blk Y (w.heap.size+1) 33 (repC rep0 ⟨none,0,0⟩ ⟨none,0,0⟩)∧Blk Y w2.heap.size 29 (lvlC l ws gs)∧Blk Y (w2.heap.size+1) 33 (repC r si sh)∧OwLv (g+1) Y l ws gs∧OwRep Y r si sh) ⟨(HRD.out.next (ba (Below.refl _ _))).next (ba (Below.refl _ _)),(HB.out.alloc HB.out.size _).alloc (by simp;have:=HB.out.size;omega) _,(KA.out.alloc _).alloc _,(KB.out.alloc _).alloc _,(Blk.new _ _ _).alloc _,Blk.newAt _ _ _ _ (by simp),(HOL.out.next (ba (Below.refl _ _))).next (ba (Below.refl _ _)),(HOR.out.next (ba (Below.refl _ _))).next (ba (Below.refl _ _))⟩ ?_
 clear HRD HB KA KB HOR HOL
 rintro Y ⟨HRD,HB,KA,KB,KL,KX,HOL,HOR⟩
 replace HRD:=Lib.hid HRD
 replace HB:=Lib.hid HB
 replace KA:=Lib.hid KA
 replace KB:=Lib.hid KB
 replace KL:=Lib.hid KL
 replace KX:=Lib.hid KX
 replace HOL:=Lib.hid HOL
 replace HOR:=Lib.hid HOR
 go_wp2_with fail
 refine (pick_any g 2 q _ HRD.out (by omega)).mono ?_
 rintro e w3 ⟨v,rfl,hv0,hv1,hR,hO⟩
 obtain ⟨X,hX⟩:∃ X,w2.heap.size=X:=⟨_,rfl⟩
 rw [hX] at KL KX hz2 ⊢
 clear hX
 have hwX:w.heap.size+1<X:=by have:=KB.out.lt;omega
 have hrb:∃ cs,Blk Y g 92 cs:=by
  obtain ⟨_,_,_,_,hbk,_⟩:=HRD.out
  exact ⟨_,hbk⟩
 obtain ⟨cs,hrb⟩:=hrb
 replace HOR:=Lib.hid (HOR.out.onlyT hrb (by decide) (by decide) hO)
 replace HOL:=Lib.hid (HOL.out.only hO (by omega))
 replace HRD:=Lib.hid hR
 replace HB:=Lib.hid (HB.out.trans (hO.below (by omega) HB.out.size))
 replace KA:=Lib.hid (KA.out.only hO (by omega))
 replace KB:=Lib.hid (KB.out.only hO (by omega))
 replace KL:=Lib.hid (KL.out.only hO (by omega))
 replace KX:=Lib.hid (KX.out.only hO (by omega))
 clear hR hO hrb
 go_upto_if 19 with (fail)
 go_cut [20] (fun _ wx=>Hid (VrInv g X 600000 w wx))
 case first =>
  by_cases hv:v=0
  ·subst hv
   have cx:=fun o=>KX.out.cell o
   have fx:=fun o=>KX.out.frozen o
   have zx:=KX.out.lt
   go_wp2_with fail
   refine (l92Lie_any g (q+1) key r si sh _ HRD.out (by omega) HOR.out.rd h1 h2).mono ?_
   clear HOR cx fx zx h1 h2
   rintro e w4 ⟨r,si,sh,q4,rfl,hor,h1,h2,hq4,hD⟩
   have HOR:=Lib.hid hor
   replace HB:=Lib.hid (HB.out.trans (hD.2.below (by omega) HB.out.size))
   replace KA:=Lib.hid (KA.out.only hD.2 (by omega))
   replace KB:=Lib.hid (KB.out.only hD.2 (by omega))
   replace KL:=Lib.hid (KL.out.only hD.2 (by omega))
   replace KX:=Lib.hid (KX.out.only hD.2 (by omega))
   replace HOL:=Lib.hid (HOL.out.only hD.2 (by omega))
   replace HRD:=Lib.hid hD.1
   clear hor hD
   have HX6:=Lib.hid (only6' (q:=X+1) (.inl rfl) (Only.refl (X+1) w4) (.int .i64 r.lv) (.int .i64 r.pl) (.int .i64 r.sc) (.slice si.a si.n si.c) (.slice sh.a sh.n sh.c) (.int .i64 r.tag))
   have cx:=fun o=>KX.out.cell o
   have fx:=fun o=>KX.out.frozen o
   have zx:=KX.out.lt
   go_wp2_with fail
   go_meet
   exact ⟨q4,l,ws,gs,r,si,sh,by omega,HRD.out.only HX6.out (by omega),HB.out.trans (HX6.out.below (by omega) HB.out.size),KA.out.only HX6.out (by omega),KB.out.only HX6.out (by omega),KL.out.only HX6.out (by omega),KX.out.all6 _ _ _ _ _ _,HOL.out.onlyT KX.out (by decide) HX6.out,HOR.out.onlyT KX.out (by decide) (by decide) HX6.out⟩
  ·have hv':(v == 0)=false:=by simp [hv]
   go_wp2_with fail
   go_meet
   exact ⟨q+1,l,ws,gs,r,si,sh,by omega,HRD.out,HB.out,KA.out,KB.out,KL.out,KX.out,HOL.out,HOR.out⟩
 case rest =>
  clear HRD HB KA KB KL KX HOL HOR hq h1 h2 hv0
  obtain ⟨q,l,ws,gs,r,si,sh,hq,HRD,HB,KA,KB,KL,KX,HOL,HOR⟩:=hcut.out
  clear hcut
  replace HRD:=Lib.hid HRD
  replace HB:=Lib.hid HB
  replace KA:=Lib.hid KA
  replace KB:=Lib.hid KB
  replace KL:=Lib.hid KL
  replace KX:=Lib.hid KX
  replace HOL:=Lib.hid HOL
  replace HOR:=Lib.hid HOR
  go_wp2_with fail
  refine (pick_any g 10 q _ HRD.out (by omega)).mono ?_
  rintro e Y ⟨v,rfl,hv0,hv1,hR,hO⟩
  have hrb:∃ cs,Blk wc g 92 cs:=by
   obtain ⟨_,_,_,_,hbk,_⟩:=HRD.out
   exact ⟨_,hbk⟩
  obtain ⟨cs,hrb⟩:=hrb
  replace HOR:=Lib.hid (HOR.out.onlyT hrb (by decide) (by decide) hO)
  replace HOL:=Lib.hid (HOL.out.only hO (by omega))
  replace HRD:=Lib.hid hR
  replace HB:=Lib.hid (HB.out.trans (hO.below (by omega) HB.out.size))
  replace KA:=Lib.hid (KA.out.only hO (by omega))
  replace KB:=Lib.hid (KB.out.only hO (by omega))
  replace KL:=Lib.hid (KL.out.only hO (by omega))
  replace KX:=Lib.hid (KX.out.only hO (by omega))
  clear hR hO hrb
  go_upto_if 26 with (fail)
  go_cut [7,27] (fun s _ wx=>∃ key,s=.int .i64 key∧Hid (VrInv g X 700000 w wx))
  case first =>
   by_cases hv:v=0
   ·subst hv
    go_wp2_with fail
    refine (l91Key_any g (q+1) _ HRD.out (by omega)).mono ?_
    rintro e Z ⟨key,q',rfl,hq',hR,hO⟩
    have hrb:∃ cs,Blk Y g 92 cs:=by
     obtain ⟨_,_,_,_,hbk,_⟩:=HRD.out
     exact ⟨_,hbk⟩
    obtain ⟨cs,hrb⟩:=hrb
    replace HOR:=Lib.hid (HOR.out.onlyT hrb (by decide) (by decide) hO)
    replace HOL:=Lib.hid (HOL.out.only hO (by omega))
    replace HRD:=Lib.hid hR
    replace HB:=Lib.hid (HB.out.trans (hO.below (by omega) HB.out.size))
    replace KA:=Lib.hid (KA.out.only hO (by omega))
    replace KB:=Lib.hid (KB.out.only hO (by omega))
    replace KL:=Lib.hid (KL.out.only hO (by omega))
    replace KX:=Lib.hid (KX.out.only hO (by omega))
    clear hR hO hrb
    go_wp2_with fail
    go_meet
    exact ⟨_,rfl,q',l,ws,gs,r,si,sh,by omega,HRD.out,HB.out,KA.out,KB.out,KL.out,KX.out,HOL.out,HOR.out⟩
   ·have hv':(v == 0)=false:=by simp [hv]
    go_wp2_with fail
    go_meet
    exact ⟨_,rfl,q+1,l,ws,gs,r,si,sh,by omega,HRD.out,HB.out,KA.out,KB.out,KL.out,KX.out,HOL.out,HOR.out⟩
  case rest =>
   clear HRD HB KA KB KL KX HOL HOR hq hv0
   obtain ⟨key,rfl,HH⟩:=hcut
   obtain ⟨q,l,ws,gs,r,si,sh,hq,HRD,HB,KA,KB,KL,KX,HOL,HOR⟩:=HH.out
   clear HH
   replace HRD:=Lib.hid HRD
   replace HB:=Lib.hid HB
   replace KA:=Lib.hid KA
   replace KB:=Lib.hid KB
   replace KL:=Lib.hid KL
   replace KX:=Lib.hid KX
   replace HOL:=Lib.hid HOL
   replace HOR:=Lib.hid HOR
   have hne:w.heap.size≠g:=by omega
   have hdw:Below wc.heap.size wc wc.drew:=⟨rfl,rfl,rfl,Nat.le_refl _,fun _ _=>rfl⟩
   go_upto_region 7 with (fail)
   refine wp_region_growl 7 (by kernel_rfl) (by kernel_rfl) (by kernel_rfl) (fun a b=>VrG g w.heap.size a b) (fun lq w'=>(lq 2=false→Rdr w' g q)∧Below w.heap.size w w'∧(lq 5=false→Blk w' w.heap.size 29 (lvlC lv0 ⟨none,0,0⟩ ⟨none,0,0⟩))∧Blk w' (w.heap.size+1) 33 (repC rep0 ⟨none,0,0⟩ ⟨none,0,0⟩)∧Blk w' X 29 (lvlC l ws gs)∧Blk w' (X+1) 33 (repC r si sh)∧OwLv (g+1) w' l ws gs∧OwRep w' r si sh) (fun iq v w'=>match iq with|0=>(v=.pointer (some ⟨g,0,none⟩))|1=>(v=lvlV l ws gs)|2=>(∃ l' ws' gs',v=lvlV l' ws' gs'∧OwLw (g+1) w' l' ws' gs')|3=>(v=.int .i64 key)|4=>(v=repV r si sh)|5=>(∃ l' ws' gs',Blk w' w.heap.size 29 (lvlC l' ws' gs')∧OwLw (g+1) w' l' ws' gs')|6=>(v=.int .i64 key)|_=>True) (fun sq=>{ tmps:=#[Value.slice A n c,undef,Value.pointer (some (⟨w.heap.size,0,none⟩:Addr)),sq 6,Value.pointer (some (⟨w.heap.size+1,0,none⟩:Addr)),Value.pointer (some (⟨g,0,none⟩:Addr)),Value.pointer (some (⟨X,0,none⟩:Addr)),Value.int .i64 key,Value.pointer (some (⟨X+1,0,none⟩:Addr)),u9,u10,u11,u12,u13,u14,u15,u16,u17,u18,u19,u20,u21,u22,u23,u24,u25,u26,u27,u28,sq 0,sq 1,sq 2,sq 3,sq 4],defers:=[] }) (fun j=>match j with|0=>u29|1=>u30|2=>u31|3=>u32|4=>u33|5=>undef|6=>Value.int .i64 0|_=>undef) ?_ ?_ ?_ ?_
   ·rintro iq v a b hg h
    match iq,h with
    | 0,h=>exact h
    | 1,h=>exact h
    | 2,h=>exact (by obtain ⟨l',ws',gs',rfl,h1⟩:=h;exact ⟨l',ws',gs',rfl,VrG.lw hg h1⟩)
    | 3,h=>exact h
    | 4,h=>exact h
    | 5,h=>exact (VrG.res hne hg h)
    | 6,h=>exact h
    | (kq+7),_=>exact trivial
   ·exact ⟨fun _=>HRD.out.next hdw,HB.out.drew,fun _=>KA.out.drew,KB.out.drew,KL.out.drew,KX.out.drew,HOL.out.next hdw,HOR.out.next hdw⟩
   ·intro lq sq w' iq oq hmq hiq hoq hJ hd Kq hK
    have hiq':iq=0∨iq=1∨iq=2∨iq=3∨iq=4∨iq=5∨iq=6:=by omega
    rcases hiq' with rfl|rfl|rfl|rfl|rfl|rfl|rfl
    ·cases (show some _=some oq from hoq)
     have hK':=hK
     simp only [updV,updB,Nat.reduceEqDiff,↓reduceIte] at hK'
     clear hK hd
     generalize sq 0=x0,sq 1=x1,sq 2=x2,sq 3=x3,sq 4=x4,sq 5=x5,sq 6=x6 at *
     go_simp
     exact hK' _ _ (.inl (Below.refl _ _)) hJ rfl
    ·cases (show some _=some oq from hoq)
     have hK':=hK
     simp only [updV,updB,Nat.reduceEqDiff,↓reduceIte] at hK'
     clear hK hd
     generalize sq 0=x0,sq 1=x1,sq 2=x2,sq 3=x3,sq 4=x4,sq 5=x5,sq 6=x6 at *
     have hcc:=fun o=>hJ.2.2.2.2.1.cell o
     go_simp
     exact hK' _ _ (.inl (Below.refl _ _)) hJ rfl
    ·cases (show some _=some oq from hoq)
     obtain ⟨e0,d0⟩:=hd 0 (by kernel_rfl) (by decide)
     obtain ⟨e1,d1⟩:=hd 1 (by kernel_rfl) (by decide)
     have hK':=hK
     simp only [updV,updB,Nat.reduceEqDiff,↓reduceIte] at hK'
     clear hK hd
     generalize sq 0=x0,sq 1=x1,sq 2=x2,sq 3=x3,sq 4=x4,sq 5=x5,sq 6=x6 at *
     obtain rfl:=d0
     obtain rfl:=d1
     obtain ⟨hR,hB,hA,hKB,hKL,hKX,hL,hO⟩:=hJ
     replace hR:=hR hmq
     go_simp
     refine (l91Bent_any g q (g+1) l ws gs _ hR (by omega) hL (by omega) (by have:=hR.lt;omega)).mono ?_
     rintro e w5 ⟨l',ws',gs',q5,rfl,hol,hq5,hD⟩
     obtain ⟨cs,hrb⟩:∃ cs,Blk w' g 92 cs:=by obtain ⟨_,_,_,_,hbk,_⟩:=hR;exact ⟨_,hbk⟩
     have hz:=hB.size
     exact hK' _ _ (.inr (.inl ⟨cs,hrb,hD.2⟩)) ⟨(fun h=>by cases h),hB.trans (hD.2.below (by omega) hz),fun h5=>(hA h5).only hD.2 (by omega),hKB.only hD.2 (by omega),hKL.only hD.2 (by omega),hKX.only hD.2 (by omega),hL.only hD.2 (by omega),hO.onlyT hrb (by decide) (by decide) hD.2⟩ ⟨l',ws',gs',rfl,hol⟩
    ·cases (show some _=some oq from hoq)
     have hK':=hK
     simp only [updV,updB,Nat.reduceEqDiff,↓reduceIte] at hK'
     clear hK hd
     generalize sq 0=x0,sq 1=x1,sq 2=x2,sq 3=x3,sq 4=x4,sq 5=x5,sq 6=x6 at *
     go_simp
     exact hK' _ _ (.inl (Below.refl _ _)) hJ rfl
    ·cases (show some _=some oq from hoq)
     have hK':=hK
     simp only [updV,updB,Nat.reduceEqDiff,↓reduceIte] at hK'
     clear hK hd
     generalize sq 0=x0,sq 1=x1,sq 2=x2,sq 3=x3,sq 4=x4,sq 5=x5,sq 6=x6 at *
     have hcc:=fun o=>hJ.2.2.2.2.2.1.cell o
     go_simp
     exact hK' _ _ (.inl (Below.refl _ _)) hJ rfl
    ·cases (show some _=some oq from hoq)
     obtain ⟨e2,d2⟩:=hd 2 (by kernel_rfl) (by decide)
     have hK':=hK
     simp only [updV,updB,Nat.reduceEqDiff,↓reduceIte] at hK'
     clear hK hd
     generalize sq 0=x0,sq 1=x1,sq 2=x2,sq 3=x3,sq 4=x4,sq 5=x5,sq 6=x6 at *
     obtain ⟨l',ws',gs',rfl,hlw⟩:=d2
     obtain ⟨_,hB,hA,hKB,hKL,hKX,hL,hO⟩:=hJ
     have hA0:=hA hmq
     have hos:Only w.heap.size w' (w'.setCells w.heap.size 0 (lvlC l' ws' gs').toList):=onlySets (.inl rfl) _ 0 _ (Only.refl _ _)
     have hbk:Blk (w'.setCells w.heap.size 0 (lvlC l' ws' gs').toList) w.heap.size 29 (lvlC l' ws' gs'):=setLv hA0
     have hlw2:=hlw.onlyT hA0 (by decide) hos
     have hcc:=fun o=>hA0.cell o
     have hff:=fun o=>hA0.frozen o
     have hlt:=hA0.lt
     go_simp
     exact hK' undef _ (.inr (.inr ⟨_,l',ws',gs',hA0,hos,hbk,hlw2⟩)) ⟨(fun h=>by rw [e2] at h;cases h),hB.trans (hos.below (Nat.le_refl _) hB.size),(fun h=>by cases h),hKB.only hos (by omega),hKL.only hos (by omega),hKX.only hos (by omega),hL.onlyT hA0 (by decide) hos,hO.onlyT hA0 (by decide) (by decide) hos⟩ ⟨l',ws',gs',hbk,hlw2⟩
    ·cases (show some _=some oq from hoq)
     obtain ⟨e3,d3⟩:=hd 3 (by kernel_rfl) (by decide)
     have hK':=hK
     simp only [updV,updB,Nat.reduceEqDiff,↓reduceIte] at hK'
     clear hK hd
     generalize sq 0=x0,sq 1=x1,sq 2=x2,sq 3=x3,sq 4=x4,sq 5=x5,sq 6=x6 at *
     obtain rfl:=d3
     go_simp
     exact hK' _ _ (.inl (Below.refl _ _)) hJ rfl
   ·intro sq w' hJ hφ
    simp only [List.drop_succ_cons,List.drop_zero]
    have d4:=hφ 4 (by decide)
    have d5:=hφ 5 (by decide)
    have d6:=hφ 6 (by decide)
    clear hφ
    generalize sq 0=x0,sq 1=x1,sq 2=x2,sq 3=x3,sq 4=x4,sq 5=x5,sq 6=x6 at *
    obtain rfl:=d4
    obtain rfl:=d6
    obtain ⟨l',ws',gs',hA,hlw⟩:=d5
    obtain ⟨_,_,_,hB,_,hKB,_,_,_,hO⟩:=hJ
    have HX6:=Lib.hid (only6' (q:=w.heap.size+1) (.inl rfl) (Only.refl (w.heap.size+1) w') (.int .i64 r.lv) (.int .i64 r.pl) (.int .i64 r.sc) (.slice si.a si.n si.c) (.slice sh.a sh.n sh.c) (.int .i64 r.tag))
    have KB3:=Lib.hid (hKB.all6 (.int .i64 r.lv) (.int .i64 r.pl) (.int .i64 r.sc) (.slice si.a si.n si.c) (.slice sh.a sh.n sh.c) (.int .i64 r.tag))
    have HOR3:=Lib.hid (hO.onlyT hKB (by decide) (by decide) HX6.out)
    have HOL3:=Lib.hid (hlw.onlyT hKB (by decide) HX6.out)
    have KA3:=Lib.hid (hA.only HX6.out (by omega))
    have HB3:=Lib.hid (hB.trans (HX6.out.below (Nat.le_succ _) hB.size))
    have cb:=fun o=>hKB.cell o
    have fb:=fun o=>hKB.frozen o
    have zb:=hKB.lt
    clear hB hKB hO hlw hA
    go_wp2_with fail
    obtain ⟨V,hV⟩:∃ V,((((((w'.setCell ⟨w.heap.size+1,0,none⟩ (.int .i64 r.lv)).setCell ⟨w.heap.size+1,1,none⟩ (.int .i64 r.pl)).setCell ⟨w.heap.size+1,2,none⟩ (.int .i64 r.sc)).setCell ⟨w.heap.size+1,3,none⟩ (.slice si.a si.n si.c)).setCell ⟨w.heap.size+1,4,none⟩ (.slice sh.a sh.n sh.c)).setCell ⟨w.heap.size+1,5,none⟩ (.int .i64 r.tag))=V:=⟨_,rfl⟩
    rw [hV] at KA3 KB3 HOR3 HOL3 HB3 ⊢
    have ca3:=fun o=>KA3.out.cell o
    have cb3:=fun o=>KB3.out.cell o
    refine bodyPost_ret (v:=.tuple #[lvlV l' ws' gs',.int .i64 key,repV r si sh]) (by simp [results,Tryz.results9,go_sem,ca3,cb3]) rfl ?_
    exact ⟨l',ws',gs',key,r,si,sh,rfl,HOL3.out.rd,HOR3.out.rd,HB3.out⟩
end Go.Proofs.YtpcjdalgebgofaaGreatDoorY

/-
  Lemmas and contracts: YEo YEs. No condition.
-/
import Derived.Deep.CutBlock
import Derived.Test.YtpcjdalgebgofaaGreatDoorKa27
set_option linter.unusedSimpArgs false
set_option linter.unusedVariables false
set_option linter.unusedSectionVars false
namespace Go.Proofs.YtpcjdalgebgofaaGreatDoorY
open Go.RowKit Go.Sort
def VecPost (g p K:Nat) (w:World) (e:Ending) (w':World):Prop:=∃ (a b:Int) (q:Nat),e=.returned (.agg #[.int .i64 a,.int .i64 b])∧q≤p+K∧Dr w g q w'
theorem four_get {w:World} {b:Nat} {z0 z1 z2 z3 v:Int} (h:Blk w b 3 #[.int .i64 z0,.int .i64 z1,.int .i64 z2,.int .i64 z3]) (h0:0≤v) (h1:v<4):∃ u:Int,w.cell? ⟨b,v.toNat,none⟩=some (.int .i64 u):=by
 rw [h.cell]
 have:v=0∨v=1∨v=2∨v=3:=by omega
 rcases this with rfl|rfl|rfl|rfl <;> exact ⟨_,rfl⟩
set_option maxRecDepth 100000 in
set_option maxHeartbeats 8000000 in
theorem l91Vec_any (g p:Nat) (w:World) (h:Rdr w g p) (hp:p≤10000000) :
  Calls Qy.prog 64 #[.pointer (some ⟨g,0,none⟩)] w (VecPost g p 8 w):=by
 have hg:=h.lt
 have hne:w.heap.size≠g:=by omega
 have HD:=Lib.hid (show Dr w g p (w.alloc (.cells #[.int .i64 0,.int .i64 0] 24)) from Dr.next ⟨h,Only.refl _ _⟩ (ba (Below.refl _ _)))
 have KR:=Lib.hid (Blk.new w 24 #[.int .i64 0,.int .i64 0])
 clear h
 go_enter Qy.func64,Tryz.ntmps64
 go_wp2_with fail
 refine (pick_any g 100 _ _ (HD.out.next (Below.refl _ _)).1 (by omega)).mono ?_
 rintro e w1 ⟨v1,rfl,a1,b1,hR,hO⟩
 have c1:=b1 (by omega)
 replace HD:=Lib.hid ((HD.out.next (Below.refl _ _)).step hR hO)
 replace KR:=Lib.hid ((KR.out.next (Below.refl _ _)).only hO hne)
 have hs1:=hO.size
 try simp only [World.size_alloc] at hs1
 clear b1 hR hO
 go_wp2_with fail
 refine (pick_any g 100 _ _ (HD.out.next (Below.refl _ _)).1 (by omega)).mono ?_
 rintro e w2 ⟨v2,rfl,a2,b2,hR,hO⟩
 have c2:=b2 (by omega)
 replace HD:=Lib.hid ((HD.out.next (Below.refl _ _)).step hR hO)
 replace KR:=Lib.hid ((KR.out.next (Below.refl _ _)).only hO hne)
 have hs2:=hO.size
 try simp only [World.size_alloc] at hs2
 clear b2 hR hO
 go_wp2_with fail
 refine (pick_any g 2 _ _ (HD.out.next (Below.refl _ _)).1 (by omega)).mono ?_
 rintro e w3 ⟨v3,rfl,a3,b3,hR,hO⟩
 have c3:=b3 (by omega)
 replace HD:=Lib.hid ((HD.out.next (Below.refl _ _)).step hR hO)
 replace KR:=Lib.hid ((KR.out.next (Below.refl _ _)).only hO hne)
 have hs3:=hO.size
 try simp only [World.size_alloc] at hs3
 clear b3 hR hO
 go_wp2_with fail
 refine (pick_any g 100 _ _ (HD.out.next (Below.refl _ _)).1 (by omega)).mono ?_
 rintro e w4 ⟨v4,rfl,a4,b4,hR,hO⟩
 have c4:=b4 (by omega)
 replace HD:=Lib.hid ((HD.out.next (Below.refl _ _)).step hR hO)
 replace KR:=Lib.hid ((KR.out.next (Below.refl _ _)).only hO hne)
 have hs4:=hO.size
 try simp only [World.size_alloc] at hs4
 clear b4 hR hO
 go_wp2_with fail
 refine (pick_any g 100 _ _ (HD.out.next (Below.refl _ _)).1 (by omega)).mono ?_
 rintro e w5 ⟨v5,rfl,a5,b5,hR,hO⟩
 have c5:=b5 (by omega)
 replace HD:=Lib.hid ((HD.out.next (Below.refl _ _)).step hR hO)
 replace KR:=Lib.hid ((KR.out.next (Below.refl _ _)).only hO hne)
 have hs5:=hO.size
 try simp only [World.size_alloc] at hs5
 clear b5 hR hO
 go_wp2_with fail
 refine (pick_any g 2 _ _ (HD.out.next (Below.refl _ _)).1 (by omega)).mono ?_
 rintro e w6 ⟨v6,rfl,a6,b6,hR,hO⟩
 have c6:=b6 (by omega)
 replace HD:=Lib.hid ((HD.out.next (Below.refl _ _)).step hR hO)
 replace KR:=Lib.hid ((KR.out.next (Below.refl _ _)).only hO hne)
 have hs6:=hO.size
 try simp only [World.size_alloc] at hs6
 clear b6 hR hO
 go_upto_region 2 with (fail)
 refine into_world (fun Y=>Dr w g (p+6) Y∧Blk Y w.heap.size 24 #[.int .i64 0,.int .i64 0]∧∃ a b:Int,Blk Y w6.heap.size 24 #[.int .i64 a,.int .i64 b]) ⟨HD.out.next (ba (Below.refl _ _)),KR.out.alloc _,_,_,Blk.new _ _ _⟩ ?_
 rintro W ⟨hD,hKR,av,bv,hKL⟩
 have hneL:w6.heap.size≠g:=by omega
 have hneR:w.heap.size≠w6.heap.size:=by omega
 replace HD:=Lib.hid hD
 replace KR:=Lib.hid hKR
 have KL:=Lib.hid hKL
 clear hD hKR hKL a1 c1 a2 c2 a3 c3 a4 c4 a5 c5 a6 c6
 go_wp2_with fail
 refine (pick_any g 20 _ _ HD.out.1 (by omega)).mono ?_
 rintro e w8 ⟨v7,rfl,a7,b7,hR,hO⟩
 replace HD:=Lib.hid (HD.out.step hR hO)
 replace KR:=Lib.hid (KR.out.only hO hne)
 replace KL:=Lib.hid (KL.out.only hO hneL)
 have hs8:=HD.out.2.size
 clear b7 hR hO
 by_cases h0:v7=0
 ·have h0':(v7 == 0)=true:=by simpa using h0
  clear h0
  have hW:Below w8.heap.size w8 (w8.alloc (.cells #[.int .i64 1000000,.int .i64 (-1000000),.int .i64 1000001,.int .i64 999999] 3)):=ba (Below.refl _ _)
  have HL:=Lib.hid (Blk.new w8 3 #[.int .i64 1000000,.int .i64 (-1000000),.int .i64 1000001,.int .i64 999999])
  have hn8:w8.heap.size≠g:=by have:=HD.out.1.lt;omega
  replace HD:=Lib.hid (HD.out.next hW)
  replace KR:=Lib.hid (KR.out.next hW)
  replace KL:=Lib.hid (KL.out.next hW)
  clear hW
  go_wp2_with fail
  refine (pick_any g 4 _ _ HD.out.1 (by omega)).mono ?_
  rintro e w9 ⟨v9,rfl,a9,b9,hR,hO⟩
  have c9:=b9 (by omega)
  replace HD:=Lib.hid (HD.out.step hR hO)
  replace KR:=Lib.hid (KR.out.only hO hne)
  replace KL:=Lib.hid (KL.out.only hO hneL)
  obtain ⟨u,hu⟩:=four_get (HL.out.only hO hn8) a9 c9
  clear b9 hR hO HL
  have cl:=fun o=>KL.out.cell o
  have fl:=fun o=>KL.out.frozen o
  have zl:=KL.out.lt
  go_upto_region 9 with (fail)
  refine into_world (fun Y=>Dr w g (p+8) Y∧Blk Y w.heap.size 24 #[.int .i64 0,.int .i64 0]∧∃ a b:Int,Blk Y w6.heap.size 24 #[.int .i64 a,.int .i64 b]) ⟨(HD.out.set (by simp;omega) hg _).mono (by omega),KR.out.far (p:=⟨w6.heap.size,0,none⟩) hneR _,_,_,KL.out.set_ 0 _⟩ ?_
  rintro Y ⟨hD,hKR,a',b',hKL⟩
  replace HD:=Lib.hid hD
  replace KR:=Lib.hid hKR
  replace KL:=Lib.hid hKL
  clear hD hKR hKL cl fl zl
  have cl:=fun o=>KL.out.cell o
  have fl:=fun o=>KL.out.frozen o
  have zl:=KL.out.lt
  have cr:=fun o=>KR.out.cell o
  have fr:=fun o=>KR.out.frozen o
  have zr:=KR.out.lt
  go_wp2_with fail
  refine bodyPost_ret (v:=.agg #[.int .i64 a',.int .i64 b']) (by simp [results,Tryz.results64,go_sem,cr]) rfl ?_
  exact ⟨a',b',p+8,rfl,by omega,(HD.out.set (by simp) hg _).set (by simp) hg _⟩
 have h0':(v7 == 0)=false:=by simpa using h0
 by_cases h1:v7=1
 ·have h1':(v7 == 1)=true:=by simpa using h1
  clear h0 h1
  have hW:Below w8.heap.size w8 (w8.alloc (.cells #[.int .i64 1000000,.int .i64 (-1000000),.int .i64 (-1000001),.int .i64 999999] 3)):=ba (Below.refl _ _)
  have HL:=Lib.hid (Blk.new w8 3 #[.int .i64 1000000,.int .i64 (-1000000),.int .i64 (-1000001),.int .i64 999999])
  have hn8:w8.heap.size≠g:=by have:=HD.out.1.lt;omega
  replace HD:=Lib.hid (HD.out.next hW)
  replace KR:=Lib.hid (KR.out.next hW)
  replace KL:=Lib.hid (KL.out.next hW)
  clear hW
  go_wp2_with fail
  refine (pick_any g 4 _ _ HD.out.1 (by omega)).mono ?_
  rintro e w9 ⟨v9,rfl,a9,b9,hR,hO⟩
  have c9:=b9 (by omega)
  replace HD:=Lib.hid (HD.out.step hR hO)
  replace KR:=Lib.hid (KR.out.only hO hne)
  replace KL:=Lib.hid (KL.out.only hO hneL)
  obtain ⟨u,hu⟩:=four_get (HL.out.only hO hn8) a9 c9
  clear b9 hR hO HL
  have cl:=fun o=>KL.out.cell o
  have fl:=fun o=>KL.out.frozen o
  have zl:=KL.out.lt
  go_upto_region 9 with (fail)
  refine into_world (fun Y=>Dr w g (p+8) Y∧Blk Y w.heap.size 24 #[.int .i64 0,.int .i64 0]∧∃ a b:Int,Blk Y w6.heap.size 24 #[.int .i64 a,.int .i64 b]) ⟨(HD.out.set (by simp;omega) hg _).mono (by omega),KR.out.far (p:=⟨w6.heap.size,1,none⟩) hneR _,_,_,KL.out.set_ 1 _⟩ ?_
  rintro Y ⟨hD,hKR,a',b',hKL⟩
  replace HD:=Lib.hid hD
  replace KR:=Lib.hid hKR
  replace KL:=Lib.hid hKL
  clear hD hKR hKL cl fl zl
  have cl:=fun o=>KL.out.cell o
  have fl:=fun o=>KL.out.frozen o
  have zl:=KL.out.lt
  have cr:=fun o=>KR.out.cell o
  have fr:=fun o=>KR.out.frozen o
  have zr:=KR.out.lt
  go_wp2_with fail
  refine bodyPost_ret (v:=.agg #[.int .i64 a',.int .i64 b']) (by simp [results,Tryz.results64,go_sem,cr]) rfl ?_
  exact ⟨a',b',p+8,rfl,by omega,(HD.out.set (by simp) hg _).set (by simp) hg _⟩
 have h1':(v7 == 1)=false:=by simpa using h1
 by_cases h2:v7=2
 ·have h2':(v7 == 2)=true:=by simpa using h2
  clear h0 h1 h2
  have cl:=fun o=>KL.out.cell o
  have fl:=fun o=>KL.out.frozen o
  have zl:=KL.out.lt
  go_upto_region 9 with (fail)
  refine into_world (fun Y=>Dr w g (p+7) Y∧Blk Y w.heap.size 24 #[.int .i64 0,.int .i64 0]∧Blk Y w6.heap.size 24 #[.int .i64 0,.int .i64 0]) ⟨(HD.out.set (by simp;omega) hg _).set (by simp;omega) hg _,(KR.out.far (p:=⟨w6.heap.size,0,none⟩) hneR _).far (p:=⟨w6.heap.size,1,none⟩) hneR _,(KL.out.set_ 0 _).set_ 1 _⟩ ?_
  rintro Y ⟨hD,hKR,hKL⟩
  replace HD:=Lib.hid hD
  replace KR:=Lib.hid hKR
  replace KL:=Lib.hid hKL
  clear hD hKR hKL cl fl zl
  have cl:=fun o=>KL.out.cell o
  have fl:=fun o=>KL.out.frozen o
  have zl:=KL.out.lt
  have cr:=fun o=>KR.out.cell o
  have fr:=fun o=>KR.out.frozen o
  have zr:=KR.out.lt
  go_wp2_with fail
  refine bodyPost_ret (v:=.agg #[.int .i64 0,.int .i64 0]) (by simp [results,Tryz.results64,go_sem,cr]) rfl ?_
  exact ⟨0,0,p+7,rfl,by omega,(HD.out.set (by simp) hg _).set (by simp) hg _⟩
 have h2':(v7 == 2)=false:=by simpa using h2
 clear h0 h1 h2
 have cl:=fun o=>KL.out.cell o
 have fl:=fun o=>KL.out.frozen o
 have zl:=KL.out.lt
 have cr:=fun o=>KR.out.cell o
 have fr:=fun o=>KR.out.frozen o
 have zr:=KR.out.lt
 go_wp2_with fail
 refine bodyPost_ret (v:=.agg #[.int .i64 av,.int .i64 bv]) (by simp [results,Tryz.results64,go_sem,cr]) rfl ?_
 exact ⟨av,bv,p+7,rfl,by omega,(HD.out.set (by simp) hg _).set (by simp) hg _⟩
def BoxPost (g p K:Nat) (w:World) (e:Ending) (w':World):Prop:=∃ (b:Bx) (q:Nat),e=.returned (.agg #[.int .i64 b.1,.int .i64 b.2.1,.int .i64 b.2.2.1,.int .i64 b.2.2.2])∧q≤p+K∧Dr w g q w'
set_option maxRecDepth 100000 in
set_option maxHeartbeats 8000000 in
theorem l91Box_any (g p:Nat) (w:World) (h:Rdr w g p) (hp:p≤1000000) :
  Calls Qy.prog 65 #[.pointer (some ⟨g,0,none⟩)] w (BoxPost g p 40 w):=by
 have hg:=h.lt
 have hne:w.heap.size≠g:=by omega
 have HD:=Lib.hid (show Dr w g p (w.alloc (.cells #[.int .i64 0,.int .i64 0,.int .i64 0,.int .i64 0] 27)) from Dr.next ⟨h,Only.refl _ _⟩ (ba (Below.refl _ _)))
 have KR:=Lib.hid (Blk.new w 27 #[.int .i64 0,.int .i64 0,.int .i64 0,.int .i64 0])
 clear h
 go_enter Qy.func65,Tryz.ntmps65
 go_wp2_with fail
 refine (l91Vec_any g _ _ HD.out.1 (by omega)).mono ?_
 rintro e w1 ⟨a1,b1,q1,rfl,hq1,hD1⟩
 replace KR:=Lib.hid (KR.out.only hD1.2 hne)
 have hs1:=hD1.2.size
 simp only [World.size_alloc] at hs1
 replace HD:=Lib.hid (HD.out.step hD1.1 hD1.2)
 clear hD1
 go_upto_region 2 with (fail)
 refine into_world (fun W=>Dr w g q1 W∧Blk W w.heap.size 27 #[.int .i64 0,.int .i64 0,.int .i64 0,.int .i64 0]∧Blk W w1.heap.size 24 #[.int .i64 a1,.int .i64 b1]) ⟨HD.out.next (ba (Below.refl _ _)),KR.out.alloc _,Blk.new _ _ _⟩ ?_
 rintro W ⟨hD,hKR,hKV⟩
 have hneV:w1.heap.size≠g:=by omega
 replace HD:=Lib.hid hD
 replace KR:=Lib.hid hKR
 have KV:=Lib.hid hKV
 clear hD hKR hKV
 have hgW:=HD.out.1.lt
 have hWw:=HD.out.2.size
 have hwW:=KR.out.lt
 refine wp_region_grow 16 (by kernel_rfl) (by kernel_rfl) (by kernel_rfl) (fun a b=>Only g a b) (fun mq w'=>∃ q,q≤p+8+mq∧Dr w g q w'∧Only g W w') (fun iq v w'=>match iq with|0=>(∃ a b:Int,v=.agg #[.int .i64 a,.int .i64 b])|1=>(v=.pointer (some ⟨w1.heap.size,0,none⟩))|2=>(∃ z:Int,v=.int .i64 z)|3=>(v=.pointer (some ⟨g,0,none⟩))|4=>(∃ z:Int,v=.int .i64 z)|5=>(∃ z:Int,v=.int .i64 z)|6=>(∃ z:Int,v=.int .i64 z)|7=>(v=.pointer (some ⟨w1.heap.size,1,none⟩))|8=>(∃ z:Int,v=.int .i64 z)|9=>(v=.pointer (some ⟨g,0,none⟩))|10=>(∃ z:Int,v=.int .i64 z)|11=>(∃ z:Int,v=.int .i64 z)|12=>(∃ z:Int,v=.int .i64 z)|13=>(∃ a b:Int,v=.agg #[.int .i64 a,.int .i64 b])|14=>(∃ b:Bx,v=.agg #[.int .i64 b.1,.int .i64 b.2.1,.int .i64 b.2.2.1,.int .i64 b.2.2.2])|15=>(∃ e:Nat,v=.pointer (some ⟨e,0,none⟩)∧W.heap.size≤e∧Blk w' e 27 #[.int .i64 0,.int .i64 0,.int .i64 0,.int .i64 0])|_=>True) (fun sq=>{ tmps:=#[Value.pointer (some (⟨g,0,none⟩:Addr)),undef,Value.pointer (some (⟨w.heap.size,0,none⟩:Addr)),Value.pointer (some (⟨w1.heap.size,0,none⟩:Addr)),sq 15,Value.pointer (some (⟨g,0,none⟩:Addr)),Value.agg #[Value.int .i64 a1,Value.int .i64 b1],sq 0,sq 1,sq 2,sq 3,sq 4,sq 5,sq 6,sq 7,sq 8,sq 9,sq 10,sq 11,sq 12,sq 13,sq 14,undef,undef,undef,undef,undef,undef,undef,undef,undef,undef,undef,undef],defers:=[] }) (fun _=>undef) ?_ ?_ ?_ ?_
 ·rintro iq v a b hg h
  match iq,h with
  | 0,h=>exact h
  | 1,h=>exact h
  | 2,h=>exact h
  | 3,h=>exact h
  | 4,h=>exact h
  | 5,h=>exact h
  | 6,h=>exact h
  | 7,h=>exact h
  | 8,h=>exact h
  | 9,h=>exact h
  | 10,h=>exact h
  | 11,h=>exact h
  | 12,h=>exact h
  | 13,h=>exact h
  | 14,h=>exact h
  | 15,h=>exact (by obtain ⟨e,rfl,h1,h2⟩:=h;exact ⟨e,rfl,h1,h2.only hg (by omega)⟩)
  | (kq+16),_=>exact trivial
 ·exact ⟨q1,by omega,HD.out.next ⟨rfl,rfl,rfl,Nat.le_refl _,fun _ _=>rfl⟩,(show Only g W W.drew from ⟨rfl,rfl,rfl,Nat.le_refl _,fun _ _ _=>rfl⟩)⟩
 ·intro mq sq w' iq oq hmq hiq hoq hJ hd Kq hK
  have hiq':iq=0∨iq=1∨iq=2∨iq=3∨iq=4∨iq=5∨iq=6∨iq=7∨iq=8∨iq=9∨iq=10∨iq=11∨iq=12∨iq=13∨iq=14∨iq=15:=by omega
  rcases hiq' with rfl|rfl|rfl|rfl|rfl|rfl|rfl|rfl|rfl|rfl|rfl|rfl|rfl|rfl|rfl|rfl
  ·cases (show some _=some oq from hoq)
   have hK':=hK
   simp only [updV,Nat.reduceEqDiff,↓reduceIte] at hK'
   clear hK hd
   generalize sq 0=x0,sq 1=x1,sq 2=x2,sq 3=x3,sq 4=x4,sq 5=x5,sq 6=x6,sq 7=x7,sq 8=x8,sq 9=x9,sq 10=x10,sq 11=x11,sq 12=x12,sq 13=x13,sq 14=x14,sq 15=x15 at *
   have hcc:=fun o=>(KV.out.only (by obtain ⟨q,hq,hD,hO⟩:=hJ;exact hO) hneV).cell o
   go_simp
   exact hK' _ _ (Only.refl _ _) (by obtain ⟨q,hq,hD,hO⟩:=hJ;exact ⟨q,by omega,hD,hO⟩) ⟨_,_,rfl⟩
  ·cases (show some _=some oq from hoq)
   have hK':=hK
   simp only [updV,Nat.reduceEqDiff,↓reduceIte] at hK'
   clear hK hd
   generalize sq 0=x0,sq 1=x1,sq 2=x2,sq 3=x3,sq 4=x4,sq 5=x5,sq 6=x6,sq 7=x7,sq 8=x8,sq 9=x9,sq 10=x10,sq 11=x11,sq 12=x12,sq 13=x13,sq 14=x14,sq 15=x15 at *
   go_simp
   exact hK' _ _ (Only.refl _ _) (by obtain ⟨q,hq,hD,hO⟩:=hJ;exact ⟨q,by omega,hD,hO⟩) rfl
  ·cases (show some _=some oq from hoq)
   have d1:=hd 1 (by kernel_rfl) (by decide)
   have hK':=hK
   simp only [updV,Nat.reduceEqDiff,↓reduceIte] at hK'
   clear hK hd
   generalize sq 0=x0,sq 1=x1,sq 2=x2,sq 3=x3,sq 4=x4,sq 5=x5,sq 6=x6,sq 7=x7,sq 8=x8,sq 9=x9,sq 10=x10,sq 11=x11,sq 12=x12,sq 13=x13,sq 14=x14,sq 15=x15 at *
   obtain rfl:=d1
   have hcc:=(KV.out.only (by obtain ⟨q,hq,hD,hO⟩:=hJ;exact hO) hneV).cell 0
   go_simp
   exact hK' _ _ (Only.refl _ _) (by obtain ⟨q,hq,hD,hO⟩:=hJ;exact ⟨q,by omega,hD,hO⟩) ⟨_,rfl⟩
  ·cases (show some _=some oq from hoq)
   have hK':=hK
   simp only [updV,Nat.reduceEqDiff,↓reduceIte] at hK'
   clear hK hd
   generalize sq 0=x0,sq 1=x1,sq 2=x2,sq 3=x3,sq 4=x4,sq 5=x5,sq 6=x6,sq 7=x7,sq 8=x8,sq 9=x9,sq 10=x10,sq 11=x11,sq 12=x12,sq 13=x13,sq 14=x14,sq 15=x15 at *
   go_simp
   exact hK' _ _ (Only.refl _ _) (by obtain ⟨q,hq,hD,hO⟩:=hJ;exact ⟨q,by omega,hD,hO⟩) rfl
  ·cases (show some _=some oq from hoq)
   have d3:=hd 3 (by kernel_rfl) (by decide)
   have hK':=hK
   simp only [updV,Nat.reduceEqDiff,↓reduceIte] at hK'
   clear hK hd
   generalize sq 0=x0,sq 1=x1,sq 2=x2,sq 3=x3,sq 4=x4,sq 5=x5,sq 6=x6,sq 7=x7,sq 8=x8,sq 9=x9,sq 10=x10,sq 11=x11,sq 12=x12,sq 13=x13,sq 14=x14,sq 15=x15 at *
   obtain rfl:=d3
   go_simp
   obtain ⟨q,hq,hD,hO⟩:=hJ
   refine (pick_any g 50 q _ hD.1 (by omega)).mono ?_
   rintro e w2 ⟨u,rfl,a9,b9,hR,hO2⟩
   exact hK' _ _ hO2 ⟨q+1,by omega,hD.step hR hO2,hO.trans hO2⟩ ⟨_,rfl⟩
  ·cases (show some _=some oq from hoq)
   have d4:=hd 4 (by kernel_rfl) (by decide)
   have hK':=hK
   simp only [updV,Nat.reduceEqDiff,↓reduceIte] at hK'
   clear hK hd
   generalize sq 0=x0,sq 1=x1,sq 2=x2,sq 3=x3,sq 4=x4,sq 5=x5,sq 6=x6,sq 7=x7,sq 8=x8,sq 9=x9,sq 10=x10,sq 11=x11,sq 12=x12,sq 13=x13,sq 14=x14,sq 15=x15 at *
   obtain ⟨z4,rfl⟩:=d4
   go_simp
   exact hK' _ _ (Only.refl _ _) (by obtain ⟨q,hq,hD,hO⟩:=hJ;exact ⟨q,by omega,hD,hO⟩) ⟨_,rfl⟩
  ·cases (show some _=some oq from hoq)
   have d2:=hd 2 (by kernel_rfl) (by decide)
   have d5:=hd 5 (by kernel_rfl) (by decide)
   have hK':=hK
   simp only [updV,Nat.reduceEqDiff,↓reduceIte] at hK'
   clear hK hd
   generalize sq 0=x0,sq 1=x1,sq 2=x2,sq 3=x3,sq 4=x4,sq 5=x5,sq 6=x6,sq 7=x7,sq 8=x8,sq 9=x9,sq 10=x10,sq 11=x11,sq 12=x12,sq 13=x13,sq 14=x14,sq 15=x15 at *
   obtain ⟨z2,rfl⟩:=d2
   obtain ⟨z5,rfl⟩:=d5
   go_simp
   exact hK' _ _ (Only.refl _ _) (by obtain ⟨q,hq,hD,hO⟩:=hJ;exact ⟨q,by omega,hD,hO⟩) ⟨_,rfl⟩
  ·cases (show some _=some oq from hoq)
   have hK':=hK
   simp only [updV,Nat.reduceEqDiff,↓reduceIte] at hK'
   clear hK hd
   generalize sq 0=x0,sq 1=x1,sq 2=x2,sq 3=x3,sq 4=x4,sq 5=x5,sq 6=x6,sq 7=x7,sq 8=x8,sq 9=x9,sq 10=x10,sq 11=x11,sq 12=x12,sq 13=x13,sq 14=x14,sq 15=x15 at *
   go_simp
   exact hK' _ _ (Only.refl _ _) (by obtain ⟨q,hq,hD,hO⟩:=hJ;exact ⟨q,by omega,hD,hO⟩) rfl
  ·cases (show some _=some oq from hoq)
   have d7:=hd 7 (by kernel_rfl) (by decide)
   have hK':=hK
   simp only [updV,Nat.reduceEqDiff,↓reduceIte] at hK'
   clear hK hd
   generalize sq 0=x0,sq 1=x1,sq 2=x2,sq 3=x3,sq 4=x4,sq 5=x5,sq 6=x6,sq 7=x7,sq 8=x8,sq 9=x9,sq 10=x10,sq 11=x11,sq 12=x12,sq 13=x13,sq 14=x14,sq 15=x15 at *
   obtain rfl:=d7
   have hcc:=(KV.out.only (by obtain ⟨q,hq,hD,hO⟩:=hJ;exact hO) hneV).cell 1
   go_simp
   exact hK' _ _ (Only.refl _ _) (by obtain ⟨q,hq,hD,hO⟩:=hJ;exact ⟨q,by omega,hD,hO⟩) ⟨_,rfl⟩
  ·cases (show some _=some oq from hoq)
   have hK':=hK
   simp only [updV,Nat.reduceEqDiff,↓reduceIte] at hK'
   clear hK hd
   generalize sq 0=x0,sq 1=x1,sq 2=x2,sq 3=x3,sq 4=x4,sq 5=x5,sq 6=x6,sq 7=x7,sq 8=x8,sq 9=x9,sq 10=x10,sq 11=x11,sq 12=x12,sq 13=x13,sq 14=x14,sq 15=x15 at *
   go_simp
   exact hK' _ _ (Only.refl _ _) (by obtain ⟨q,hq,hD,hO⟩:=hJ;exact ⟨q,by omega,hD,hO⟩) rfl
  ·cases (show some _=some oq from hoq)
   have d9:=hd 9 (by kernel_rfl) (by decide)
   have hK':=hK
   simp only [updV,Nat.reduceEqDiff,↓reduceIte] at hK'
   clear hK hd
   generalize sq 0=x0,sq 1=x1,sq 2=x2,sq 3=x3,sq 4=x4,sq 5=x5,sq 6=x6,sq 7=x7,sq 8=x8,sq 9=x9,sq 10=x10,sq 11=x11,sq 12=x12,sq 13=x13,sq 14=x14,sq 15=x15 at *
   obtain rfl:=d9
   go_simp
   obtain ⟨q,hq,hD,hO⟩:=hJ
   refine (pick_any g 50 q _ hD.1 (by omega)).mono ?_
   rintro e w2 ⟨u,rfl,a9,b9,hR,hO2⟩
   exact hK' _ _ hO2 ⟨q+1,by omega,hD.step hR hO2,hO.trans hO2⟩ ⟨_,rfl⟩
  ·cases (show some _=some oq from hoq)
   have d10:=hd 10 (by kernel_rfl) (by decide)
   have hK':=hK
   simp only [updV,Nat.reduceEqDiff,↓reduceIte] at hK'
   clear hK hd
   generalize sq 0=x0,sq 1=x1,sq 2=x2,sq 3=x3,sq 4=x4,sq 5=x5,sq 6=x6,sq 7=x7,sq 8=x8,sq 9=x9,sq 10=x10,sq 11=x11,sq 12=x12,sq 13=x13,sq 14=x14,sq 15=x15 at *
   obtain ⟨z10,rfl⟩:=d10
   go_simp
   exact hK' _ _ (Only.refl _ _) (by obtain ⟨q,hq,hD,hO⟩:=hJ;exact ⟨q,by omega,hD,hO⟩) ⟨_,rfl⟩
  ·cases (show some _=some oq from hoq)
   have d8:=hd 8 (by kernel_rfl) (by decide)
   have d11:=hd 11 (by kernel_rfl) (by decide)
   have hK':=hK
   simp only [updV,Nat.reduceEqDiff,↓reduceIte] at hK'
   clear hK hd
   generalize sq 0=x0,sq 1=x1,sq 2=x2,sq 3=x3,sq 4=x4,sq 5=x5,sq 6=x6,sq 7=x7,sq 8=x8,sq 9=x9,sq 10=x10,sq 11=x11,sq 12=x12,sq 13=x13,sq 14=x14,sq 15=x15 at *
   obtain ⟨z8,rfl⟩:=d8
   obtain ⟨z11,rfl⟩:=d11
   go_simp
   exact hK' _ _ (Only.refl _ _) (by obtain ⟨q,hq,hD,hO⟩:=hJ;exact ⟨q,by omega,hD,hO⟩) ⟨_,rfl⟩
  ·cases (show some _=some oq from hoq)
   have d6:=hd 6 (by kernel_rfl) (by decide)
   have d12:=hd 12 (by kernel_rfl) (by decide)
   have hK':=hK
   simp only [updV,Nat.reduceEqDiff,↓reduceIte] at hK'
   clear hK hd
   generalize sq 0=x0,sq 1=x1,sq 2=x2,sq 3=x3,sq 4=x4,sq 5=x5,sq 6=x6,sq 7=x7,sq 8=x8,sq 9=x9,sq 10=x10,sq 11=x11,sq 12=x12,sq 13=x13,sq 14=x14,sq 15=x15 at *
   obtain ⟨z6,rfl⟩:=d6
   obtain ⟨z12,rfl⟩:=d12
   go_simp
   exact hK' _ _ (Only.refl _ _) (by obtain ⟨q,hq,hD,hO⟩:=hJ;exact ⟨q,by omega,hD,hO⟩) ⟨_,_,rfl⟩
  ·cases (show some _=some oq from hoq)
   have d0:=hd 0 (by kernel_rfl) (by decide)
   have d13:=hd 13 (by kernel_rfl) (by decide)
   have hK':=hK
   simp only [updV,Nat.reduceEqDiff,↓reduceIte] at hK'
   clear hK hd
   generalize sq 0=x0,sq 1=x1,sq 2=x2,sq 3=x3,sq 4=x4,sq 5=x5,sq 6=x6,sq 7=x7,sq 8=x8,sq 9=x9,sq 10=x10,sq 11=x11,sq 12=x12,sq 13=x13,sq 14=x14,sq 15=x15 at *
   obtain ⟨x0,y0,rfl⟩:=d0
   obtain ⟨x13,y13,rfl⟩:=d13
   go_simp
   exact hK' _ _ (Only.refl _ _) (by obtain ⟨q,hq,hD,hO⟩:=hJ;exact ⟨q,by omega,hD,hO⟩) ⟨(_,_,_,_),rfl⟩
  ·cases (show some _=some oq from hoq)
   have hK':=hK
   simp only [updV,Nat.reduceEqDiff,↓reduceIte] at hK'
   clear hK hd
   generalize sq 0=x0,sq 1=x1,sq 2=x2,sq 3=x3,sq 4=x4,sq 5=x5,sq 6=x6,sq 7=x7,sq 8=x8,sq 9=x9,sq 10=x10,sq 11=x11,sq 12=x12,sq 13=x13,sq 14=x14,sq 15=x15 at *
   go_simp
   obtain ⟨q,hq,hD,hO⟩:=hJ
   exact hK' _ _ (Only.of_below (ba (Below.refl _ _)) g) ⟨q,by omega,hD.next (ba (Below.refl _ _)),hO.next (ba (Below.refl _ _))⟩ ⟨_,rfl,hO.size,Blk.new _ _ _⟩
 ·intro sq w' hJ hφ
  simp only [List.drop_succ_cons,List.drop_zero]
  have d14:=hφ 14 (by decide)
  have d15:=hφ 15 (by decide)
  clear hφ
  generalize sq 0=x0,sq 1=x1,sq 2=x2,sq 3=x3,sq 4=x4,sq 5=x5,sq 6=x6,sq 7=x7,sq 8=x8,sq 9=x9,sq 10=x10,sq 11=x11,sq 12=x12,sq 13=x13,sq 14=x14,sq 15=x15 at *
  obtain ⟨q2,hq2,hD,hO⟩:=hJ
  obtain ⟨bx,rfl⟩:=d14
  obtain ⟨L,rfl,hL,hKL⟩:=d15
  have hneL:L≠g:=by omega
  have hneR:w.heap.size≠L:=by omega
  replace HD:=Lib.hid hD
  replace KR:=Lib.hid (KR.out.only hO hne)
  have KL:=Lib.hid hKL
  clear hD hO hKL
  have cl:=fun o=>KL.out.cell o
  have fl:=fun o=>KL.out.frozen o
  have zl:=KL.out.lt
  go_upto_region 3 with (fail)
  refine into_world (fun Y=>Dr w g q2 Y∧Blk Y w.heap.size 27 #[.int .i64 0,.int .i64 0,.int .i64 0,.int .i64 0]∧Blk Y L 27 #[.int .i64 bx.1,.int .i64 bx.2.1,.int .i64 bx.2.2.1,.int .i64 bx.2.2.2]) ⟨(((HD.out.set (by simp;omega) hg _).set (by simp;omega) hg _).set (by simp;omega) hg _).set (by simp;omega) hg _,(((KR.out.far (p:=⟨L,0,none⟩) hneR _).far (p:=⟨L,1,none⟩) hneR _).far (p:=⟨L,2,none⟩) hneR _).far (p:=⟨L,3,none⟩) hneR _,(((KL.out.set_ 0 _).set_ 1 _).set_ 2 _).set_ 3 _⟩ ?_
  rintro Y ⟨hD,hKR,hKL⟩
  replace HD:=Lib.hid hD
  replace KR:=Lib.hid hKR
  replace KL:=Lib.hid hKL
  clear hD hKR hKL cl fl zl
  go_wp2_with fail
  refine (pick_any g 16 _ _ HD.out.1 (by omega)).mono ?_
  rintro e w8 ⟨v7,rfl,a7,b7,hR,hO⟩
  replace HD:=Lib.hid (HD.out.step hR hO)
  replace KR:=Lib.hid (KR.out.only hO hne)
  replace KL:=Lib.hid (KL.out.only hO hneL)
  clear b7 hR hO
  by_cases h0:v7=0
  rotate_left
  ·have h0':(v7 == 0)=false:=by simpa using h0
   clear h0
   have cl:=fun o=>KL.out.cell o
   have fl:=fun o=>KL.out.frozen o
   have zl:=KL.out.lt
   have cr:=fun o=>KR.out.cell o
   have fr:=fun o=>KR.out.frozen o
   have zr:=KR.out.lt
   go_wp2_with fail
   refine bodyPost_ret (v:=.agg #[.int .i64 bx.1,.int .i64 bx.2.1,.int .i64 bx.2.2.1,.int .i64 bx.2.2.2]) (by simp [results,Tryz.results65,go_sem,cr]) rfl ?_
   exact ⟨bx,q2+1,rfl,by omega,(((HD.out.set (by simp) hg _).set (by simp) hg _).set (by simp) hg _).set (by simp) hg _⟩
  have h0':(v7 == 0)=true:=by simpa using h0
  clear h0
  go_upto_region 4 with (fail)
  refine wp_region_grow 6 (by kernel_rfl) (by kernel_rfl) (by kernel_rfl) (fun a b=>Only g a b) (fun mq w'=>∃ q,q≤p+26+mq∧Dr w g q w'∧Only g w8 w') (fun iq v w'=>match iq with|0=>(v=.pointer (some ⟨L,0,none⟩))|1=>(v=.pointer (some ⟨L,0,none⟩))|2=>(∃ z:Int,v=.int .i64 z)|3=>(v=.pointer (some ⟨g,0,none⟩))|4=>(∃ z:Int,v=.int .i64 z)|5=>(∃ z:Int,v=.int .i64 z)|_=>True) (fun sq=>{ tmps:=#[Value.pointer (some (⟨g,0,none⟩:Addr)),undef,Value.pointer (some (⟨w.heap.size,0,none⟩:Addr)),Value.pointer (some (⟨w1.heap.size,0,none⟩:Addr)),Value.pointer (some (⟨L,0,none⟩:Addr)),Value.pointer (some (⟨g,0,none⟩:Addr)),Value.agg #[Value.int .i64 a1,Value.int .i64 b1],x0,x1,x2,x3,x4,x5,x6,x7,x8,x9,x10,x11,x12,x13,Value.agg #[Value.int .i64 bx.fst,Value.int .i64 bx.snd.fst,Value.int .i64 bx.snd.snd.fst,Value.int .i64 bx.snd.snd.snd],Value.pointer (some (⟨g,0,none⟩:Addr)),Value.int .i64 v7,Value.bool true,sq 0,sq 1,sq 2,sq 3,sq 4,sq 5,undef,undef,undef],defers:=[] }) (fun _=>undef) ?_ ?_ ?_ ?_
  ·rintro iq v a b hg h
   match iq,h with
   | 0,h=>exact h
   | 1,h=>exact h
   | 2,h=>exact h
   | 3,h=>exact h
   | 4,h=>exact h
   | 5,h=>exact h
   | (kq+6),_=>exact trivial
  ·exact ⟨_,by omega,HD.out.next ⟨rfl,rfl,rfl,Nat.le_refl _,fun _ _=>rfl⟩,(show Only g w8 w8.drew from ⟨rfl,rfl,rfl,Nat.le_refl _,fun _ _ _=>rfl⟩)⟩
  ·intro mq sq w' iq oq hmq hiq hoq hJ hd Kq hK
   have hiq':iq=0∨iq=1∨iq=2∨iq=3∨iq=4∨iq=5:=by omega
   rcases hiq' with rfl|rfl|rfl|rfl|rfl|rfl
   ·cases (show some _=some oq from hoq)
    have hK':=hK
    simp only [updV,Nat.reduceEqDiff,↓reduceIte] at hK'
    clear hK hd
    generalize sq 0=x0,sq 1=x1,sq 2=x2,sq 3=x3,sq 4=x4,sq 5=x5 at *
    go_simp
    exact hK' _ _ (Only.refl _ _) (by obtain ⟨q,hq,hD,hO⟩:=hJ;exact ⟨q,by omega,hD,hO⟩) rfl
   ·cases (show some _=some oq from hoq)
    have d0:=hd 0 (by kernel_rfl) (by decide)
    have hK':=hK
    simp only [updV,Nat.reduceEqDiff,↓reduceIte] at hK'
    clear hK hd
    generalize sq 0=x0,sq 1=x1,sq 2=x2,sq 3=x3,sq 4=x4,sq 5=x5 at *
    obtain rfl:=d0
    go_simp
    exact hK' _ _ (Only.refl _ _) (by obtain ⟨q,hq,hD,hO⟩:=hJ;exact ⟨q,by omega,hD,hO⟩) rfl
   ·cases (show some _=some oq from hoq)
    have d1:=hd 1 (by kernel_rfl) (by decide)
    have hK':=hK
    simp only [updV,Nat.reduceEqDiff,↓reduceIte] at hK'
    clear hK hd
    generalize sq 0=x0,sq 1=x1,sq 2=x2,sq 3=x3,sq 4=x4,sq 5=x5 at *
    obtain rfl:=d1
    have hcc:=(KL.out.only (by obtain ⟨q,hq,hD,hO⟩:=hJ;exact hO) hneL).cell 0
    go_simp
    exact hK' _ _ (Only.refl _ _) (by obtain ⟨q,hq,hD,hO⟩:=hJ;exact ⟨q,by omega,hD,hO⟩) ⟨_,rfl⟩
   ·cases (show some _=some oq from hoq)
    have hK':=hK
    simp only [updV,Nat.reduceEqDiff,↓reduceIte] at hK'
    clear hK hd
    generalize sq 0=x0,sq 1=x1,sq 2=x2,sq 3=x3,sq 4=x4,sq 5=x5 at *
    go_simp
    exact hK' _ _ (Only.refl _ _) (by obtain ⟨q,hq,hD,hO⟩:=hJ;exact ⟨q,by omega,hD,hO⟩) rfl
   ·cases (show some _=some oq from hoq)
    have d3:=hd 3 (by kernel_rfl) (by decide)
    have hK':=hK
    simp only [updV,Nat.reduceEqDiff,↓reduceIte] at hK'
    clear hK hd
    generalize sq 0=x0,sq 1=x1,sq 2=x2,sq 3=x3,sq 4=x4,sq 5=x5 at *
    obtain rfl:=d3
    go_simp
    obtain ⟨q,hq,hD,hO⟩:=hJ
    refine (pick_any g 3 q _ hD.1 (by omega)).mono ?_
    rintro e w2 ⟨u,rfl,a9,b9,hR,hO2⟩
    exact hK' _ _ hO2 ⟨q+1,by omega,hD.step hR hO2,hO.trans hO2⟩ ⟨_,rfl⟩
   ·cases (show some _=some oq from hoq)
    have d2:=hd 2 (by kernel_rfl) (by decide)
    have d4:=hd 4 (by kernel_rfl) (by decide)
    have hK':=hK
    simp only [updV,Nat.reduceEqDiff,↓reduceIte] at hK'
    clear hK hd
    generalize sq 0=x0,sq 1=x1,sq 2=x2,sq 3=x3,sq 4=x4,sq 5=x5 at *
    obtain ⟨z2,rfl⟩:=d2
    obtain ⟨z4,rfl⟩:=d4
    go_simp
    exact hK' _ _ (Only.refl _ _) (by obtain ⟨q,hq,hD,hO⟩:=hJ;exact ⟨q,by omega,hD,hO⟩) ⟨_,rfl⟩
  ·intro sq w' hJ hφ
   simp only [List.drop_succ_cons,List.drop_zero]
   have d5:=hφ 5 (by decide)
   clear hφ
   generalize sq 0=x0,sq 1=x1,sq 2=x2,sq 3=x3,sq 4=x4,sq 5=x5 at *
   obtain ⟨q3,hq3,hD,hO⟩:=hJ
   obtain ⟨zz,rfl⟩:=d5
   replace HD:=Lib.hid hD
   replace KR:=Lib.hid (KR.out.only hO hne)
   replace KL:=Lib.hid (KL.out.only hO hneL)
   clear hD hO
   have cl:=fun o=>KL.out.cell o
   have fl:=fun o=>KL.out.frozen o
   have zl:=KL.out.lt
   go_upto_region 5 with (fail)
   refine into_world (fun Y=>Dr w g q3 Y∧Blk Y w.heap.size 27 #[.int .i64 0,.int .i64 0,.int .i64 0,.int .i64 0]∧Blk Y L 27 #[.int .i64 bx.1,.int .i64 bx.2.1,.int .i64 zz,.int .i64 bx.2.2.2]) ⟨HD.out.set (by simp;omega) hg _,KR.out.far (p:=⟨L,2,none⟩) hneR _,KL.out.set_ 2 _⟩ ?_
   rintro Y2 ⟨hD,hKR,hKL⟩
   replace HD:=Lib.hid hD
   replace KR:=Lib.hid hKR
   replace KL:=Lib.hid hKL
   clear hD hKR hKL cl fl zl
   have cl:=fun o=>KL.out.cell o
   have fl:=fun o=>KL.out.frozen o
   have zl:=KL.out.lt
   have cr:=fun o=>KR.out.cell o
   have fr:=fun o=>KR.out.frozen o
   have zr:=KR.out.lt
   go_wp2_with fail
   refine bodyPost_ret (v:=.agg #[.int .i64 bx.1,.int .i64 bx.2.1,.int .i64 zz,.int .i64 bx.2.2.2]) (by simp [results,Tryz.results65,go_sem,cr]) rfl ?_
   exact ⟨(bx.1,bx.2.1,zz,bx.2.2.2),q3,rfl,by omega,(((HD.out.set (by simp) hg _).set (by simp) hg _).set (by simp) hg _).set (by simp) hg _⟩
end Go.Proofs.YtpcjdalgebgofaaGreatDoorY
namespace Go.Proofs.YtpcjdalgebgofaaGreatDoorY
open Go.RowKit Go.Sort
def OwLw (B:Nat) (w:World) (l:Lvl) (ws gs:Sl):Prop:=Ow B w 27 4 ws.a ws.n ws.c (cellsB l.walls)∧Ow B w 27 4 gs.a gs.n gs.c (cellsB l.gates)∧ws.n≤1048576∧gs.n≤1048576
section
variable {B C:Nat} {w w':World} {l l':Lvl} {ws gs:Sl}
theorem OwLv.lw (h:OwLv B w l ws gs):OwLw B w l ws gs:=⟨h.wl,h.gt,by have:=h.wn;omega,by have:=h.gn;omega⟩
theorem OwLw.rd (h:OwLw B w l ws gs):RdL w l ws gs:=⟨Ow.rd encB_len (by decide) h.1,Ow.rd encB_len (by decide) h.2.1,⟨h.1.le,h.2.2.1⟩,h.2.1.le,h.2.2.2⟩
theorem OwLw.onlyT {o T':Nat} {cs:Array Value} (h:OwLw B w l ws gs) (k:Blk w o T' cs) (hne:27≠T') (ho:Only o w w'):OwLw B w' l ws gs:=⟨h.1.onlyT k hne ho,h.2.1.onlyT k hne ho,h.2.2⟩
theorem OwLw.of (h:OwLw B w l ws gs) (h1:l'.walls=l.walls) (h2:l'.gates=l.gates):OwLw B w l' ws gs:=⟨h1 ▸ h.1,h2 ▸ h.2.1,h.2.2⟩
theorem Ow.apartB {T T' sz sz' n n' c c':Nat} {A A':Option Addr} {vs vs':List Value} (h:Ow B w T sz A n c vs) (hlt:∀ x,A.map (·.block)=some x→0<c→x<C) (k:Ow C w T' sz' A' n' c' vs') (hg:w.grownBy w' (ownB A' c')):Ow B w' T sz A n c vs :=
 h.keep fun x hx hc=>hg.block x (h.lt hx hc).2 (fun e=>by have:=hlt x hx hc;have:=row_base k x e.symm;omega)
end
theorem three_get {w:World} {b:Nat} {z0 z1 z2 v:Int} (h:Blk w b 3 #[.int .i64 z0,.int .i64 z1,.int .i64 z2]) (h0:0≤v) (h1:v<3):∃ u:Int,w.cell? ⟨b,v.toNat,none⟩=some (.int .i64 u):=by
 rw [h.cell]
 have:v=0∨v=1∨v=2:=by omega
 rcases this with rfl|rfl|rfl <;> exact ⟨_,rfl⟩
def BentPost (g p K B:Nat) (w:World) (e:Ending) (w':World):Prop :=
 ∃ (l:Lvl) (ws gs:Sl) (q:Nat),e=.returned (lvlV l ws gs)∧OwLw B w' l ws gs∧q≤p+K∧Dr w g q w'
def BentMid (g p K B:Nat) (w wx:World):Prop :=
 ∃ (l:Lvl) (ws gs:Sl) (q:Nat),q≤p+K∧Dr w g q wx∧Blk wx (w.heap.size+1) 29 (lvlC lv0 ⟨none,0,0⟩ ⟨none,0,0⟩)∧Blk wx w.heap.size 29 (lvlC l ws gs)∧OwLw B wx l ws gs
set_option maxRecDepth 100000 in
set_option maxHeartbeats 8000000 in
theorem l91Bent_any (g p B:Nat) (l:Lvl) (ws gs:Sl) (w:World) (h:Rdr w g p) (hp:p≤900000) (hl:OwLv B w l ws gs) (hB:g<B) (hBw:B≤w.heap.size) :
  Calls Qy.prog 29 #[.pointer (some ⟨g,0,none⟩),lvlV l ws gs] w (BentPost g p 100 B w):=by
 have hg:=h.lt
 have H:=Lib.hid h
 have HL0:=Lib.hid hl
 have hwn:=hl.wn
 have hgn:=hl.gn
 obtain ⟨i0,hi0,hz0,hz1,hz2⟩:=info_parts infoB
 have HI:=Lib.hid hi0
 have HZ:=Lib.hid hz0
 have HS:=Lib.hid hz1
 have HBY:=Lib.hid hz2
 clear h hl hi0 hz0 hz1 hz2
 go_enter Qy.func29,Tryz.ntmps29
 go_upto_region 1 with (fail)
 refine into_world (fun W=>Dr w g p W∧OwLv B W l ws gs∧Blk W w.heap.size 29 (lvlC l ws gs)∧Blk W (w.heap.size+1) 29 (lvlC lv0 ⟨none,0,0⟩ ⟨none,0,0⟩)) ⟨Dr.next ⟨H.out,Only.refl _ _⟩ (ba (ba (Below.refl _ _))),HL0.out.next (ba (ba (Below.refl _ _))),(Blk.new _ _ _).alloc _,Blk.newAt _ _ _ _ (by simp)⟩ ?_
 rintro W ⟨hD,hOL,hKL,hKR⟩
 have HD:=Lib.hid hD
 have HOL:=Lib.hid hOL
 have KL:=Lib.hid hKL
 have KR:=Lib.hid hKR
 clear hD hOL hKL hKR
 have n0:w.heap.size≠g:=by omega
 have n1:w.heap.size+1≠g:=by omega
 go_wp2_with fail
 refine (pick_any g 24 _ _ HD.out.1 (by omega)).mono ?_
 rintro e w1 ⟨v,rfl,a1,b1,hR,hO⟩
 replace HD:=Lib.hid (HD.out.step hR hO)
 replace KL:=Lib.hid (KL.out.only hO n0)
 replace KR:=Lib.hid (KR.out.only hO n1)
 replace HOL:=Lib.hid (HOL.out.only hO hB)
 have hs1:=KR.out.lt
 clear b1 hR hO
 go_upto_block 0 with (fail)
 go_cut [5] (fun _ wx=>Hid (BentMid g p 100 B w wx))
 case rest =>
  obtain ⟨l',ws',gs',q,hq,hD,hKR,hKL,hOL⟩:=hcut.out
  replace HD:=Lib.hid hD
  replace KR:=Lib.hid hKR
  replace KL:=Lib.hid hKL
  replace HOL:=Lib.hid hOL
  clear hcut hD hKR hKL hOL
  go_upto_region 16 with (fail)
  have KR2:=Lib.hid (setLv (l:=l') (ws:=ws') (gs:=gs') KR.out)
  have HRA:=Lib.hid (rangeLv KL.out)
  have HTH:=Lib.hid (thereLv KR.out)
  have HD2:=Lib.hid (Dr.sets hg (Nat.le_succ _) (lvlC l' ws' gs').toList 0 _ HD.out)
  have HOL2:=Lib.hid (OwLw.onlyT HOL.out KR.out (by decide) (onlySets (.inl rfl) (lvlC l' ws' gs').toList 0 _ (Only.refl _ _)))
  clear HI HZ HS HBY
  go_wp2_with (refine wpList_load_mid rfl 29 (.tmp 3) rfl w.heap.size 0 rfl (lvlC l' ws' gs').toList _ HRA.out (Qy.un Tryz.underlying29) rfl (by kernel_rfl) ?_;refine wpList_store_mid rfl 29 (.tmp 4) (.tmp 65) rfl (w.heap.size+1) 0 (lvlC l' ws' gs') rfl rfl HTH.out (by kernel_rfl) (oneLv _ _ _) ?_;clear HRA HTH KR KL HD HOL;generalize World.setCells _ _ _ _=Z at *;have cr:=fun o=>KR2.out.cell o)
  refine bodyPost_ret (v:=lvlV l' ws' gs') (by simp [results,Tryz.results29,go_sem,cr]) rfl ?_
  exact ⟨l',ws',gs',q,rfl,HOL2.out,hq,HD2.out⟩
 case first =>
  by_cases h0:v=0
  ·have h0':(v == 0)=true:=by simpa using h0
   clear h0
   have hW:Below w1.heap.size w1 (w1.alloc (.cells #[.int .i64 (-1),.int .i64 99,.int .i64 100] 3)):=ba (Below.refl _ _)
   have HL:=Lib.hid (Blk.new w1 3 #[.int .i64 (-1),.int .i64 99,.int .i64 100])
   have hn8:w1.heap.size≠g:=by have:=HD.out.1.lt;omega
   replace HD:=Lib.hid (HD.out.next hW)
   replace KR:=Lib.hid (KR.out.next hW)
   replace KL:=Lib.hid (KL.out.next hW)
   replace HOL:=Lib.hid (HOL.out.next hW)
   clear hW
   go_wp2_with fail
   refine (pick_any g 3 _ _ HD.out.1 (by omega)).mono ?_
   rintro e w9 ⟨v9,rfl,a9,b9,hR,hO⟩
   have c9:=b9 (by omega)
   replace HD:=Lib.hid (HD.out.step hR hO)
   replace KR:=Lib.hid (KR.out.only hO n1)
   replace KL:=Lib.hid (KL.out.only hO n0)
   replace HOL:=Lib.hid (HOL.out.only hO hB)
   obtain ⟨u,hu⟩:=three_get (HL.out.only hO hn8) a9 c9
   clear b9 hR hO HL
   have cl:=fun o=>KL.out.cell o
   have fl:=fun o=>KL.out.frozen o
   have zl:=KL.out.lt
   go_wp2_with fail
   go_meet
   exact ⟨⟨u,l.ticks,l.sx,l.sy,l.walls,l.gates,l.f,l.bans⟩,ws,gs,p+1+1,by omega,HD.out.set (by simp) hg _,KR.out.far (p:=⟨w.heap.size,0,none⟩) (by show w.heap.size+1≠w.heap.size;omega) _,KL.out.set_ 0 _,(HOL.out.lw.onlyT KL.out (by decide) (Only.set_ (p:=⟨w.heap.size,0,none⟩) (Only.refl _ _) (.inl rfl) _)).of rfl rfl⟩
  have h0':(v == 0)=false:=by simpa using h0
  by_cases h1:v=1
  ·have h1':(v == 1)=true:=by simpa using h1
   clear h0 h1
   have hW:Below w1.heap.size w1 (w1.alloc (.cells #[.int .i64 0,.int .i64 1,.int .i64 60,.int .i64 61] 3)):=ba (Below.refl _ _)
   have HL:=Lib.hid (Blk.new w1 3 #[.int .i64 0,.int .i64 1,.int .i64 60,.int .i64 61])
   have hn8:w1.heap.size≠g:=by have:=HD.out.1.lt;omega
   replace HD:=Lib.hid (HD.out.next hW)
   replace KR:=Lib.hid (KR.out.next hW)
   replace KL:=Lib.hid (KL.out.next hW)
   replace HOL:=Lib.hid (HOL.out.next hW)
   clear hW
   go_wp2_with fail
   refine (pick_any g 4 _ _ HD.out.1 (by omega)).mono ?_
   rintro e w9 ⟨v9,rfl,a9,b9,hR,hO⟩
   have c9:=b9 (by omega)
   replace HD:=Lib.hid (HD.out.step hR hO)
   replace KR:=Lib.hid (KR.out.only hO n1)
   replace KL:=Lib.hid (KL.out.only hO n0)
   replace HOL:=Lib.hid (HOL.out.only hO hB)
   obtain ⟨u,hu⟩:=four_get (HL.out.only hO hn8) a9 c9
   clear b9 hR hO HL
   have cl:=fun o=>KL.out.cell o
   have fl:=fun o=>KL.out.frozen o
   have zl:=KL.out.lt
   go_wp2_with fail
   go_meet
   exact ⟨⟨l.id,u,l.sx,l.sy,l.walls,l.gates,l.f,l.bans⟩,ws,gs,p+1+1,by omega,HD.out.set (by simp) hg _,KR.out.far (p:=⟨w.heap.size,1,none⟩) (by show w.heap.size+1≠w.heap.size;omega) _,KL.out.set_ 1 _,(HOL.out.lw.onlyT KL.out (by decide) (Only.set_ (p:=⟨w.heap.size,1,none⟩) (Only.refl _ _) (.inl rfl) _)).of rfl rfl⟩
  have h1':(v == 1)=false:=by simpa using h1
  by_cases h2:v=2
  ·have h2':(v == 2)=true:=by simpa using h2
   clear h0 h1 h2
   go_wp2_with fail
   refine (l91Vec_any g _ _ HD.out.1 (by omega)).mono ?_
   rintro e w3 ⟨x,y,q1,rfl,hq1,hD1⟩
   replace KR:=Lib.hid (KR.out.only hD1.2 n1)
   replace KL:=Lib.hid (KL.out.only hD1.2 n0)
   replace HOL:=Lib.hid (HOL.out.only hD1.2 hB)
   replace HD:=Lib.hid (HD.out.step hD1.1 hD1.2)
   clear hD1
   have cl:=fun o=>KL.out.cell o
   have fl:=fun o=>KL.out.frozen o
   have zl:=KL.out.lt
   go_wp2_with fail
   go_meet
   exact ⟨⟨l.id,l.ticks,x,y,l.walls,l.gates,l.f,l.bans⟩,ws,gs,q1,by omega,(HD.out.set (by simp) hg _).set (by simp) hg _,(KR.out.far (p:=⟨w.heap.size,2,none⟩) (by show w.heap.size+1≠w.heap.size;omega) _).far (p:=⟨w.heap.size,3,none⟩) (by show w.heap.size+1≠w.heap.size;omega) _,(KL.out.set_ 2 _).set_ 3 _,(HOL.out.lw.onlyT KL.out (by decide) (Only.set_ (p:=⟨w.heap.size,3,none⟩) (Only.set_ (p:=⟨w.heap.size,2,none⟩) (Only.refl _ _) (.inl rfl) _) (.inl rfl) _)).of rfl rfl⟩
  have h2':(v == 2)=false:=by simpa using h2
  by_cases h3:v=3
  ·have h3':(v == 3)=true:=by simpa using h3
   clear h0 h1 h2 h3
   have cl:=fun o=>KL.out.cell o
   have fl:=fun o=>KL.out.frozen o
   have zl:=KL.out.lt
   go_wp2_with (at_builtin;refine wpList_append_ow _ rfl (.tmp 30) (.tmp 32) _ rfl w1.heap.size 27 i0 _ 4 32 (Qy.un Tryz.underlying25) HI.out HZ.out HS.out HBY.out rfl (by omega) _ 0 0 [] rfl (Ow.bare _ _ _ _ _) _ ws.n ws.c (cellsB l.walls) rfl (HOL.out.wl.alloc _).src (cellsX_oneCell encB_one _) (by unfold maxLen;omega) (by omega) (by simp) ?_;intro A1 c1 w2 hown hg2 hn2)
   simp only [Nat.zero_add,List.nil_append] at hown
   have hb:Below w1.heap.size w1 w2:=(Ow.bare w1.heap.size _ 27 4 (some ⟨w1.heap.size,0,none⟩)).grown hg2 (ba (Below.refl _ _)) (Nat.le_refl _) (by simp)
   have hgw:=HD.out.1.lt
   have z2:=hb.size
   have HLT:=Lib.hid (fun x hx hc=>(HOL.out.gt.lt hx hc).2:∀ x,gs.a.map (·.block)=some x→0<gs.c→x<w1.heap.size)
   replace HD:=Lib.hid (HD.out.next hb)
   replace KR:=Lib.hid (KR.out.next hb)
   replace KL:=Lib.hid (KL.out.next hb)
   replace HOL:=Lib.hid (HOL.out.next hb)
   have HOW:=Lib.hid hown
   clear hown hg2 hn2 hb cl fl zl
   go_wp2_with fail
   refine (l91Box_any g _ _ HD.out.1 (by omega)).mono ?_
   rintro e w3 ⟨b1,q1,rfl,hq1,hD1⟩
   replace KR:=Lib.hid (KR.out.only hD1.2 n1)
   replace KL:=Lib.hid (KL.out.only hD1.2 n0)
   replace HOL:=Lib.hid (HOL.out.only hD1.2 hB)
   replace HOW:=Lib.hid (HOW.out.onlyG hD1.2 hgw)
   replace HD:=Lib.hid (HD.out.step hD1.1 hD1.2)
   have z3:=hD1.2.size
   clear hD1
   go_wp2_with fail
   refine (l91Box_any g _ _ HD.out.1 (by omega)).mono ?_
   rintro e w4 ⟨b2,q2,rfl,hq2,hD2⟩
   replace KR:=Lib.hid (KR.out.only hD2.2 n1)
   replace KL:=Lib.hid (KL.out.only hD2.2 n0)
   replace HOL:=Lib.hid (HOL.out.only hD2.2 hB)
   replace HOW:=Lib.hid (HOW.out.onlyG hD2.2 hgw)
   replace HD:=Lib.hid (HD.out.step hD2.1 hD2.2)
   have z4:=hD2.2.size
   clear hD2
   have cl:=fun o=>KL.out.cell o
   have fl:=fun o=>KL.out.frozen o
   have zl:=KL.out.lt
   have hW:Below w4.heap.size w4 (w4.alloc (.cells #[.int .i64 b1.1,.int .i64 b1.2.1,.int .i64 b1.2.2.1,.int .i64 b1.2.2.2,.int .i64 b2.1,.int .i64 b2.2.1,.int .i64 b2.2.2.1,.int .i64 b2.2.2.2] 27)):=ba (Below.refl _ _)
   go_wp2_with (at_builtin;refine wpList_append_ow _ rfl (.tmp 33) (.tmp 38) _ rfl w1.heap.size 27 i0 _ 4 32 (Qy.un Tryz.underlying25) HI.out HZ.out HS.out HBY.out rfl (by omega) _ ws.n c1 (cellsB l.walls) rfl (HOW.out.alloc _) _ 2 2 (cellsB [b1,b2]) rfl (Src.blk (Blk.new _ _ _) rfl) (cellsX_oneCell encB_one _) (by unfold maxLen;omega) (by omega) (by simp;omega) ?_;intro A5 c5 w5 hown hg5 hn5;have KL5:=Lib.hid (blk_apart (KL.out.next hW) (HOW.out.next hW) (by decide) hg5);clear cl fl zl;have c5l:=fun o=>KL5.out.cell o;have f5l:=fun o=>KL5.out.frozen o;have z5l:=KL5.out.lt)
   have KR5:=Lib.hid (blk_apart (KR.out.next hW) (HOW.out.next hW) (by decide) hg5)
   have HD5:=Lib.hid ((HD.out.next hW).grown hg hg5 (fun b hb=>by have:=row_base HOW.out b hb;omega))
   have HG5:=Lib.hid (Ow.apartB (HOL.out.next hW).gt HLT.out (HOW.out.next hW) hg5)
   have HW5:=Lib.hid hown
   clear hown hg5 hn5 hW c5l f5l
   go_meet
   refine ⟨⟨l.id,l.ticks,l.sx,l.sy,l.walls ++ [b1,b2],l.gates,l.f,l.bans⟩,⟨A5,ws.n+2,c5⟩,gs,q2,by omega,HD5.out.set (by simp) hg _,KR5.out.far (p:=⟨w.heap.size,4,none⟩) (by show w.heap.size+1≠w.heap.size;omega) _,KL5.out.set_ 4 _,?_⟩
   have hho:=Only.set_ (p:=⟨w.heap.size,4,none⟩) (Only.refl w.heap.size w5) (.inl rfl) (Value.slice A5 (ws.n+2) c5)
   refine ⟨Ow.onlyT (Ow.mono (by show Ow _ _ _ _ _ _ _ (cellsX encB (l.walls ++ [b1,b2]));rw [cellsX_append];exact HW5.out) (by omega)) KL5.out (by decide) hho,Ow.onlyT HG5.out KL5.out (by decide) hho,?_,?_⟩
   ·show ws.n+2≤1048576
    omega
   ·show gs.n≤1048576
    omega
  have h3':(v == 3)=false:=by simpa using h3
  by_cases h4:v=4
  ·have h4':(v == 4)=true:=by simpa using h4
   clear h0 h1 h2 h3 h4
   have cl:=fun o=>KL.out.cell o
   have fl:=fun o=>KL.out.frozen o
   have zl:=KL.out.lt
   go_wp2_with (at_builtin;refine wpList_append_ow _ rfl (.tmp 43) (.tmp 45) _ rfl w1.heap.size 27 i0 _ 4 32 (Qy.un Tryz.underlying25) HI.out HZ.out HS.out HBY.out rfl (by omega) _ 0 0 [] rfl (Ow.bare _ _ _ _ _) _ gs.n gs.c (cellsB l.gates) rfl (HOL.out.gt.alloc _).src (cellsX_oneCell encB_one _) (by unfold maxLen;omega) (by omega) (by simp) ?_;intro A1 c1 w2 hown hg2 hn2)
   simp only [Nat.zero_add,List.nil_append] at hown
   have hb:Below w1.heap.size w1 w2:=(Ow.bare w1.heap.size _ 27 4 (some ⟨w1.heap.size,0,none⟩)).grown hg2 (ba (Below.refl _ _)) (Nat.le_refl _) (by simp)
   have hgw:=HD.out.1.lt
   have z2:=hb.size
   have HLT:=Lib.hid (fun x hx hc=>(HOL.out.wl.lt hx hc).2:∀ x,ws.a.map (·.block)=some x→0<ws.c→x<w1.heap.size)
   replace HD:=Lib.hid (HD.out.next hb)
   replace KR:=Lib.hid (KR.out.next hb)
   replace KL:=Lib.hid (KL.out.next hb)
   replace HOL:=Lib.hid (HOL.out.next hb)
   have HOW:=Lib.hid hown
   clear hown hg2 hn2 hb cl fl zl
   go_wp2_with fail
   refine (l91Box_any g _ _ HD.out.1 (by omega)).mono ?_
   rintro e w3 ⟨b1,q1,rfl,hq1,hD1⟩
   replace KR:=Lib.hid (KR.out.only hD1.2 n1)
   replace KL:=Lib.hid (KL.out.only hD1.2 n0)
   replace HOL:=Lib.hid (HOL.out.only hD1.2 hB)
   replace HOW:=Lib.hid (HOW.out.onlyG hD1.2 hgw)
   replace HD:=Lib.hid (HD.out.step hD1.1 hD1.2)
   have z3:=hD1.2.size
   clear hD1
   go_wp2_with fail
   refine (l91Box_any g _ _ HD.out.1 (by omega)).mono ?_
   rintro e w4 ⟨b2,q2,rfl,hq2,hD2⟩
   replace KR:=Lib.hid (KR.out.only hD2.2 n1)
   replace KL:=Lib.hid (KL.out.only hD2.2 n0)
   replace HOL:=Lib.hid (HOL.out.only hD2.2 hB)
   replace HOW:=Lib.hid (HOW.out.onlyG hD2.2 hgw)
   replace HD:=Lib.hid (HD.out.step hD2.1 hD2.2)
   have z4:=hD2.2.size
   clear hD2
   have cl:=fun o=>KL.out.cell o
   have fl:=fun o=>KL.out.frozen o
   have zl:=KL.out.lt
   have hW:Below w4.heap.size w4 (w4.alloc (.cells #[.int .i64 b1.1,.int .i64 b1.2.1,.int .i64 b1.2.2.1,.int .i64 b1.2.2.2,.int .i64 b2.1,.int .i64 b2.2.1,.int .i64 b2.2.2.1,.int .i64 b2.2.2.2] 27)):=ba (Below.refl _ _)
   go_wp2_with (at_builtin;refine wpList_append_ow _ rfl (.tmp 46) (.tmp 51) _ rfl w1.heap.size 27 i0 _ 4 32 (Qy.un Tryz.underlying25) HI.out HZ.out HS.out HBY.out rfl (by omega) _ gs.n c1 (cellsB l.gates) rfl (HOW.out.alloc _) _ 2 2 (cellsB [b1,b2]) rfl (Src.blk (Blk.new _ _ _) rfl) (cellsX_oneCell encB_one _) (by unfold maxLen;omega) (by omega) (by simp;omega) ?_;intro A5 c5 w5 hown hg5 hn5;have KL5:=Lib.hid (blk_apart (KL.out.next hW) (HOW.out.next hW) (by decide) hg5);clear cl fl zl;have c5l:=fun o=>KL5.out.cell o;have f5l:=fun o=>KL5.out.frozen o;have z5l:=KL5.out.lt)
   have KR5:=Lib.hid (blk_apart (KR.out.next hW) (HOW.out.next hW) (by decide) hg5)
   have HD5:=Lib.hid ((HD.out.next hW).grown hg hg5 (fun b hb=>by have:=row_base HOW.out b hb;omega))
   have HG5:=Lib.hid (Ow.apartB (HOL.out.next hW).wl HLT.out (HOW.out.next hW) hg5)
   have HW5:=Lib.hid hown
   clear hown hg5 hn5 hW c5l f5l
   go_meet
   refine ⟨⟨l.id,l.ticks,l.sx,l.sy,l.walls,l.gates ++ [b1,b2],l.f,l.bans⟩,ws,⟨A5,gs.n+2,c5⟩,q2,by omega,HD5.out.set (by simp) hg _,KR5.out.far (p:=⟨w.heap.size,5,none⟩) (by show w.heap.size+1≠w.heap.size;omega) _,KL5.out.set_ 5 _,?_⟩
   have hho:=Only.set_ (p:=⟨w.heap.size,5,none⟩) (Only.refl w.heap.size w5) (.inl rfl) (Value.slice A5 (gs.n+2) c5)
   refine ⟨Ow.onlyT HG5.out KL5.out (by decide) hho,Ow.onlyT (Ow.mono (by show Ow _ _ _ _ _ _ _ (cellsX encB (l.gates ++ [b1,b2]));rw [cellsX_append];exact HW5.out) (by omega)) KL5.out (by decide) hho,?_,?_⟩
   ·show ws.n≤1048576
    omega
   ·show gs.n+2≤1048576
    omega
  have h4':(v == 4)=false:=by simpa using h4
  by_cases h5:v=5
  ·have h5':(v == 5)=true:=by simpa using h5
   clear h0 h1 h2 h3 h4 h5
   go_wp2_with fail
   refine (l91Box_any g _ _ HD.out.1 (by omega)).mono ?_
   rintro e w3 ⟨bx,q1,rfl,hq1,hD1⟩
   replace KR:=Lib.hid (KR.out.only hD1.2 n1)
   replace KL:=Lib.hid (KL.out.only hD1.2 n0)
   replace HOL:=Lib.hid (HOL.out.only hD1.2 hB)
   replace HD:=Lib.hid (HD.out.step hD1.1 hD1.2)
   clear hD1
   have cl:=fun o=>KL.out.cell o
   have fl:=fun o=>KL.out.frozen o
   have zl:=KL.out.lt
   go_wp2_with fail
   go_meet
   refine ⟨⟨l.id,l.ticks,l.sx,l.sy,l.walls,l.gates,bx,l.bans⟩,ws,gs,q1,by omega,?_,?_,(((KL.out.set_ 6 _).set_ 7 _).set_ 8 _).set_ 9 _,?_⟩
   ·iterate 4 (refine Dr.set ?_ (by simp) hg _)
    exact HD.out
   ·exact (((KR.out.far (p:=⟨w.heap.size,6,none⟩) (by show w.heap.size+1≠w.heap.size;omega) _).far (p:=⟨w.heap.size,7,none⟩) (by show w.heap.size+1≠w.heap.size;omega) _).far (p:=⟨w.heap.size,8,none⟩) (by show w.heap.size+1≠w.heap.size;omega) _).far (p:=⟨w.heap.size,9,none⟩) (by show w.heap.size+1≠w.heap.size;omega) _
   ·exact (HOL.out.lw.onlyT KL.out (by decide) (Only.set_ (p:=⟨w.heap.size,9,none⟩) (Only.set_ (p:=⟨w.heap.size,8,none⟩) (Only.set_ (p:=⟨w.heap.size,7,none⟩) (Only.set_ (p:=⟨w.heap.size,6,none⟩) (Only.refl _ _) (.inl rfl) _) (.inl rfl) _) (.inl rfl) _) (.inl rfl) _)).of rfl rfl
  have h5':(v == 5)=false:=by simpa using h5
  by_cases h6:v=6
  ·have h6':(v == 6)=true:=by simpa using h6
   clear h0 h1 h2 h3 h4 h5 h6
   go_wp2_with fail
   refine (pick_any g 6 _ _ HD.out.1 (by omega)).mono ?_
   rintro e w9 ⟨v9,rfl,a9,b9,hR,hO⟩
   have c9:=b9 (by omega)
   replace HD:=Lib.hid (HD.out.step hR hO)
   replace KR:=Lib.hid (KR.out.only hO n1)
   replace KL:=Lib.hid (KL.out.only hO n0)
   replace HOL:=Lib.hid (HOL.out.only hO hB)
   clear b9 hR hO
   have cl:=fun o=>KL.out.cell o
   have fl:=fun o=>KL.out.frozen o
   have zl:=KL.out.lt
   go_wp2_with fail
   go_meet
   exact ⟨⟨l.id,l.ticks,l.sx,l.sy,l.walls,l.gates,l.f,v9 - 1⟩,ws,gs,p+1+1,by omega,HD.out.set (by simp) hg _,KR.out.far (p:=⟨w.heap.size,10,none⟩) (by show w.heap.size+1≠w.heap.size;omega) _,KL.out.set_ 10 _,(HOL.out.lw.onlyT KL.out (by decide) (Only.set_ (p:=⟨w.heap.size,10,none⟩) (Only.refl _ _) (.inl rfl) _)).of rfl rfl⟩
  have h6':(v == 6)=false:=by simpa using h6
  clear h0 h1 h2 h3 h4 h5 h6
  go_wp2_with fail
  go_meet
  exact ⟨l,ws,gs,p+1,by omega,HD.out,KR.out,KL.out,HOL.out.lw⟩
end Go.Proofs.YtpcjdalgebgofaaGreatDoorY

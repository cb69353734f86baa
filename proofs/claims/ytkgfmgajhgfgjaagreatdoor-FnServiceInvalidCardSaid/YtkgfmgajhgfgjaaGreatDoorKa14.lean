/-
  Lemmas and contracts: Ep Er. No condition.
-/
import Derived.Test.YtkgfmgajhgfgjaaGreatDoorKa10
import Derived.Test.YtkgfmgajhgfgjaaGreatDoorKa13
set_option linter.unusedSimpArgs false
set_option linter.unusedVariables false
set_option linter.unusedSectionVars false
namespace Go.Proofs.YtkgfmgajhgfgjaaGreatDoor
open Go.RowKit Go.Sort
def InPost (g p K:Nat) (l:Lvl) (b:Inp) (w:World) (e:Ending) (w':World):Prop:=∃ (x:Inp) (q:Nat),e=.returned (inV x)∧(followsW l b x=true∨x=⟨0,1,false⟩)∧q≤p+K∧Dr w g q w'
set_option maxRecDepth 100000 in
set_option maxHeartbeats 8000000 in
theorem l92Next_any (g p:Nat) (l:Lvl) (ws gs:Sl) (b:Inp) (w:World) (h:Rdr w g p) (hp:p≤10000000) :
  Calls Tryz.prog 194 #[.pointer (some ⟨g,0,none⟩),lvlV l ws gs,inV b] w (InPost g p 2 l b w):=by
 have hg:=h.lt
 have H:=Lib.hid h
 clear h
 go_enter Tryz.func194,Tryz.ntmps194
 go_upto_region 2 with (fail)
 refine into_world (fun W=>Dr w g p W∧Blk W w.heap.size 29 (lvlC l ws gs)∧Blk W (w.heap.size+1) 158 #[.int .i64 b.s,.int .i64 b.p,.bool b.z]∧Blk W (w.heap.size+1+1) 158 #[.int .i64 0,.int .i64 0,.bool false]∧Blk W (w.heap.size+1+1+1) 158 #[.int .i64 0,.int .i64 1,.bool false]) ⟨Dr.next ⟨H.out,Only.refl _ _⟩ (ba (ba (ba (ba (Below.refl _ _))))),(((Blk.new _ _ _).alloc _).alloc _).alloc _,((Blk.newAt _ _ _ _ (by simp)).alloc _).alloc _,(Blk.newAt _ _ _ _ (by simp)).alloc _,Blk.newAt _ _ _ _ (by simp)⟩ ?_
 rintro W ⟨hD,hKL,hKB,hKR,hKX⟩
 have HD:=Lib.hid hD
 have KL:=Lib.hid hKL
 have KB:=Lib.hid hKB
 have KR:=Lib.hid hKR
 have KX:=Lib.hid hKX
 clear hD hKL hKB hKR hKX
 have n0:w.heap.size≠g:=by omega
 have n1:w.heap.size+1≠g:=by omega
 have n2:w.heap.size+1+1≠g:=by omega
 have n3:w.heap.size+1+1+1≠g:=by omega
 go_wp2_with fail
 refine (pick_any g 12 _ _ HD.out.1 (by omega)).mono ?_
 rintro e w1 ⟨v1,rfl,a1,b1,hR,hO⟩
 replace HD:=Lib.hid (HD.out.step hR hO)
 replace KL:=Lib.hid (KL.out.only hO n0)
 replace KB:=Lib.hid (KB.out.only hO n1)
 replace KR:=Lib.hid (KR.out.only hO n2)
 replace KX:=Lib.hid (KX.out.only hO n3)
 clear b1 hR hO
 by_cases h0:v1=0
 ·have h0':(v1 == 0)=true:=by simpa using h0
  clear h0
  go_wp2_with fail
  refine (pick_any g 3 _ _ HD.out.1 (by omega)).mono ?_
  rintro e w2 ⟨v2,rfl,a2,b2,hR,hO⟩
  replace HD:=Lib.hid (HD.out.step hR hO)
  replace KL:=Lib.hid (KL.out.only hO n0)
  replace KB:=Lib.hid (KB.out.only hO n1)
  replace KR:=Lib.hid (KR.out.only hO n2)
  replace KX:=Lib.hid (KX.out.only hO n3)
  clear b2 hR hO
  have cx:=fun o=>KX.out.cell o
  have fx:=fun o=>KX.out.frozen o
  have zx:=KX.out.lt
  go_upto_region 10 with (fail)
  refine into_world (fun Y=>Dr w g (p+2) Y∧Blk Y w.heap.size 29 (lvlC l ws gs)∧Blk Y (w.heap.size+1) 158 #[.int .i64 b.s,.int .i64 b.p,.bool b.z]∧Blk Y (w.heap.size+1+1) 158 #[.int .i64 0,.int .i64 0,.bool false]∧Blk Y (w.heap.size+1+1+1) 158 #[.int .i64 (⟨0,v2,false⟩:Inp).s,.int .i64 (⟨0,v2,false⟩:Inp).p,.bool (⟨0,v2,false⟩:Inp).z]) ⟨HD.out.set (by show w.heap.size≤w.heap.size+1+1+1;omega) hg _,KL.out.far (p:=⟨w.heap.size+1+1+1,1,none⟩) (by show _≠w.heap.size+1+1+1;omega) _,KB.out.far (p:=⟨w.heap.size+1+1+1,1,none⟩) (by show _≠w.heap.size+1+1+1;omega) _,KR.out.far (p:=⟨w.heap.size+1+1+1,1,none⟩) (by show _≠w.heap.size+1+1+1;omega) _,KX.out.set_ 1 _⟩ ?_
  rintro Y ⟨hD,hKL,hKB,hKR,hkx⟩
  replace HD:=Lib.hid hD
  replace KL:=Lib.hid hKL
  replace KB:=Lib.hid hKB
  replace KR:=Lib.hid hKR
  clear hD hKL hKB hKR KX
  have HX:=Lib.hid hkx
  clear hkx
  have cl:=fun o=>KL.out.cell o
  have fl:=fun o=>KL.out.frozen o
  have zl:=KL.out.lt
  have cb:=fun o=>KB.out.cell o
  have fb:=fun o=>KB.out.frozen o
  have zb:=KB.out.lt
  have cx:=fun o=>HX.out.cell o
  have fx:=fun o=>HX.out.frozen o
  have zx:=HX.out.lt
  go_wp2_with fail
  refine (l12Follows_any l ws gs b (⟨0,v2,false⟩:Inp) _).mono ?_
  rintro e w9 ⟨rfl,hb⟩
  replace HD:=Lib.hid (HD.out.next hb)
  replace KR:=Lib.hid (KR.out.next hb)
  replace HX:=Lib.hid (HX.out.next hb)
  clear hb cl fl zl cb fb zb cx fx zx KL KB
  have cr:=fun o=>KR.out.cell o
  have fr:=fun o=>KR.out.frozen o
  have zr:=KR.out.lt
  have cx:=fun o=>HX.out.cell o
  have fx:=fun o=>HX.out.frozen o
  have zx:=HX.out.lt
  cases hf:followsW l b (⟨0,v2,false⟩:Inp)
  ·clear hf
   go_wp2_with fail
   refine bodyPost_ret (v:=inV ⟨0,1,false⟩) (by simp [results,Tryz.results194,go_sem,cr]) rfl ?_
   exact ⟨⟨0,1,false⟩,p+2,rfl,.inr rfl,by omega,((HD.out.set (by show w.heap.size≤w.heap.size+1+1;omega) hg _).set (by show w.heap.size≤w.heap.size+1+1;omega) hg _).set (by show w.heap.size≤w.heap.size+1+1;omega) hg _⟩
  ·have HF:=Lib.hid hf
   clear hf
   go_wp2_with fail
   refine bodyPost_ret (v:=inV (⟨0,v2,false⟩:Inp)) (by simp [results,Tryz.results194,go_sem,cr]) rfl ?_
   exact ⟨(⟨0,v2,false⟩:Inp),p+2,rfl,.inl HF.out,by omega,((HD.out.set (by show w.heap.size≤w.heap.size+1+1;omega) hg _).set (by show w.heap.size≤w.heap.size+1+1;omega) hg _).set (by show w.heap.size≤w.heap.size+1+1;omega) hg _⟩
 have h0':(v1 == 0)=false:=by simpa using h0
 by_cases h1:v1=1
 ·have h1':(v1 == 1)=true:=by simpa using h1
  clear h0 h1
  go_wp2_with fail
  refine (pick_any g 3 _ _ HD.out.1 (by omega)).mono ?_
  rintro e w2 ⟨v2,rfl,a2,b2,hR,hO⟩
  have c2:=b2 (by omega)
  replace HD:=Lib.hid (HD.out.step hR hO)
  replace KL:=Lib.hid (KL.out.only hO n0)
  replace KB:=Lib.hid (KB.out.only hO n1)
  replace KR:=Lib.hid (KR.out.only hO n2)
  replace KX:=Lib.hid (KX.out.only hO n3)
  clear b2 hR hO
  have cx:=fun o=>KX.out.cell o
  have fx:=fun o=>KX.out.frozen o
  have zx:=KX.out.lt
  go_upto_region 10 with (fail)
  refine into_world (fun Y=>Dr w g (p+2) Y∧Blk Y w.heap.size 29 (lvlC l ws gs)∧Blk Y (w.heap.size+1) 158 #[.int .i64 b.s,.int .i64 b.p,.bool b.z]∧Blk Y (w.heap.size+1+1) 158 #[.int .i64 0,.int .i64 0,.bool false]∧Blk Y (w.heap.size+1+1+1) 158 #[.int .i64 (⟨v2 - 1,1,false⟩:Inp).s,.int .i64 (⟨v2 - 1,1,false⟩:Inp).p,.bool (⟨v2 - 1,1,false⟩:Inp).z]) ⟨HD.out.set (by show w.heap.size≤w.heap.size+1+1+1;omega) hg _,KL.out.far (p:=⟨w.heap.size+1+1+1,0,none⟩) (by show _≠w.heap.size+1+1+1;omega) _,KB.out.far (p:=⟨w.heap.size+1+1+1,0,none⟩) (by show _≠w.heap.size+1+1+1;omega) _,KR.out.far (p:=⟨w.heap.size+1+1+1,0,none⟩) (by show _≠w.heap.size+1+1+1;omega) _,KX.out.set_ 0 _⟩ ?_
  rintro Y ⟨hD,hKL,hKB,hKR,hkx⟩
  replace HD:=Lib.hid hD
  replace KL:=Lib.hid hKL
  replace KB:=Lib.hid hKB
  replace KR:=Lib.hid hKR
  clear hD hKL hKB hKR KX
  have HX:=Lib.hid hkx
  clear hkx
  have cl:=fun o=>KL.out.cell o
  have fl:=fun o=>KL.out.frozen o
  have zl:=KL.out.lt
  have cb:=fun o=>KB.out.cell o
  have fb:=fun o=>KB.out.frozen o
  have zb:=KB.out.lt
  have cx:=fun o=>HX.out.cell o
  have fx:=fun o=>HX.out.frozen o
  have zx:=HX.out.lt
  go_wp2_with fail
  refine (l12Follows_any l ws gs b (⟨v2 - 1,1,false⟩:Inp) _).mono ?_
  rintro e w9 ⟨rfl,hb⟩
  replace HD:=Lib.hid (HD.out.next hb)
  replace KR:=Lib.hid (KR.out.next hb)
  replace HX:=Lib.hid (HX.out.next hb)
  clear hb cl fl zl cb fb zb cx fx zx KL KB
  have cr:=fun o=>KR.out.cell o
  have fr:=fun o=>KR.out.frozen o
  have zr:=KR.out.lt
  have cx:=fun o=>HX.out.cell o
  have fx:=fun o=>HX.out.frozen o
  have zx:=HX.out.lt
  cases hf:followsW l b (⟨v2 - 1,1,false⟩:Inp)
  ·clear hf
   go_wp2_with fail
   refine bodyPost_ret (v:=inV ⟨0,1,false⟩) (by simp [results,Tryz.results194,go_sem,cr]) rfl ?_
   exact ⟨⟨0,1,false⟩,p+2,rfl,.inr rfl,by omega,((HD.out.set (by show w.heap.size≤w.heap.size+1+1;omega) hg _).set (by show w.heap.size≤w.heap.size+1+1;omega) hg _).set (by show w.heap.size≤w.heap.size+1+1;omega) hg _⟩
  ·have HF:=Lib.hid hf
   clear hf
   go_wp2_with fail
   refine bodyPost_ret (v:=inV (⟨v2 - 1,1,false⟩:Inp)) (by simp [results,Tryz.results194,go_sem,cr]) rfl ?_
   exact ⟨(⟨v2 - 1,1,false⟩:Inp),p+2,rfl,.inl HF.out,by omega,((HD.out.set (by show w.heap.size≤w.heap.size+1+1;omega) hg _).set (by show w.heap.size≤w.heap.size+1+1;omega) hg _).set (by show w.heap.size≤w.heap.size+1+1;omega) hg _⟩
 have h1':(v1 == 1)=false:=by simpa using h1
 by_cases h2:v1=2
 ·have h2':(v1 == 2)=true:=by simpa using h2
  clear h0 h1 h2
  go_wp2_with fail
  refine (pick_any g 3 _ _ HD.out.1 (by omega)).mono ?_
  rintro e w2 ⟨v2,rfl,a2,b2,hR,hO⟩
  have c2:=b2 (by omega)
  replace HD:=Lib.hid (HD.out.step hR hO)
  replace KL:=Lib.hid (KL.out.only hO n0)
  replace KB:=Lib.hid (KB.out.only hO n1)
  replace KR:=Lib.hid (KR.out.only hO n2)
  replace KX:=Lib.hid (KX.out.only hO n3)
  clear b2 hR hO
  have cx:=fun o=>KX.out.cell o
  have fx:=fun o=>KX.out.frozen o
  have zx:=KX.out.lt
  go_upto_region 10 with (fail)
  refine into_world (fun Y=>Dr w g (p+2) Y∧Blk Y w.heap.size 29 (lvlC l ws gs)∧Blk Y (w.heap.size+1) 158 #[.int .i64 b.s,.int .i64 b.p,.bool b.z]∧Blk Y (w.heap.size+1+1) 158 #[.int .i64 0,.int .i64 0,.bool false]∧Blk Y (w.heap.size+1+1+1) 158 #[.int .i64 (⟨v2 - 1,1,false⟩:Inp).s,.int .i64 (⟨v2 - 1,1,false⟩:Inp).p,.bool (⟨v2 - 1,1,false⟩:Inp).z]) ⟨HD.out.set (by show w.heap.size≤w.heap.size+1+1+1;omega) hg _,KL.out.far (p:=⟨w.heap.size+1+1+1,0,none⟩) (by show _≠w.heap.size+1+1+1;omega) _,KB.out.far (p:=⟨w.heap.size+1+1+1,0,none⟩) (by show _≠w.heap.size+1+1+1;omega) _,KR.out.far (p:=⟨w.heap.size+1+1+1,0,none⟩) (by show _≠w.heap.size+1+1+1;omega) _,KX.out.set_ 0 _⟩ ?_
  rintro Y ⟨hD,hKL,hKB,hKR,hkx⟩
  replace HD:=Lib.hid hD
  replace KL:=Lib.hid hKL
  replace KB:=Lib.hid hKB
  replace KR:=Lib.hid hKR
  clear hD hKL hKB hKR KX
  have HX:=Lib.hid hkx
  clear hkx
  have cl:=fun o=>KL.out.cell o
  have fl:=fun o=>KL.out.frozen o
  have zl:=KL.out.lt
  have cb:=fun o=>KB.out.cell o
  have fb:=fun o=>KB.out.frozen o
  have zb:=KB.out.lt
  have cx:=fun o=>HX.out.cell o
  have fx:=fun o=>HX.out.frozen o
  have zx:=HX.out.lt
  go_wp2_with fail
  refine (l12Follows_any l ws gs b (⟨v2 - 1,1,false⟩:Inp) _).mono ?_
  rintro e w9 ⟨rfl,hb⟩
  replace HD:=Lib.hid (HD.out.next hb)
  replace KR:=Lib.hid (KR.out.next hb)
  replace HX:=Lib.hid (HX.out.next hb)
  clear hb cl fl zl cb fb zb cx fx zx KL KB
  have cr:=fun o=>KR.out.cell o
  have fr:=fun o=>KR.out.frozen o
  have zr:=KR.out.lt
  have cx:=fun o=>HX.out.cell o
  have fx:=fun o=>HX.out.frozen o
  have zx:=HX.out.lt
  cases hf:followsW l b (⟨v2 - 1,1,false⟩:Inp)
  ·clear hf
   go_wp2_with fail
   refine bodyPost_ret (v:=inV ⟨0,1,false⟩) (by simp [results,Tryz.results194,go_sem,cr]) rfl ?_
   exact ⟨⟨0,1,false⟩,p+2,rfl,.inr rfl,by omega,((HD.out.set (by show w.heap.size≤w.heap.size+1+1;omega) hg _).set (by show w.heap.size≤w.heap.size+1+1;omega) hg _).set (by show w.heap.size≤w.heap.size+1+1;omega) hg _⟩
  ·have HF:=Lib.hid hf
   clear hf
   go_wp2_with fail
   refine bodyPost_ret (v:=inV (⟨v2 - 1,1,false⟩:Inp)) (by simp [results,Tryz.results194,go_sem,cr]) rfl ?_
   exact ⟨(⟨v2 - 1,1,false⟩:Inp),p+2,rfl,.inl HF.out,by omega,((HD.out.set (by show w.heap.size≤w.heap.size+1+1;omega) hg _).set (by show w.heap.size≤w.heap.size+1+1;omega) hg _).set (by show w.heap.size≤w.heap.size+1+1;omega) hg _⟩
 have h2':(v1 == 2)=false:=by simpa using h2
 by_cases h3:v1=3
 rotate_left
 ·have h3':(v1 == 3)=false:=by simpa using h3
  clear h0 h1 h2 h3
  go_upto_region 10 with (fail)
  refine into_world (fun Y=>Dr w g (p+1) Y∧Blk Y w.heap.size 29 (lvlC l ws gs)∧Blk Y (w.heap.size+1) 158 #[.int .i64 b.s,.int .i64 b.p,.bool b.z]∧Blk Y (w.heap.size+1+1) 158 #[.int .i64 0,.int .i64 0,.bool false]∧Blk Y (w.heap.size+1+1+1) 158 #[.int .i64 (⟨0,1,false⟩:Inp).s,.int .i64 (⟨0,1,false⟩:Inp).p,.bool (⟨0,1,false⟩:Inp).z]) ⟨HD.out.next (Below.refl _ _),KL.out.next (Below.refl _ _),KB.out.next (Below.refl _ _),KR.out.next (Below.refl _ _),KX.out.next (Below.refl _ _)⟩ ?_
  rintro Y ⟨hD,hKL,hKB,hKR,hkx⟩
  replace HD:=Lib.hid hD
  replace KL:=Lib.hid hKL
  replace KB:=Lib.hid hKB
  replace KR:=Lib.hid hKR
  clear hD hKL hKB hKR KX
  have HX:=Lib.hid hkx
  clear hkx
  have cl:=fun o=>KL.out.cell o
  have fl:=fun o=>KL.out.frozen o
  have zl:=KL.out.lt
  have cb:=fun o=>KB.out.cell o
  have fb:=fun o=>KB.out.frozen o
  have zb:=KB.out.lt
  have cx:=fun o=>HX.out.cell o
  have fx:=fun o=>HX.out.frozen o
  have zx:=HX.out.lt
  go_wp2_with fail
  refine (l12Follows_any l ws gs b (⟨0,1,false⟩:Inp) _).mono ?_
  rintro e w9 ⟨rfl,hb⟩
  replace HD:=Lib.hid (HD.out.next hb)
  replace KR:=Lib.hid (KR.out.next hb)
  replace HX:=Lib.hid (HX.out.next hb)
  clear hb cl fl zl cb fb zb cx fx zx KL KB
  have cr:=fun o=>KR.out.cell o
  have fr:=fun o=>KR.out.frozen o
  have zr:=KR.out.lt
  have cx:=fun o=>HX.out.cell o
  have fx:=fun o=>HX.out.frozen o
  have zx:=HX.out.lt
  cases hf:followsW l b (⟨0,1,false⟩:Inp)
  ·clear hf
   go_wp2_with fail
   refine bodyPost_ret (v:=inV ⟨0,1,false⟩) (by simp [results,Tryz.results194,go_sem,cr]) rfl ?_
   exact ⟨⟨0,1,false⟩,p+1,rfl,.inr rfl,by omega,((HD.out.set (by show w.heap.size≤w.heap.size+1+1;omega) hg _).set (by show w.heap.size≤w.heap.size+1+1;omega) hg _).set (by show w.heap.size≤w.heap.size+1+1;omega) hg _⟩
  ·have HF:=Lib.hid hf
   clear hf
   go_wp2_with fail
   refine bodyPost_ret (v:=inV (⟨0,1,false⟩:Inp)) (by simp [results,Tryz.results194,go_sem,cr]) rfl ?_
   exact ⟨(⟨0,1,false⟩:Inp),p+1,rfl,.inl HF.out,by omega,((HD.out.set (by show w.heap.size≤w.heap.size+1+1;omega) hg _).set (by show w.heap.size≤w.heap.size+1+1;omega) hg _).set (by show w.heap.size≤w.heap.size+1+1;omega) hg _⟩
 have h3':(v1 == 3)=true:=by simpa using h3
 clear h0 h1 h2 h3
 go_wp2_with fail
 refine (pick_any g 10 _ _ HD.out.1 (by omega)).mono ?_
 rintro e w2 ⟨v2,rfl,a2,b2,hR,hO⟩
 replace HD:=Lib.hid (HD.out.step hR hO)
 replace KL:=Lib.hid (KL.out.only hO n0)
 replace KB:=Lib.hid (KB.out.only hO n1)
 replace KR:=Lib.hid (KR.out.only hO n2)
 replace KX:=Lib.hid (KX.out.only hO n3)
 clear b2 hR hO
 go_wp2_with fail
 refine (specInputOf_any v2 _).mono ?_
 obtain ⟨xi,oki,hxi⟩:∃ a b,inOf v2=(a,b):=⟨_,_,rfl⟩
 rw [hxi]
 clear hxi
 rintro e w3 ⟨rfl,hb⟩
 replace HD:=Lib.hid (HD.out.next hb)
 replace KL:=Lib.hid (KL.out.next hb)
 replace KB:=Lib.hid (KB.out.next hb)
 replace KR:=Lib.hid (KR.out.next hb)
 replace KX:=Lib.hid (KX.out.next hb)
 clear hb
 have cx:=fun o=>KX.out.cell o
 have fx:=fun o=>KX.out.frozen o
 have zx:=KX.out.lt
 go_upto_region 10 with (fail)
 refine into_world (fun Y=>Dr w g (p+2) Y∧Blk Y w.heap.size 29 (lvlC l ws gs)∧Blk Y (w.heap.size+1) 158 #[.int .i64 b.s,.int .i64 b.p,.bool b.z]∧Blk Y (w.heap.size+1+1) 158 #[.int .i64 0,.int .i64 0,.bool false]∧Blk Y (w.heap.size+1+1+1) 158 #[.int .i64 xi.s,.int .i64 xi.p,.bool xi.z]) ⟨((HD.out.set (by show w.heap.size≤w.heap.size+1+1+1;omega) hg _).set (by show w.heap.size≤w.heap.size+1+1+1;omega) hg _).set (by show w.heap.size≤w.heap.size+1+1+1;omega) hg _,((KL.out.far (p:=⟨w.heap.size+1+1+1,0,none⟩) (by show _≠w.heap.size+1+1+1;omega) _).far (p:=⟨w.heap.size+1+1+1,1,none⟩) (by show _≠w.heap.size+1+1+1;omega) _).far (p:=⟨w.heap.size+1+1+1,2,none⟩) (by show _≠w.heap.size+1+1+1;omega) _,((KB.out.far (p:=⟨w.heap.size+1+1+1,0,none⟩) (by show _≠w.heap.size+1+1+1;omega) _).far (p:=⟨w.heap.size+1+1+1,1,none⟩) (by show _≠w.heap.size+1+1+1;omega) _).far (p:=⟨w.heap.size+1+1+1,2,none⟩) (by show _≠w.heap.size+1+1+1;omega) _,((KR.out.far (p:=⟨w.heap.size+1+1+1,0,none⟩) (by show _≠w.heap.size+1+1+1;omega) _).far (p:=⟨w.heap.size+1+1+1,1,none⟩) (by show _≠w.heap.size+1+1+1;omega) _).far (p:=⟨w.heap.size+1+1+1,2,none⟩) (by show _≠w.heap.size+1+1+1;omega) _,((KX.out.set_ 0 _).set_ 1 _).set_ 2 _⟩ ?_
 rintro Y ⟨hD,hKL,hKB,hKR,hkx⟩
 replace HD:=Lib.hid hD
 replace KL:=Lib.hid hKL
 replace KB:=Lib.hid hKB
 replace KR:=Lib.hid hKR
 clear hD hKL hKB hKR KX
 have HX:=Lib.hid hkx
 clear hkx
 have cl:=fun o=>KL.out.cell o
 have fl:=fun o=>KL.out.frozen o
 have zl:=KL.out.lt
 have cb:=fun o=>KB.out.cell o
 have fb:=fun o=>KB.out.frozen o
 have zb:=KB.out.lt
 have cx:=fun o=>HX.out.cell o
 have fx:=fun o=>HX.out.frozen o
 have zx:=HX.out.lt
 go_wp2_with fail
 refine (l12Follows_any l ws gs b xi _).mono ?_
 rintro e w9 ⟨rfl,hb⟩
 replace HD:=Lib.hid (HD.out.next hb)
 replace KR:=Lib.hid (KR.out.next hb)
 replace HX:=Lib.hid (HX.out.next hb)
 clear hb cl fl zl cb fb zb cx fx zx KL KB
 have cr:=fun o=>KR.out.cell o
 have fr:=fun o=>KR.out.frozen o
 have zr:=KR.out.lt
 have cx:=fun o=>HX.out.cell o
 have fx:=fun o=>HX.out.frozen o
 have zx:=HX.out.lt
 cases hf:followsW l b xi
 ·clear hf
  go_wp2_with fail
  refine bodyPost_ret (v:=inV ⟨0,1,false⟩) (by simp [results,Tryz.results194,go_sem,cr]) rfl ?_
  exact ⟨⟨0,1,false⟩,p+2,rfl,.inr rfl,by omega,((HD.out.set (by show w.heap.size≤w.heap.size+1+1;omega) hg _).set (by show w.heap.size≤w.heap.size+1+1;omega) hg _).set (by show w.heap.size≤w.heap.size+1+1;omega) hg _⟩
 ·have HF:=Lib.hid hf
  clear hf
  go_wp2_with fail
  refine bodyPost_ret (v:=inV xi) (by simp [results,Tryz.results194,go_sem,cr]) rfl ?_
  exact ⟨xi,p+2,rfl,.inl HF.out,by omega,((HD.out.set (by show w.heap.size≤w.heap.size+1+1;omega) hg _).set (by show w.heap.size≤w.heap.size+1+1;omega) hg _).set (by show w.heap.size≤w.heap.size+1+1;omega) hg _⟩
end Go.Proofs.YtkgfmgajhgfgjaaGreatDoor
namespace Go.Proofs.YtkgfmgajhgfgjaaGreatDoor
open Go.RowKit Go.Sort
def RunPost (g p K:Nat) (l:Lvl) (w:World) (e:Ending) (w':World):Prop :=
 ∃ (A:Option Addr) (n c:Nat) (xs:List Inp) (q:Nat),e=.returned (.slice A n c)∧Ow w.heap.size w' 158 3 A n c (cellsN xs)∧legalW l xs<0∧n≤60∧q≤p+K∧Dr w g q w'
theorem Ow.setOff {B T sz n c e:Nat} {A:Option Addr} {w:World} {vs:List Value} (h:Ow B w T sz A n c vs) (hne:∀ x,A.map (·.block)=some x→0<c→x≠e) (o:Nat) (v:Value):Ow B (w.setCell ⟨e,o,none⟩ v) T sz A n c vs :=
 h.keep fun g hg hc=>Below.heap_setCell w ⟨e,o,none⟩ v g (hne g hg hc)
theorem Dr.nine {w0 w:World} {g q b:Nat} (h:Dr w0 g q w) (hb:w0.heap.size≤b) (hg:g<w0.heap.size) (v0 v1 v2 v3 v4 v5 v6 v7 v8:Value):Dr w0 g q (((((((((w.setCell ⟨b,0,none⟩ v0).setCell ⟨b,1,none⟩ v1).setCell ⟨b,2,none⟩ v2).setCell ⟨b,3,none⟩ v3).setCell ⟨b,4,none⟩ v4).setCell ⟨b,5,none⟩ v5).setCell ⟨b,6,none⟩ v6).setCell ⟨b,7,none⟩ v7).setCell ⟨b,8,none⟩ v8) :=
 Dr.sets hg hb [v0,v1,v2,v3,v4,v5,v6,v7,v8] 0 w h
theorem only9 (w:World) (b:Nat) (v0 v1 v2 v3 v4 v5 v6 v7 v8:Value):Only b w (((((((((w.setCell ⟨b,0,none⟩ v0).setCell ⟨b,1,none⟩ v1).setCell ⟨b,2,none⟩ v2).setCell ⟨b,3,none⟩ v3).setCell ⟨b,4,none⟩ v4).setCell ⟨b,5,none⟩ v5).setCell ⟨b,6,none⟩ v6).setCell ⟨b,7,none⟩ v7).setCell ⟨b,8,none⟩ v8) :=
 onlySets (.inl rfl) [v0,v1,v2,v3,v4,v5,v6,v7,v8] 0 w (Only.refl _ _)
abbrev inpC (x:Inp):Array Value:=#[.int .i64 x.s,.int .i64 x.p,.bool x.z]
def RunInv (g p B:Nat) (l:Lvl) (ws gs:Sl) (sb k:Nat) (A:Option Addr) (c:Nat) (w wr:World):Prop :=
 ∃ (q:Nat) (xs:List Inp) (b:Inp) (cs:Car),q≤p+2+2 * k∧Dr w g q wr∧OwLv B wr l ws gs∧Blk wr w.heap.size 29 (lvlC l ws gs)∧Blk wr (w.heap.size+1+1) 158 (inpC b)∧Blk wr sb 93 (carC cs)∧CarOk cs∧Ow (w.heap.size+1+1+1) wr 158 3 A k c (cellsN xs)∧legalW l xs<0
def RunMid (g q B:Nat) (l:Lvl) (ws gs:Sl) (sb e k:Nat) (A A3:Option Addr) (c c3:Nat) (b y:Inp) (xs:List Inp) (cs:Car) (w wr:World):Prop :=
 Dr w g q wr∧OwLv B wr l ws gs∧Blk wr w.heap.size 29 (lvlC l ws gs)∧Blk wr (w.heap.size+1+1) 158 (inpC b)∧Blk wr sb 93 (carC cs)∧Blk wr e 158 (inpC y)∧Ow (w.heap.size+1+1+1) wr 158 3 A k c (cellsN xs)∧Ow (w.heap.size+1+1+1) wr 158 3 A3 (k+1) c3 (cellsN (xs ++ [y]))
set_option maxRecDepth 100000 in
set_option maxHeartbeats 8000000 in
theorem l92Run_any (g p B:Nat) (l:Lvl) (ws gs:Sl) (w:World) (h:Rdr w g p) (hp:p≤1000000) (hl:OwLv B w l ws gs) (hB:g<B) :
  Calls Tryz.prog 115 #[.pointer (some ⟨g,0,none⟩),lvlV l ws gs] w (RunPost g p 200 l w):=by
 have hg:=h.lt
 have H:=Lib.hid h
 have HL0:=Lib.hid hl
 obtain ⟨i0,hi0,hz0,hz1,hz2⟩:=info_parts infoN
 have HI:=Lib.hid hi0
 have HZ:=Lib.hid hz0
 have HS:=Lib.hid hz1
 have HBY:=Lib.hid hz2
 clear h hl hi0 hz0 hz1 hz2
 go_enter Tryz.func115,Tryz.ntmps115
 go_upto_region 3 with (fail)
 refine into_world (fun W=>Dr w g p W∧OwLv B W l ws gs∧Blk W w.heap.size 29 (lvlC l ws gs)∧Blk W (w.heap.size+1+1) 158 #[.int .i64 0,.int .i64 0,.bool false]) ⟨Dr.next ⟨H.out,Only.refl _ _⟩ (ba (ba (ba (Below.refl _ _)))),HL0.out.next (ba (ba (ba (Below.refl _ _)))),((Blk.new _ _ _).alloc _).alloc _,Blk.newAt _ _ _ _ (by simp)⟩ ?_
 rintro W ⟨hD,hOL,hKL,hKB⟩
 have HD:=Lib.hid hD
 have HOL:=Lib.hid hOL
 have KL:=Lib.hid hKL
 have KB:=Lib.hid hKB
 clear hD hOL hKL hKB
 have n0:w.heap.size≠g:=by omega
 have n2:w.heap.size+1+1≠g:=by omega
 go_wp2_with fail
 refine (pick_any g 40 _ _ HD.out.1 (by omega)).mono ?_
 rintro e w1 ⟨v1,rfl,a1,b1,hR,hO⟩
 have c1:=b1 (by omega)
 obtain ⟨n1,rfl⟩:∃ n:Nat,v1=n:=⟨v1.toNat,by omega⟩
 replace HD:=Lib.hid (HD.out.step hR hO)
 replace KL:=Lib.hid (KL.out.only hO n0)
 replace KB:=Lib.hid (KB.out.only hO n2)
 replace HOL:=Lib.hid (HOL.out.only hO hB)
 clear b1 hR hO
 go_wp2_with fail
 refine (pick_any g 3 _ _ HD.out.1 (by omega)).mono ?_
 rintro e w2 ⟨v2,rfl,a2,b2,hR,hO⟩
 replace HD:=Lib.hid (HD.out.step hR hO)
 replace KL:=Lib.hid (KL.out.only hO n0)
 replace KB:=Lib.hid (KB.out.only hO n2)
 replace HOL:=Lib.hid (HOL.out.only hO hB)
 clear b2 hR hO
 go_upto_if 18 with (fail)
 go_cut [7] (fun s wx=>∃ N:Nat,N≤60∧s=.int .i64 N∧Hid (Dr w g (p+1+1) wx∧OwLv B wx l ws gs∧Blk wx w.heap.size 29 (lvlC l ws gs)∧Blk wx (w.heap.size+1+1) 158 #[.int .i64 0,.int .i64 0,.bool false]))
 case first =>
  by_cases h0:0<v2
  ·have h0':decide (0<v2)=true:=by simpa using h0
   go_wp2_with fail
   go_meet
   exact ⟨60,by omega,rfl,HD.out,HOL.out,KL.out,KB.out⟩
  ·have h0':decide (0<v2)=false:=by simpa using h0
   go_wp2_with fail
   go_meet
   exact ⟨n1,by omega,rfl,HD.out,HOL.out,KL.out,KB.out⟩
 case rest =>
  obtain ⟨N,hN,rfl,HH⟩:=hcut
  obtain ⟨hD,hOL,hKL,hKB⟩:=HH.out
  replace HD:=Lib.hid hD
  replace HOL:=Lib.hid hOL
  replace KL:=Lib.hid hKL
  replace KB:=Lib.hid hKB
  clear HH hD hOL hKL hKB a1 a2 c1
  have cl:=fun o=>KL.out.cell o
  have fl:=fun o=>KL.out.frozen o
  have zl:=KL.out.lt
  go_wp2_with fail
  refine (l13Start_any l ws gs _).mono ?_
  rintro e w3 ⟨rfl,hb⟩
  replace HD:=Lib.hid (HD.out.next hb)
  replace HOL:=Lib.hid (HOL.out.next hb)
  replace KL:=Lib.hid (KL.out.next hb)
  replace KB:=Lib.hid (KB.out.next hb)
  clear hb cl fl zl
  rw [show carV (startW l)=.agg #[.int .i64 0,.int .i64 l.sx,.int .i64 l.sy,.int .i64 0,.int .i64 0,.int .i64 0,.int .i64 0,.bool false,.bool false] from rfl]
  go_wp2_with fail
  have hs3:=HD.out.2.size
  have hs3':=KB.out.lt
  have n3:w3.heap.size≠g:=by omega
  go_loopg [5,9] N (fun gg o i wr=>∃ (k:Nat) (A:Option Addr) (c:Nat),k≤N∧N - k≤gg∧o=.slice A k c∧i=.int .i64 k∧Hid (RunInv g p B l ws gs w3.heap.size k A c w wr))
  case atStart=>exact ⟨0,_,0,Nat.zero_le _,by omega,rfl,rfl,p+1+1,[],inp0,startW l,by omega,HD.out.next (ba (Below.refl _ _)),HOL.out.next (ba (Below.refl _ _)),KL.out.alloc _,KB.out.alloc _,Blk.new _ _ _,startW_ok l,Ow.bare _ _ _ _ _,by show (-1:Int)<0;decide⟩
  case round =>
   obtain ⟨k,A,c,hk,hgg,rfl,rfl,HH⟩:=hrel
   obtain ⟨q,xs,b,cs,hq,hD,hOL,hKL,hKB,hKS,hok,hout,hleg⟩:=HH.out
   replace HD:=Lib.hid hD
   replace HOL:=Lib.hid hOL
   replace KL:=Lib.hid hKL
   replace KB:=Lib.hid hKB
   have KS:=Lib.hid hKS
   have HOK:=Lib.hid hok
   have HOUT:=Lib.hid hout
   have HLEG:=Lib.hid hleg
   clear HH hD hOL hKL hKB hKS hok hout hleg
   have cl:=fun o=>KL.out.cell o
   have fl:=fun o=>KL.out.frozen o
   have zl:=KL.out.lt
   by_cases hlt:k<N
   rotate_left
   ·go_wp2_with fail
    go_ret
    exact ⟨A,k,c,xs,q,rfl,HOUT.out.mono (by omega),HLEG.out,by omega,by omega,HD.out⟩
   by_cases htk:(k:Int)<l.ticks
   rotate_left
   ·have htk':decide ((k:Int)<l.ticks)=false:=by simpa using htk
    go_wp2_with fail
    go_ret
    exact ⟨A,k,c,xs,q,rfl,HOUT.out.mono (by omega),HLEG.out,by omega,by omega,HD.out⟩
   have htk':decide ((k:Int)<l.ticks)=true:=by simpa using htk
   obtain ⟨bs,bp,bz⟩:=b
   have cb:=fun o=>KB.out.cell o
   have fb:=fun o=>KB.out.frozen o
   have zb:=KB.out.lt
   go_wp2_with fail
   refine (l92Next_any g _ l ws gs ⟨bs,bp,bz⟩ _ HD.out.1 (by omega)).mono ?_
   rintro e w7 ⟨x,q2,rfl,_,hq2,hD2⟩
   replace HD:=Lib.hid (HD.out.step hD2.1 hD2.2)
   replace KL:=Lib.hid (KL.out.only hD2.2 n0)
   replace KB:=Lib.hid (KB.out.only hD2.2 n2)
   replace KS:=Lib.hid (KS.out.only hD2.2 n3)
   replace HOL:=Lib.hid (HOL.out.only hD2.2 hB)
   replace HOUT:=Lib.hid (HOUT.out.onlyG hD2.2 (by omega))
   clear hD2 cl fl zl cb fb zb
   have hz7:=KB.out.lt
   have hz8:=KS.out.lt
   have HNE:=Lib.hid (fun y hy hc=>Nat.ne_of_lt (HOUT.out.lt hy hc).2:∀ y,A.map (·.block)=some y→0<c→y≠w7.heap.size)
   go_upto_region 11 with (fail)
   refine into_world (fun Y=>Dr w g q2 Y∧OwLv B Y l ws gs∧Blk Y w.heap.size 29 (lvlC l ws gs)∧Blk Y (w.heap.size+1+1) 158 (inpC ⟨bs,bp,bz⟩)∧Blk Y w3.heap.size 93 (carC cs)∧Blk Y w7.heap.size 158 (inpC x)∧Ow (w.heap.size+1+1+1) Y 158 3 A k c (cellsN xs)) ⟨HD.out.next (ba (Below.refl _ _)),HOL.out.next (ba (Below.refl _ _)),KL.out.alloc _,KB.out.alloc _,KS.out.alloc _,Blk.new _ _ _,HOUT.out.alloc _⟩ ?_
   rintro Y ⟨hD,hOL,hKL,hKB,hKS,hKX,hout⟩
   replace HD:=Lib.hid hD
   replace HOL:=Lib.hid hOL
   replace KL:=Lib.hid hKL
   replace KB:=Lib.hid hKB
   replace KS:=Lib.hid hKS
   have KX:=Lib.hid hKX
   replace HOUT:=Lib.hid hout
   clear hD hOL hKL hKB hKS hKX hout
   refine wp_region_grow 5 (by kernel_rfl) (by kernel_rfl) (by kernel_rfl) (fun a b=>Below a.heap.size a b) (fun mq w'=>Below Y.heap.size Y w') (fun iq v w'=>match iq with|0=>(∃ e:Nat,v=.slice (some ⟨e,0,none⟩) 0 0)|1=>(v=.slice A k c)|2=>(∃ (A1:Option Addr) (c1:Nat),v=.slice A1 k c1∧Ow Y.heap.size w' 158 3 A1 k c1 (cellsN xs))|3=>(v=inV x)|4=>(∃ e:Nat,v=.slice (some ⟨e,0,none⟩) 1 1∧Blk w' e 158 (cellsN [x]).toArray)|_=>True) (fun sq=>{ tmps:=#[Value.pointer (some (⟨g,0,none⟩:Addr)),lvlV l ws gs,undef,Value.pointer (some (⟨w.heap.size,0,none⟩:Addr)),u4,Value.slice A k c,Value.pointer (some (⟨w.heap.size+1+1,0,none⟩:Addr)),Value.int .i64 (N:Int),Value.pointer (some (⟨w3.heap.size,0,none⟩:Addr)),Value.int .i64 (k:Int),Value.pointer (some (⟨w7.heap.size,0,none⟩:Addr)),u11,u12,u13,u14,u15,u16,u17,u18,lvlV l ws gs,Value.agg #[Value.int .i64 0,Value.int .i64 l.sx,Value.int .i64 l.sy,Value.int .i64 0,Value.int .i64 0,Value.int .i64 0,Value.int .i64 0,Value.bool false,Value.bool false],Value.int .i64 (k:Int),Value.int .i64 (N:Int),Value.bool true,Value.bool true,Value.int .i64 (k:Int),Value.pointer (some (⟨w.heap.size,1,none⟩:Addr)),Value.int .i64 l.ticks,Value.bool true,Value.bool true,u30,u31,Value.pointer (some (⟨g,0,none⟩:Addr)),lvlV l ws gs,Value.agg #[Value.int .i64 bs,Value.int .i64 bp,Value.bool bz],inV x,sq 0,sq 1,sq 2,sq 3,sq 4,u41,u42,u43,u44,u45,u46,u47,u48,u49,u50,u51,u52,u53,u54,u55,u56,u57,u58,u59,u60,u61,u62,u63,u64,u65,u66,u67],defers:=[] }) (fun j=>match j with|0=>u36|1=>u37|2=>u38|3=>u39|4=>u40|_=>undef) ?_ ?_ ?_ ?_
   ·rintro iq v a b hg h
    match iq,h with
    | 0,h=>exact h
    | 1,h=>exact h
    | 2,h=>exact (by obtain ⟨A1,c1,rfl,h1⟩:=h;exact ⟨A1,c1,rfl,h1.next hg⟩)
    | 3,h=>exact h
    | 4,h=>exact (by obtain ⟨e,rfl,h1⟩:=h;exact ⟨e,rfl,h1.next hg⟩)
    | (kq+5),_=>exact trivial
   ·exact ⟨rfl,rfl,rfl,Nat.le_refl _,fun _ _=>rfl⟩
   ·intro mq sq w' iq oq hmq hiq hoq hJ hd Kq hK
    have hiq':iq=0∨iq=1∨iq=2∨iq=3∨iq=4:=by omega
    rcases hiq' with rfl|rfl|rfl|rfl|rfl
    ·cases (show some _=some oq from hoq)
     have hK':=hK
     simp only [updV,Nat.reduceEqDiff,↓reduceIte] at hK'
     clear hK hd
     generalize sq 0=x0,sq 1=x1,sq 2=x2,sq 3=x3,sq 4=x4 at *
     go_simp
     exact hK' _ _ (ba (Below.refl _ _)) (below_next hJ (ba (Below.refl _ _))) ⟨_,rfl⟩
    ·cases (show some _=some oq from hoq)
     have hK':=hK
     simp only [updV,Nat.reduceEqDiff,↓reduceIte] at hK'
     clear hK hd
     generalize sq 0=x0,sq 1=x1,sq 2=x2,sq 3=x3,sq 4=x4 at *
     go_simp
     exact hK' _ _ (Below.refl _ _) hJ rfl
    ·cases (show some _=some oq from hoq)
     have d0:=hd 0 (by kernel_rfl) (by decide)
     have d1:=hd 1 (by kernel_rfl) (by decide)
     have hK':=hK
     simp only [updV,Nat.reduceEqDiff,↓reduceIte] at hK'
     clear hK hd
     generalize sq 0=x0,sq 1=x1,sq 2=x2,sq 3=x3,sq 4=x4 at *
     obtain ⟨e0,rfl⟩:=d0
     obtain rfl:=d1
     refine step_append_ow _ rfl (.tmp 36) (.tmp 37) _ rfl Y.heap.size 158 i0 _ 3 24 Tryz.underlying30 HI.out HZ.out HS.out HBY.out rfl (by omega) _ 0 0 [] rfl (Ow.bare _ _ _ _ _) _ k c (cellsN xs) rfl (HOUT.out.next hJ).src (cellsX_oneCell encIn_one _) (by unfold maxLen;omega) (by omega) hJ.size ?_
     intro A1 c1 w1 hown hg1 hn1
     simp only [Nat.zero_add,List.nil_append] at hown
     have hb1:Below w'.heap.size w' w1:=⟨hg1.os,hg1.tape,hg1.output,hg1.size,fun i hi=>hg1.block i hi (by simp [ownB])⟩
     simp only [Nat.zero_add]
     exact hK' _ _ hb1 (below_next hJ hb1) ⟨A1,c1,rfl,hown⟩
    ·cases (show some _=some oq from hoq)
     have hK':=hK
     simp only [updV,Nat.reduceEqDiff,↓reduceIte] at hK'
     clear hK hd
     generalize sq 0=x0,sq 1=x1,sq 2=x2,sq 3=x3,sq 4=x4 at *
     have hcc:=fun o=>(KX.out.next hJ).cell o
     go_simp
     exact hK' _ _ (Below.refl _ _) hJ rfl
    ·cases (show some _=some oq from hoq)
     have d3:=hd 3 (by kernel_rfl) (by decide)
     have hK':=hK
     simp only [updV,Nat.reduceEqDiff,↓reduceIte] at hK'
     clear hK hd
     generalize sq 0=x0,sq 1=x1,sq 2=x2,sq 3=x3,sq 4=x4 at *
     obtain rfl:=d3
     go_simp
     exact hK' _ _ (ba (Below.refl _ _)) (below_next hJ (ba (Below.refl _ _))) ⟨_,rfl,Blk.new _ _ _⟩
   ·intro sq w' hJ hφ
    simp only [List.drop_succ_cons,List.drop_zero]
    have d2:=hφ 2 (by decide)
    have d4:=hφ 4 (by decide)
    clear hφ
    generalize sq 0=x0,sq 1=x1,sq 2=x2,sq 3=x3,sq 4=x4 at *
    obtain ⟨A1,c1,rfl,ho1⟩:=d2
    obtain ⟨e4,rfl,hb4⟩:=d4
    have HO1:=Lib.hid ho1
    have HB4:=Lib.hid hb4
    have HBY2:=Lib.hid hJ
    clear ho1 hb4 hJ
    refine wpList_append_ow _ rfl (.tmp 38) (.tmp 40) _ rfl Y.heap.size 158 i0 _ 3 24 Tryz.underlying30 HI.out HZ.out HS.out HBY.out rfl (by omega) _ k c1 (cellsN xs) rfl HO1.out _ 1 1 (cellsN [x]) rfl (Src.blk HB4.out rfl) (cellsX_oneCell encIn_one _) (by unfold maxLen;omega) (by omega) HBY2.out.size ?_
    intro A2 c2 w8 hown hg8 hn8
    rw [← cellsX_append] at hown
    have hb:=HO1.out.grown hg8 HBY2.out (Nat.le_refl _) HBY2.out.size
    have HNX:=Lib.hid (hown.mono (B':=w.heap.size+1+1+1) (by have:=KB.out.lt;omega))
    replace HD:=Lib.hid (HD.out.next hb)
    replace HOL:=Lib.hid (HOL.out.next hb)
    replace KL:=Lib.hid (KL.out.next hb)
    replace KB:=Lib.hid (KB.out.next hb)
    replace KS:=Lib.hid (KS.out.next hb)
    replace KX:=Lib.hid (KX.out.next hb)
    replace HOUT:=Lib.hid (HOUT.out.next hb)
    clear hown hg8 hn8 hb HO1 HB4 HBY2
    have cl:=fun o=>KL.out.cell o
    have fl:=fun o=>KL.out.frozen o
    have zl:=KL.out.lt
    go_wp2_with fail
    refine (l12Legal_any l ws gs A2 (k+1) c2 (xs ++ [x]) _ (Ow.rd encIn_len (by decide) HNX.out) (by omega)).mono ?_
    rintro e w9 ⟨rfl,hb⟩
    replace HD:=Lib.hid (HD.out.next hb)
    replace HOL:=Lib.hid (HOL.out.next hb)
    replace KL:=Lib.hid (KL.out.next hb)
    replace KB:=Lib.hid (KB.out.next hb)
    replace KS:=Lib.hid (KS.out.next hb)
    replace KX:=Lib.hid (KX.out.next hb)
    replace HOUT:=Lib.hid (HOUT.out.next hb)
    replace HNX:=Lib.hid (HNX.out.next hb)
    clear hb cl fl zl
    obtain ⟨vl,hv⟩:∃ v,legalW l (xs ++ [x])=v:=⟨_,rfl⟩
    rw [hv]
    clear hv
    go_upto_if 45 with (fail)
    go_cut [11] (fun s wx=>∃ (y:Inp) (A3:Option Addr) (c3:Nat),s=.slice A3 (k+1) c3∧Hid (RunMid g q2 B l ws gs w3.heap.size w7.heap.size k A A3 c c3 ⟨bs,bp,bz⟩ y xs cs w wx))
    case rest =>
     obtain ⟨y,A3,c3,rfl,HM⟩:=hcut
     obtain ⟨hD,hOL,hKL,hKB,hKS,hKX,hout,hnx⟩:=HM.out
     replace HD:=Lib.hid hD
     replace HOL:=Lib.hid hOL
     replace KL:=Lib.hid hKL
     replace KB:=Lib.hid hKB
     replace KS:=Lib.hid hKS
     replace KX:=Lib.hid hKX
     replace HOUT:=Lib.hid hout
     have HNX:=Lib.hid hnx
     clear HM hD hOL hKL hKB hKS hKX hout hnx
     obtain ⟨ys,yp,yz⟩:=y
     have cl:=fun o=>KL.out.cell o
     have fl:=fun o=>KL.out.frozen o
     have zl:=KL.out.lt
     go_wp2_with fail
     refine (l12Legal_any l ws gs A3 (k+1) c3 (xs ++ [⟨ys,yp,yz⟩]) _ (Ow.rd encIn_len (by decide) HNX.out) (by omega)).mono ?_
     rintro e w10 ⟨rfl,hb⟩
     replace HD:=Lib.hid (HD.out.next hb)
     replace HOL:=Lib.hid (HOL.out.next hb)
     replace KL:=Lib.hid (KL.out.next hb)
     replace KB:=Lib.hid (KB.out.next hb)
     replace KS:=Lib.hid (KS.out.next hb)
     replace KX:=Lib.hid (KX.out.next hb)
     replace HOUT:=Lib.hid (HOUT.out.next hb)
     replace HNX:=Lib.hid (HNX.out.next hb)
     clear hb cl fl zl
     obtain ⟨v2,hv2⟩:∃ v,legalW l (xs ++ [⟨ys,yp,yz⟩])=v:=⟨_,rfl⟩
     rw [hv2]
     have HV2:=Lib.hid hv2
     clear hv2
     by_cases hv:0≤v2
     ·have hv':decide (0≤v2)=true:=by simpa using hv
      go_wp2_with fail
      go_ret
      exact ⟨A,k,c,xs,q2,rfl,HOUT.out.mono (by omega),HLEG.out,by omega,by omega,HD.out⟩
     have hv':decide (0≤v2)=false:=by simpa using hv
     have hlg:legalW l (xs ++ [⟨ys,yp,yz⟩])<0:=by rw [HV2.out];omega
     have hok2:=inOk_bd (legalW_ok hlg ⟨ys,yp,yz⟩ (by simp))
     simp only at hok2
     have HLG:=Lib.hid hlg
     clear hlg HV2
     have cb:=fun o=>KB.out.cell o
     have fb:=fun o=>KB.out.frozen o
     have zb:=KB.out.lt
     have cx:=fun o=>KX.out.cell o
     have fx:=fun o=>KX.out.frozen o
     have zx:=KX.out.lt
     go_upto_region 19 with (fail)
     refine into_world (fun Y=>Dr w g q2 Y∧OwLv B Y l ws gs∧Blk Y w.heap.size 29 (lvlC l ws gs)∧Blk Y (w.heap.size+1+1) 158 (inpC ⟨ys,yp,yz⟩)∧Blk Y w3.heap.size 93 (carC cs)∧Blk Y w7.heap.size 158 (inpC ⟨ys,yp,yz⟩)∧Ow (w.heap.size+1+1+1) Y 158 3 A3 (k+1) c3 (cellsN (xs ++ [⟨ys,yp,yz⟩]))) ⟨(((HD.out.set (by show w.heap.size≤w.heap.size+1+1;omega) hg _).set (by show w.heap.size≤w.heap.size+1+1;omega) hg _).set (by show w.heap.size≤w.heap.size+1+1;omega) hg _),HOL.out.onlyT KB.out (by decide) (Only.set_ (p:=⟨w.heap.size+1+1,2,none⟩) (Only.set_ (p:=⟨w.heap.size+1+1,1,none⟩) (Only.set_ (p:=⟨w.heap.size+1+1,0,none⟩) (Only.refl _ _) (.inl rfl) _) (.inl rfl) _) (.inl rfl) _),(((KL.out.far (p:=⟨w.heap.size+1+1,0,none⟩) (by show w.heap.size≠w.heap.size+1+1;omega) _).far (p:=⟨w.heap.size+1+1,1,none⟩) (by show w.heap.size≠w.heap.size+1+1;omega) _).far (p:=⟨w.heap.size+1+1,2,none⟩) (by show w.heap.size≠w.heap.size+1+1;omega) _),((KB.out.set_ 0 _).set_ 1 _).set_ 2 _,(((KS.out.far (p:=⟨w.heap.size+1+1,0,none⟩) (by show w3.heap.size≠w.heap.size+1+1;omega) _).far (p:=⟨w.heap.size+1+1,1,none⟩) (by show w3.heap.size≠w.heap.size+1+1;omega) _).far (p:=⟨w.heap.size+1+1,2,none⟩) (by show w3.heap.size≠w.heap.size+1+1;omega) _),(((KX.out.far (p:=⟨w.heap.size+1+1,0,none⟩) (by show w7.heap.size≠w.heap.size+1+1;omega) _).far (p:=⟨w.heap.size+1+1,1,none⟩) (by show w7.heap.size≠w.heap.size+1+1;omega) _).far (p:=⟨w.heap.size+1+1,2,none⟩) (by show w7.heap.size≠w.heap.size+1+1;omega) _),HNX.out.onlyB (Only.set_ (p:=⟨w.heap.size+1+1,2,none⟩) (Only.set_ (p:=⟨w.heap.size+1+1,1,none⟩) (Only.set_ (p:=⟨w.heap.size+1+1,0,none⟩) (Only.refl _ _) (.inl rfl) _) (.inl rfl) _) (.inl rfl) _) (Nat.lt_succ_self _)⟩ ?_
     rintro Y3 ⟨hD,hOL,hKL,hKB,hKS,hKX,hnx⟩
     replace HD:=Lib.hid hD
     replace HOL:=Lib.hid hOL
     replace KL:=Lib.hid hKL
     replace KB:=Lib.hid hKB
     replace KS:=Lib.hid hKS
     replace KX:=Lib.hid hKX
     replace HNX:=Lib.hid hnx
     clear hD hOL hKL hKB hKS hKX hnx cx fx zx cb fb zb HOUT HNE
     have cl:=fun o=>KL.out.cell o
     have fl:=fun o=>KL.out.frozen o
     have zl:=KL.out.lt
     have ct:=fun o=>KS.out.cell o
     have ft:=fun o=>KS.out.frozen o
     have zt:=KS.out.lt
     have cx:=fun o=>KX.out.cell o
     have fx:=fun o=>KX.out.frozen o
     have zx:=KX.out.lt
     go_wp2_with fail
     refine (show Calls _ _ #[lvlV l ws gs,carV cs,inV ⟨ys,yp,yz⟩] _ _ from (l13Step_any l ws gs cs ⟨ys,yp,yz⟩ _ HOL.out.rd HOK.out.1 HOK.out.2.1 HOK.out.2.2 hok2.1 hok2.2.1).mono ?_)
     rintro e w11 ⟨rfl,hb⟩
     replace HD:=Lib.hid (HD.out.next hb)
     replace HOL:=Lib.hid (HOL.out.next hb)
     replace KL:=Lib.hid (KL.out.next hb)
     replace KB:=Lib.hid (KB.out.next hb)
     replace KS:=Lib.hid (KS.out.next hb)
     replace HNX:=Lib.hid (HNX.out.next hb)
     clear hb cl fl zl ct ft zt cx fx zx KX
     obtain ⟨c2,hc2⟩:∃ c,stepW l cs ⟨ys,yp,yz⟩=c:=⟨_,rfl⟩
     have HOK2:=Lib.hid (show CarOk c2 by rw [← hc2];exact stepW_ok HOK.out)
     rw [hc2]
     clear hc2
     rw [show carV c2=.agg #[.int .i64 c2.tick,.int .i64 c2.ax,.int .i64 c2.ay,.int .i64 c2.fx,.int .i64 c2.fy,.int .i64 c2.turn,.int .i64 c2.gate,.bool c2.dn,.bool c2.ov] from rfl]
     have ct:=fun o=>KS.out.cell o
     have ft:=fun o=>KS.out.frozen o
     have zt:=KS.out.lt
     go_upto_region 20 with (fail)
     refine into_world (fun Y=>Dr w g q2 Y∧OwLv B Y l ws gs∧Blk Y w.heap.size 29 (lvlC l ws gs)∧Blk Y (w.heap.size+1+1) 158 (inpC ⟨ys,yp,yz⟩)∧Blk Y w3.heap.size 93 (carC c2)∧Ow (w.heap.size+1+1+1) Y 158 3 A3 (k+1) c3 (cellsN (xs ++ [⟨ys,yp,yz⟩]))) ⟨HD.out.nine (by omega) hg _ _ _ _ _ _ _ _ _,HOL.out.onlyT KS.out (by decide) (only9 _ _ _ _ _ _ _ _ _ _ _),KL.out.far9 (by omega) _ _ _ _ _ _ _ _ _,KB.out.far9 (by omega) _ _ _ _ _ _ _ _ _,KS.out.all9 _ _ _ _ _ _ _ _ _,HNX.out.onlyT KS.out (by decide) (only9 _ _ _ _ _ _ _ _ _ _ _)⟩ ?_
     rintro Y4 ⟨hD,hOL,hKL,hKB,hKS,hnx⟩
     replace HD:=Lib.hid hD
     replace HOL:=Lib.hid hOL
     replace KL:=Lib.hid hKL
     replace KB:=Lib.hid hKB
     replace KS:=Lib.hid hKS
     replace HNX:=Lib.hid hnx
     clear hD hOL hKL hKB hKS hnx ct ft zt
     obtain ⟨c2t,c2x,c2y,c2u,c2v,c2r,c2g,dn,c2o⟩:=c2
     have ct:=fun o=>KS.out.cell o
     have ft:=fun o=>KS.out.frozen o
     have zt:=KS.out.lt
     cases dn
     ·go_wp2_with fail
      go_roundg (N - (k+1))
      case measure=>omega
      case rel=>exact ⟨k+1,A3,c3,by omega,by omega,rfl,by go_num,q2,xs ++ [⟨ys,yp,yz⟩],⟨ys,yp,yz⟩,_,by omega,HD.out,HOL.out,KL.out,KB.out,KS.out,HOK2.out,HNX.out,HLG.out⟩
     ·go_wp2_with fail
      go_ret
      exact ⟨A3,k+1,c3,xs ++ [⟨ys,yp,yz⟩],q2,rfl,HNX.out.mono (by omega),HLG.out,by omega,by omega,HD.out⟩
    case first =>
     by_cases hv:0≤vl
     ·have hv':decide (0≤vl)=true:=by simpa using hv
      have cx:=fun o=>KX.out.cell o
      have fx:=fun o=>KX.out.frozen o
      have zx:=KX.out.lt
      go_upto_region 14 with (fail)
      refine into_world (fun Y=>Dr w g q2 Y∧OwLv B Y l ws gs∧Blk Y w.heap.size 29 (lvlC l ws gs)∧Blk Y (w.heap.size+1+1) 158 (inpC ⟨bs,bp,bz⟩)∧Blk Y w3.heap.size 93 (carC cs)∧Blk Y w7.heap.size 158 (inpC ⟨0,0,false⟩)∧Ow (w.heap.size+1+1+1) Y 158 3 A k c (cellsN xs)) ⟨(((HD.out.set (by show w.heap.size≤w7.heap.size;omega) hg _).set (by show w.heap.size≤w7.heap.size;omega) hg _).set (by show w.heap.size≤w7.heap.size;omega) hg _),HOL.out.onlyT KX.out (by decide) (Only.set_ (p:=⟨w7.heap.size,2,none⟩) (Only.set_ (p:=⟨w7.heap.size,1,none⟩) (Only.set_ (p:=⟨w7.heap.size,0,none⟩) (Only.refl _ _) (.inl rfl) _) (.inl rfl) _) (.inl rfl) _),(((KL.out.far (p:=⟨w7.heap.size,0,none⟩) (by show w.heap.size≠w7.heap.size;omega) _).far (p:=⟨w7.heap.size,1,none⟩) (by show w.heap.size≠w7.heap.size;omega) _).far (p:=⟨w7.heap.size,2,none⟩) (by show w.heap.size≠w7.heap.size;omega) _),(((KB.out.far (p:=⟨w7.heap.size,0,none⟩) (by show w.heap.size+1+1≠w7.heap.size;omega) _).far (p:=⟨w7.heap.size,1,none⟩) (by show w.heap.size+1+1≠w7.heap.size;omega) _).far (p:=⟨w7.heap.size,2,none⟩) (by show w.heap.size+1+1≠w7.heap.size;omega) _),(((KS.out.far (p:=⟨w7.heap.size,0,none⟩) (by show w3.heap.size≠w7.heap.size;omega) _).far (p:=⟨w7.heap.size,1,none⟩) (by show w3.heap.size≠w7.heap.size;omega) _).far (p:=⟨w7.heap.size,2,none⟩) (by show w3.heap.size≠w7.heap.size;omega) _),((KX.out.set_ 0 _).set_ 1 _).set_ 2 _,((HOUT.out.setOff HNE.out 0 _).setOff HNE.out 1 _).setOff HNE.out 2 _⟩ ?_
      rintro Y2 ⟨hD,hOL,hKL,hKB,hKS,hKX,hout⟩
      replace HD:=Lib.hid hD
      replace HOL:=Lib.hid hOL
      replace KL:=Lib.hid hKL
      replace KB:=Lib.hid hKB
      replace KS:=Lib.hid hKS
      replace KX:=Lib.hid hKX
      replace HOUT:=Lib.hid hout
      clear hD hOL hKL hKB hKS hKX hout HNX cx fx zx hv hv'
      generalize Value.bool (decide (0≤vl))=b45 at *
      refine wp_region_grow 5 (by kernel_rfl) (by kernel_rfl) (by kernel_rfl) (fun a b=>Below a.heap.size a b) (fun mq w'=>Below Y2.heap.size Y2 w') (fun iq v w'=>match iq with|0=>(∃ e:Nat,v=.slice (some ⟨e,0,none⟩) 0 0)|1=>(v=.slice A k c)|2=>(∃ (A1:Option Addr) (c1:Nat),v=.slice A1 k c1∧Ow Y2.heap.size w' 158 3 A1 k c1 (cellsN xs))|3=>(v=inV (⟨0,0,false⟩:Inp))|4=>(∃ e:Nat,v=.slice (some ⟨e,0,none⟩) 1 1∧Blk w' e 158 (cellsN [(⟨0,0,false⟩:Inp)]).toArray)|_=>True) (fun sq=>{ tmps:=#[Value.pointer (some (⟨g,0,none⟩:Addr)),lvlV l ws gs,undef,Value.pointer (some (⟨w.heap.size,0,none⟩:Addr)),u4,Value.slice A k c,Value.pointer (some (⟨w.heap.size+1+1,0,none⟩:Addr)),Value.int .i64 (N:Int),Value.pointer (some (⟨w3.heap.size,0,none⟩:Addr)),Value.int .i64 (k:Int),Value.pointer (some (⟨w7.heap.size,0,none⟩:Addr)),Value.slice A2 (k+1) c2,u12,u13,u14,u15,u16,u17,u18,lvlV l ws gs,Value.agg #[Value.int .i64 0,Value.int .i64 l.sx,Value.int .i64 l.sy,Value.int .i64 0,Value.int .i64 0,Value.int .i64 0,Value.int .i64 0,Value.bool false,Value.bool false],Value.int .i64 (k:Int),Value.int .i64 (N:Int),Value.bool true,Value.bool true,Value.int .i64 (k:Int),Value.pointer (some (⟨w.heap.size,1,none⟩:Addr)),Value.int .i64 l.ticks,Value.bool true,Value.bool true,u30,u31,Value.pointer (some (⟨g,0,none⟩:Addr)),lvlV l ws gs,Value.agg #[Value.int .i64 bs,Value.int .i64 bp,Value.bool bz],inV x,x0,x1,Value.slice A1 k c1,x3,Value.slice (some (⟨e4,0,none⟩:Addr)) 1 1,Value.slice A2 (k+1) c2,lvlV l ws gs,Value.slice A2 (k+1) c2,Value.int .i64 vl,b45,Value.agg #[Value.int .i64 0,Value.int .i64 0,Value.bool false],sq 0,sq 1,sq 2,sq 3,sq 4,u52,u53,u54,u55,u56,u57,u58,u59,u60,u61,u62,u63,u64,u65,u66,u67],defers:=[] }) (fun j=>match j with|0=>u47|1=>u48|2=>u49|3=>u50|4=>u51|_=>undef) ?_ ?_ ?_ ?_
      ·rintro iq v a b hg h
       match iq,h with
       | 0,h=>exact h
       | 1,h=>exact h
       | 2,h=>exact (by obtain ⟨A1,c1,rfl,h1⟩:=h;exact ⟨A1,c1,rfl,h1.next hg⟩)
       | 3,h=>exact h
       | 4,h=>exact (by obtain ⟨e,rfl,h1⟩:=h;exact ⟨e,rfl,h1.next hg⟩)
       | (kq+5),_=>exact trivial
      ·exact ⟨rfl,rfl,rfl,Nat.le_refl _,fun _ _=>rfl⟩
      ·intro mq sq w' iq oq hmq hiq hoq hJ hd Kq hK
       have hiq':iq=0∨iq=1∨iq=2∨iq=3∨iq=4:=by omega
       rcases hiq' with rfl|rfl|rfl|rfl|rfl
       ·cases (show some _=some oq from hoq)
        have hK':=hK
        simp only [updV,Nat.reduceEqDiff,↓reduceIte] at hK'
        clear hK hd
        generalize sq 0=x0,sq 1=x1,sq 2=x2,sq 3=x3,sq 4=x4 at *
        go_simp
        exact hK' _ _ (ba (Below.refl _ _)) (below_next hJ (ba (Below.refl _ _))) ⟨_,rfl⟩
       ·cases (show some _=some oq from hoq)
        have hK':=hK
        simp only [updV,Nat.reduceEqDiff,↓reduceIte] at hK'
        clear hK hd
        generalize sq 0=x0,sq 1=x1,sq 2=x2,sq 3=x3,sq 4=x4 at *
        go_simp
        exact hK' _ _ (Below.refl _ _) hJ rfl
       ·cases (show some _=some oq from hoq)
        have d0:=hd 0 (by kernel_rfl) (by decide)
        have d1:=hd 1 (by kernel_rfl) (by decide)
        have hK':=hK
        simp only [updV,Nat.reduceEqDiff,↓reduceIte] at hK'
        clear hK hd
        generalize sq 0=x0,sq 1=x1,sq 2=x2,sq 3=x3,sq 4=x4 at *
        obtain ⟨e0,rfl⟩:=d0
        obtain rfl:=d1
        refine step_append_ow _ rfl (.tmp 47) (.tmp 48) _ rfl Y2.heap.size 158 i0 _ 3 24 Tryz.underlying30 HI.out HZ.out HS.out HBY.out rfl (by omega) _ 0 0 [] rfl (Ow.bare _ _ _ _ _) _ k c (cellsN xs) rfl (HOUT.out.next hJ).src (cellsX_oneCell encIn_one _) (by unfold maxLen;omega) (by omega) hJ.size ?_
        intro A1 c1 w1 hown hg1 hn1
        simp only [Nat.zero_add,List.nil_append] at hown
        have hb1:Below w'.heap.size w' w1:=⟨hg1.os,hg1.tape,hg1.output,hg1.size,fun i hi=>hg1.block i hi (by simp [ownB])⟩
        simp only [Nat.zero_add]
        exact hK' _ _ hb1 (below_next hJ hb1) ⟨A1,c1,rfl,hown⟩
       ·cases (show some _=some oq from hoq)
        have hK':=hK
        simp only [updV,Nat.reduceEqDiff,↓reduceIte] at hK'
        clear hK hd
        generalize sq 0=x0,sq 1=x1,sq 2=x2,sq 3=x3,sq 4=x4 at *
        have hcc:=fun o=>(KX.out.next hJ).cell o
        go_simp
        exact hK' _ _ (Below.refl _ _) hJ rfl
       ·cases (show some _=some oq from hoq)
        have d3:=hd 3 (by kernel_rfl) (by decide)
        have hK':=hK
        simp only [updV,Nat.reduceEqDiff,↓reduceIte] at hK'
        clear hK hd
        generalize sq 0=x0,sq 1=x1,sq 2=x2,sq 3=x3,sq 4=x4 at *
        obtain rfl:=d3
        go_simp
        exact hK' _ _ (ba (Below.refl _ _)) (below_next hJ (ba (Below.refl _ _))) ⟨_,rfl,Blk.new _ _ _⟩
      ·intro sq w' hJ hφ
       simp only [List.drop_succ_cons,List.drop_zero]
       have d2:=hφ 2 (by decide)
       have d4:=hφ 4 (by decide)
       clear hφ
       generalize sq 0=x0,sq 1=x1,sq 2=x2,sq 3=x3,sq 4=x4 at *
       obtain ⟨A1,c1,rfl,ho1⟩:=d2
       obtain ⟨e4,rfl,hb4⟩:=d4
       have HO1:=Lib.hid ho1
       have HB4:=Lib.hid hb4
       have HBY2:=Lib.hid hJ
       clear ho1 hb4 hJ
       refine wpList_append_ow _ rfl (.tmp 49) (.tmp 51) _ rfl Y2.heap.size 158 i0 _ 3 24 Tryz.underlying30 HI.out HZ.out HS.out HBY.out rfl (by omega) _ k c1 (cellsN xs) rfl HO1.out _ 1 1 (cellsN [(⟨0,0,false⟩:Inp)]) rfl (Src.blk HB4.out rfl) (cellsX_oneCell encIn_one _) (by unfold maxLen;omega) (by omega) HBY2.out.size ?_
       intro A2 c2 w8 hown hg8 hn8
       rw [← cellsX_append] at hown
       have hb:=HO1.out.grown hg8 HBY2.out (Nat.le_refl _) HBY2.out.size
       have HNX:=Lib.hid (hown.mono (B':=w.heap.size+1+1+1) (by have:=KB.out.lt;omega))
       replace HD:=Lib.hid (HD.out.next hb)
       replace HOL:=Lib.hid (HOL.out.next hb)
       replace KL:=Lib.hid (KL.out.next hb)
       replace KB:=Lib.hid (KB.out.next hb)
       replace KS:=Lib.hid (KS.out.next hb)
       replace KX:=Lib.hid (KX.out.next hb)
       replace HOUT:=Lib.hid (HOUT.out.next hb)
       clear hown hg8 hn8 hb HO1 HB4 HBY2
       go_wp2_with fail
       go_meet
       exact ⟨⟨0,0,false⟩,A2,c2,rfl,HD.out,HOL.out,KL.out,KB.out,KS.out,KX.out,HOUT.out,HNX.out⟩
     ·have hv':decide (0≤vl)=false:=by simpa using hv
      go_wp2_with fail
      go_meet
      exact ⟨x,A2,c2,rfl,HD.out,HOL.out,KL.out,KB.out,KS.out,KX.out,HOUT.out,HNX.out⟩
end Go.Proofs.YtkgfmgajhgfgjaaGreatDoor

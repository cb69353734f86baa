/-
  Lemmas and contracts: YIg. No condition.
-/
import Derived.Test.YtpcjdalgebgofaaGreatDoorKa31
set_option linter.unusedSimpArgs false
set_option linter.unusedVariables false
set_option linter.unusedSectionVars false
namespace Go.Proofs.YtpcjdalgebgofaaGreatDoorY
open Go.RowKit Go.Sort
def InputPost (g p K:Nat) (w:World) (e:Ending) (w':World):Prop:=∃ (x:Inp) (q:Nat),e=.returned (inV x)∧q≤p+K∧Dr w g q w'
set_option maxRecDepth 100000 in
set_option maxHeartbeats 8000000 in
theorem l91Input_any (g p:Nat) (w:World) (h:Rdr w g p) (hp:p≤10000000) :
  Calls Qy.prog 63 #[.pointer (some ⟨g,0,none⟩)] w (InputPost g p 3 w):=by
 have hg:=h.lt
 have hne:w.heap.size≠g:=by omega
 have HD:=Lib.hid (show Dr w g p (w.alloc (.cells #[.int .i64 0,.int .i64 0,.bool false] 74)) from Dr.next ⟨h,Only.refl _ _⟩ (ba (Below.refl _ _)))
 have KR:=Lib.hid (Blk.new w 74 #[.int .i64 0,.int .i64 0,.bool false])
 clear h
 go_enter Qy.func63,Tryz.ntmps63
 go_wp2_with fail
 refine (pick_any g 10 _ _ HD.out.1 (by omega)).mono ?_
 rintro e w1 ⟨v1,rfl,a1,b1,hR,hO⟩
 replace HD:=Lib.hid (HD.out.step hR hO)
 replace KR:=Lib.hid (KR.out.only hO hne)
 clear hR hO
 go_wp2_with fail
 refine (specInputOf_any v1 _).mono ?_
 rintro e w2 ⟨rfl,hb⟩
 replace HD:=Lib.hid (HD.out.next hb)
 replace KR:=Lib.hid (KR.out.next hb)
 have hz2:w.heap.size<w2.heap.size:=KR.out.lt
 have hg2:g<w2.heap.size:=HD.out.1.lt
 clear hb
 generalize (inOf v1).1=x
 generalize (inOf v1).2=ok
 obtain ⟨xs,xp,xz⟩:=x
 go_upto_region 2 with (fail)
 refine into_world (fun Y=>Dr w g (p+1) Y∧Blk Y w.heap.size 74 #[.int .i64 0,.int .i64 0,.bool false]∧Blk Y w2.heap.size 74 #[.int .i64 xs,.int .i64 xp,.bool xz]) ⟨HD.out.next (ba (Below.refl _ _)),KR.out.alloc _,Blk.new _ _ _⟩ ?_
 rintro W ⟨hD,hKR,hKL⟩
 have hneL:w2.heap.size≠g:=by omega
 have hneR:w.heap.size≠w2.heap.size:=by omega
 replace HD:=Lib.hid hD
 replace KR:=Lib.hid hKR
 have KL:=Lib.hid hKL
 clear hD hKR hKL
 go_wp2_with fail
 refine (pick_any g 24 _ _ HD.out.1 (by omega)).mono ?_
 rintro e w4 ⟨v4,rfl,a4,b4,hR,hO⟩
 replace HD:=Lib.hid (HD.out.step hR hO)
 replace KR:=Lib.hid (KR.out.only hO hne)
 replace KL:=Lib.hid (KL.out.only hO hneL)
 clear hR hO b1 b4
 by_cases h0:v4=0
 ·have h0':(v4 == 0)=true:=by simpa using h0
  clear h0
  go_wp2_with fail
  refine (pick_any g 5 _ _ HD.out.1 (by omega)).mono ?_
  rintro e w5 ⟨v5,rfl,a5,b5,hR,hO⟩
  replace HD:=Lib.hid (HD.out.step hR hO)
  replace KR:=Lib.hid (KR.out.only hO hne)
  replace KL:=Lib.hid (KL.out.only hO hneL)
  clear hR hO
  have cl:=fun o=>KL.out.cell o
  have fl:=fun o=>KL.out.frozen o
  have zl:=KL.out.lt
  go_upto_region 9 with (fail)
  refine into_world (fun Y=>Dr w g (p+3) Y∧Blk Y w.heap.size 74 #[.int .i64 0,.int .i64 0,.bool false]∧∃ (xs xp:Int) (xz:Bool),Blk Y w2.heap.size 74 #[.int .i64 xs,.int .i64 xp,.bool xz]) ⟨HD.out.set (by simp;omega) hg _,KR.out.far (p:=⟨w2.heap.size,0,none⟩) hneR _,_,_,_,KL.out.set_ 0 _⟩ ?_
  rintro Y ⟨hD,hKR,xs,xp,xz,hKL⟩
  replace HD:=Lib.hid hD
  replace KR:=Lib.hid hKR
  replace KL:=Lib.hid hKL
  clear hD hKR hKL cl fl zl
  have cl:=fun o=>KL.out.cell o
  have fl:=fun o=>KL.out.frozen o
  have zl:=KL.out.lt
  have cr:=fun o=>KR.out.cell o
  have fr:=fun o=>KR.out.frozen o
  have zr:=KR.out.lt
  go_wp2_with fail
  refine bodyPost_ret (v:=inV ⟨xs,xp,xz⟩) (by simp [results,Tryz.results63,go_sem,cr]) rfl ?_
  exact ⟨⟨xs,xp,xz⟩,p+3,rfl,by omega,((HD.out.set (by simp) hg _).set (by simp) hg _).set (by simp) hg _⟩
 have h0':(v4 == 0)=false:=by simpa using h0
 by_cases h1:v4=1
 ·have h1':(v4 == 1)=true:=by simpa using h1
  clear h0 h1
  go_wp2_with fail
  refine (pick_any g 5 _ _ HD.out.1 (by omega)).mono ?_
  rintro e w5 ⟨v5,rfl,a5,b5,hR,hO⟩
  replace HD:=Lib.hid (HD.out.step hR hO)
  replace KR:=Lib.hid (KR.out.only hO hne)
  replace KL:=Lib.hid (KL.out.only hO hneL)
  clear hR hO
  have cl:=fun o=>KL.out.cell o
  have fl:=fun o=>KL.out.frozen o
  have zl:=KL.out.lt
  go_upto_region 9 with (fail)
  refine into_world (fun Y=>Dr w g (p+3) Y∧Blk Y w.heap.size 74 #[.int .i64 0,.int .i64 0,.bool false]∧∃ (xs xp:Int) (xz:Bool),Blk Y w2.heap.size 74 #[.int .i64 xs,.int .i64 xp,.bool xz]) ⟨HD.out.set (by simp;omega) hg _,KR.out.far (p:=⟨w2.heap.size,1,none⟩) hneR _,_,_,_,KL.out.set_ 1 _⟩ ?_
  rintro Y ⟨hD,hKR,xs,xp,xz,hKL⟩
  replace HD:=Lib.hid hD
  replace KR:=Lib.hid hKR
  replace KL:=Lib.hid hKL
  clear hD hKR hKL cl fl zl
  have cl:=fun o=>KL.out.cell o
  have fl:=fun o=>KL.out.frozen o
  have zl:=KL.out.lt
  have cr:=fun o=>KR.out.cell o
  have fr:=fun o=>KR.out.frozen o
  have zr:=KR.out.lt
  go_wp2_with fail
  refine bodyPost_ret (v:=inV ⟨xs,xp,xz⟩) (by simp [results,Tryz.results63,go_sem,cr]) rfl ?_
  exact ⟨⟨xs,xp,xz⟩,p+3,rfl,by omega,((HD.out.set (by simp) hg _).set (by simp) hg _).set (by simp) hg _⟩
 have h1':(v4 == 1)=false:=by simpa using h1
 by_cases h2:v4=2
 ·have h2':(v4 == 2)=true:=by simpa using h2
  clear h0 h1 h2
  have cl:=fun o=>KL.out.cell o
  have fl:=fun o=>KL.out.frozen o
  have zl:=KL.out.lt
  go_upto_region 9 with (fail)
  refine into_world (fun Y=>Dr w g (p+2) Y∧Blk Y w.heap.size 74 #[.int .i64 0,.int .i64 0,.bool false]∧∃ (xs xp:Int) (xz:Bool),Blk Y w2.heap.size 74 #[.int .i64 xs,.int .i64 xp,.bool xz]) ⟨HD.out.set (by simp;omega) hg _,KR.out.far (p:=⟨w2.heap.size,2,none⟩) hneR _,_,_,_,KL.out.set_ 2 _⟩ ?_
  rintro Y ⟨hD,hKR,xs,xp,xz,hKL⟩
  replace HD:=Lib.hid hD
  replace KR:=Lib.hid hKR
  replace KL:=Lib.hid hKL
  clear hD hKR hKL cl fl zl
  have cl:=fun o=>KL.out.cell o
  have fl:=fun o=>KL.out.frozen o
  have zl:=KL.out.lt
  have cr:=fun o=>KR.out.cell o
  have fr:=fun o=>KR.out.frozen o
  have zr:=KR.out.lt
  go_wp2_with fail
  refine bodyPost_ret (v:=inV ⟨xs,xp,xz⟩) (by simp [results,Tryz.results63,go_sem,cr]) rfl ?_
  exact ⟨⟨xs,xp,xz⟩,p+2,rfl,by omega,((HD.out.set (by simp) hg _).set (by simp) hg _).set (by simp) hg _⟩
 have h2':(v4 == 2)=false:=by simpa using h2
 clear h0 h1 h2
 have cl:=fun o=>KL.out.cell o
 have fl:=fun o=>KL.out.frozen o
 have zl:=KL.out.lt
 have cr:=fun o=>KR.out.cell o
 have fr:=fun o=>KR.out.frozen o
 have zr:=KR.out.lt
 go_wp2_with fail
 refine bodyPost_ret (v:=inV ⟨xs,xp,xz⟩) (by simp [results,Tryz.results63,go_sem,cr]) rfl ?_
 exact ⟨⟨xs,xp,xz⟩,p+2,rfl,by omega,((HD.out.set (by simp) hg _).set (by simp) hg _).set (by simp) hg _⟩
theorem Ow.cut {B T sz n c k:Nat} {A:Option Addr} {w:World} {vs:List Value} (h:Ow B w T sz A n c vs) (hk:k≤n):Ow B w T sz A k c (vs.take (k * sz)):=by
 have hl:=h.len
 rcases Nat.eq_zero_or_pos c with hc|hc
 ·have hle:=h.le
  have hk0:k=0:=by omega
  subst hk0 hc
  rw [Nat.zero_mul,List.take_zero]
  exact Ow.bare _ _ _ _ _
 ·obtain ⟨g,cur,rfl,hB,hb,hnc,hm,hs,ht⟩:=h.blk hc
  have hks:k * sz≤n * sz:=Nat.mul_le_mul_right _ hk
  refine Ow.mk_ ?_ hB hb (by omega) hm hs ?_
  ·rw [List.length_take,hl,Nat.min_eq_left hks]
  ·rw [← ht,List.take_take,Nat.min_eq_left hks]
def HashPost (g p K n:Nat) (w:World) (e:Ending) (w':World):Prop :=
 ∃ (A:Option Addr) (m c:Nat) (zs:List Int) (q:Nat),e=.returned (.slice A m c)∧Ow w.heap.size w' 3 1 A m c (cellsI zs)∧m≤n+1∧q≤p+K∧Dr w g q w'
set_option maxRecDepth 100000 in
set_option maxHeartbeats 8000000 in
theorem l92Hashes_any (g p:Nat) (A:Option Addr) (n c:Nat) (zs:List Int) (w:World) (h:Rdr w g p) (hp:p≤10000000) (hr:RdI .i64 w A n zs) (hn:n≤100000) :
  Calls Qy.prog 62 #[.pointer (some ⟨g,0,none⟩),.slice A n c] w (HashPost g p 3 n w):=by
 have hg:=h.lt
 obtain ⟨i0,hi0,hy0,hy1,hy2⟩:=info_parts infoZ
 have HI:=Lib.hid hi0
 have HZ:=Lib.hid hy0
 have HS:=Lib.hid hy1
 have HBY:=Lib.hid hy2
 have HR:=Lib.hid hr
 have HD:=Lib.hid (show Dr w g p (w.alloc (.cells #[] 3)) from Dr.next ⟨h,Only.refl _ _⟩ (ba (Below.refl _ _)))
 clear hi0 hy0 hy1 hy2 hr h
 go_enter Qy.func62,Tryz.ntmps62
 go_wp2_with (at_builtin;refine wpList_append_ow _ rfl (.tmp 6) (.tmp 7) _ rfl w.heap.size 3 i0 _ 1 8 (Qy.un Tryz.underlying31) HI.out HZ.out HS.out HBY.out rfl (by omega) _ 0 0 _ rfl (Ow.bare _ _ _ _ _) _ n c (cellsI zs) rfl (Src.ints (HR.out.below (ba (Below.refl _ _)))) (cellsI_one _) (by unfold maxLen;omega) (by omega) (by simp) ?_;intro A1 c1 w1 hown1 hg1 hn1;have HO1:=Lib.hid hown1;have HG1:=Lib.hid hg1;clear hown1 hg1 hn1)
 have HOW:=Lib.hid (show Ow w.heap.size w1 3 1 A1 n c1 (cellsI zs) by have h:=HO1.out;rw [Nat.zero_add,List.nil_append] at h;exact h)
 replace HD:=Lib.hid (HD.out.grown hg HG1.out (fun b hb=>by simp [ownB] at hb))
 have hlz:=HR.out.len
 clear HO1 HG1
 refine (pick_any g 6 _ _ HD.out.1 (by omega)).mono ?_
 rintro e w2 ⟨v2,rfl,a2,b2,hR,hO⟩
 replace HOW:=Lib.hid (HOW.out.onlyG hO hg)
 replace HD:=Lib.hid (HD.out.step hR hO)
 clear hR hO b2
 by_cases h0:v2=0
 ·have h0':(v2 == 0)=true:=by simpa using h0
  clear h0
  go_wp2_with fail
  refine (pick_any g 100 _ _ HD.out.1 (by omega)).mono ?_
  rintro e w5 ⟨v5,rfl,a5,b5,hR,hO⟩
  replace HOW:=Lib.hid (HOW.out.onlyG hO hg)
  replace HD:=Lib.hid (HD.out.step hR hO)
  clear hR hO
  have hs5:=HD.out.2.size
  go_wp2_with (at_builtin;refine wpList_append_ow _ rfl (.tmp 13) (.tmp 16) _ rfl w.heap.size 3 i0 _ 1 8 (Qy.un Tryz.underlying31) HI.out HZ.out HS.out HBY.out rfl (by omega) _ n c1 _ rfl (HOW.out.alloc _) _ 1 1 (cellsI [v5]) rfl (Src.blk (Blk.new _ _ _) rfl) (cellsI_one _) (by unfold maxLen;omega) (by omega) (by simp;omega) ?_;intro A6 c6 w6 hown6 hg6 hn6;have HO6:=Lib.hid hown6;have HG6:=Lib.hid hg6;clear hown6 hg6 hn6)
  go_ret
  refine ⟨A6,n+1,c6,zs ++ [v5],p+2,rfl,?_,Nat.le_refl _,by omega,(HD.out.next (ba (Below.refl _ _))).grown hg HG6.out (fun b hb=>row_base HOW.out b hb)⟩
  show Ow _ _ _ 1 _ _ _ (List.map (Value.int .i64) (zs ++ [v5]))
  rw [List.map_append]
  exact HO6.out
 have h0':(v2 == 0)=false:=by simpa using h0
 by_cases h1:v2=1
 ·have h1':(v2 == 1)=true:=by simpa using h1
  clear h0 h1
  go_wp2_with fail
  refine (pick_any g ((n:Int)+1) _ _ HD.out.1 (by omega)).mono ?_
  rintro e w5 ⟨v5,rfl,a5,b5,hR,hO⟩
  replace HOW:=Lib.hid (HOW.out.onlyG hO hg)
  replace HD:=Lib.hid (HD.out.step hR hO)
  clear hR hO
  have c5:=b5 (by omega)
  obtain ⟨k,rfl⟩:=Int.eq_ofNat_of_zero_le a5
  have hk:k≤n:=by omega
  have hnc:=HOW.out.le
  have hkc:k≤c1:=by omega
  clear b5
  go_wp2_with fail
  go_ret
  refine ⟨A1,k,c1,zs.take k,p+2,rfl,?_,by omega,by omega,HD.out⟩
  have h:=HOW.out.cut hk
  rw [Nat.mul_one] at h
  show Ow _ _ _ 1 _ _ _ (List.map (Value.int .i64) (zs.take k))
  rw [List.map_take]
  exact h
 have h1':(v2 == 1)=false:=by simpa using h1
 by_cases h2:v2=2∨v2=3
 ·rcases Nat.eq_zero_or_pos n with hn0|hn0
  ·have hn0':decide ((0:Int)<(n:Int))=false:=by simp;omega
   subst hn0
   rcases h2 with rfl|rfl
   ·go_wp2_with fail
    go_ret
    exact ⟨A1,0,c1,zs,p+1,rfl,HOW.out,by omega,by omega,HD.out⟩
   ·go_wp2_with fail
    go_ret
    exact ⟨A1,0,c1,zs,p+1,rfl,HOW.out,by omega,by omega,HD.out⟩
  ·have hn0':decide ((0:Int)<(n:Int))=true:=by simp;omega
   have hn0i:(0:Int)<(n:Int):=by omega
   rcases h2 with rfl|rfl
   ·clear h0 h1
    go_wp2_with fail
    refine (pick_any g (n:Int) _ _ HD.out.1 (by omega)).mono ?_
    rintro e w5 ⟨v5,rfl,a5,b5,hR,hO⟩
    replace HOW:=Lib.hid (HOW.out.onlyG hO hg)
    replace HD:=Lib.hid (HD.out.step hR hO)
    clear hR hO
    have c5:=b5 hn0i
    obtain ⟨k,rfl⟩:=Int.eq_ofNat_of_zero_le a5
    have hk:k<n:=by omega
    clear b5
    go_wp2_with fail
    refine (pick_any g 100 _ _ HD.out.1 (by omega)).mono ?_
    rintro e w6 ⟨v6,rfl,a6,b6,hR,hO⟩
    replace HOW:=Lib.hid (HOW.out.onlyG hO hg)
    replace HD:=Lib.hid (HD.out.step hR hO)
    clear hR hO
    obtain ⟨b,cur,rfl,hB,hbk,hnc,hm,hs,ht⟩:=HOW.out.blk (Nat.lt_of_lt_of_le hn0 HOW.out.le)
    obtain ⟨b',off,z,hA,hbl,hz,hc⟩:=HOW.out.rdI.at_ hk
    injection hA with hA
    injection hA with hA hA'
    subst hA hA'
    have hfz:=hbk.frozen k
    rw [Nat.zero_add] at hc
    clear hbk hs ht hz b6
    go_wp2_with fail
    go_ret
    refine ⟨_,n,c1,zs.set k (wrap64 (100 * v6)),p+3,rfl,?_,by omega,by omega,HD.out.set (a:=⟨b,k,none⟩) hB hg _⟩
    have h:=HOW.out.set_ (j:=k) (by simp [cellsI];omega) (.int .i64 (wrap64 (100 * v6)))
    show Ow _ _ _ 1 _ _ _ (List.map (Value.int .i64) (zs.set k _))
    rw [List.map_set]
    exact h
   ·clear h0 h1
    go_wp2_with fail
    refine (pick_any g (n:Int) _ _ HD.out.1 (by omega)).mono ?_
    rintro e w5 ⟨v5,rfl,a5,b5,hR,hO⟩
    replace HOW:=Lib.hid (HOW.out.onlyG hO hg)
    replace HD:=Lib.hid (HD.out.step hR hO)
    clear hR hO
    have c5:=b5 hn0i
    obtain ⟨k,rfl⟩:=Int.eq_ofNat_of_zero_le a5
    have hk:k<n:=by omega
    clear b5
    go_wp2_with fail
    refine (pick_any g 100 _ _ HD.out.1 (by omega)).mono ?_
    rintro e w6 ⟨v6,rfl,a6,b6,hR,hO⟩
    replace HOW:=Lib.hid (HOW.out.onlyG hO hg)
    replace HD:=Lib.hid (HD.out.step hR hO)
    clear hR hO
    obtain ⟨b,cur,rfl,hB,hbk,hnc,hm,hs,ht⟩:=HOW.out.blk (Nat.lt_of_lt_of_le hn0 HOW.out.le)
    obtain ⟨b',off,z,hA,hbl,hz,hc⟩:=HOW.out.rdI.at_ hk
    injection hA with hA
    injection hA with hA hA'
    subst hA hA'
    have hfz:=hbk.frozen k
    rw [Nat.zero_add] at hc
    clear hbk hs ht hz b6
    go_wp2_with fail
    go_ret
    refine ⟨_,n,c1,zs.set k (wrap64 (100 * v6)),p+3,rfl,?_,by omega,by omega,HD.out.set (a:=⟨b,k,none⟩) hB hg _⟩
    have h:=HOW.out.set_ (j:=k) (by simp [cellsI];omega) (.int .i64 (wrap64 (100 * v6)))
    show Ow _ _ _ 1 _ _ _ (List.map (Value.int .i64) (zs.set k _))
    rw [List.map_set]
    exact h
 ·have h2':(v2 == 2)=false:=by simp;omega
  have h3':(v2 == 3)=false:=by simp;omega
  clear h0 h1 h2
  go_wp2_with fail
  go_ret
  exact ⟨A1,n,c1,zs,p+1,rfl,HOW.out,by omega,by omega,HD.out⟩
end Go.Proofs.YtpcjdalgebgofaaGreatDoorY

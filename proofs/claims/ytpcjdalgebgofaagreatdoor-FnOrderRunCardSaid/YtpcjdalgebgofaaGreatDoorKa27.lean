/-
  Lemmas and contracts: YEi YWp YNw YKd YDh. No condition.
-/
import Derived.Deep.MidRow
import Derived.Test.YtpcjdalgebgofaaGreatDoorKa12
import Derived.Test.YtpcjdalgebgofaaGreatDoorKa15
import Derived.Test.YtpcjdalgebgofaaGreatDoorKa16
import Derived.Test.YtpcjdalgebgofaaGreatDoorKa26
set_option linter.unusedSimpArgs false
set_option linter.unusedVariables false
set_option linter.unusedSectionVars false
namespace Go.Proofs.YtpcjdalgebgofaaGreatDoorY
open Go.RowKit Go.Sort
def differW (a b:List Int) (i:Nat):Bool:=decide (a.length≤i) || decide (b.length≤i) || ((a[i]?).getD 0 != (b[i]?).getD 0)
set_option maxRecDepth 100000 in
set_option maxHeartbeats 2000000 in
theorem l22Differ_any (A1 A2:Option Addr) (n1 c1 n2 c2 k:Nat) (a b:List Int) (w:World) (h1:RdI .i64 w A1 n1 a) (h2:RdI .i64 w A2 n2 b) (hk:k≤1099511627776) :
  Calls Qy.prog 109 #[.slice A1 n1 c1,.slice A2 n2 c2,.int .i64 k] w fun e w'=>e=.returned (.bool (differW a b k))∧Below w.heap.size w w':=by
 have HA:=Lib.hid h1
 have HB0:=Lib.hid h2
 clear h1 h2
 by_cases q1:n1≤k
 ·have q1':decide ((n1:Int)≤(k:Int))=true:=by simp;omega
  go_enter Qy.func109,Tryz.ntmps109
  go_wp2_with fail
  refine wp_region_qb (by kernel_rfl) (by kernel_rfl) ?_
  repeat (go_big_quiet_step ((fail)))
  refine wpQuiet_nil ?_
  intro w4 hb
  have HB:=Lib.hid hb
  clear hb
  go_wp2_with fail
  go_ret
  exact ⟨ret_bool (by simp [differW,HA.out.len,HB0.out.len,q1]),HB.out⟩
 ·have q1':decide ((n1:Int)≤(k:Int))=false:=by simp;omega
  by_cases q2:n2≤k
  ·have q2':decide ((n2:Int)≤(k:Int))=true:=by simp;omega
   go_enter Qy.func109,Tryz.ntmps109
   go_wp2_with fail
   refine wp_region_qb (by kernel_rfl) (by kernel_rfl) ?_
   repeat (go_big_quiet_step ((fail)))
   refine wpQuiet_nil ?_
   intro w4 hb
   have HB:=Lib.hid hb
   clear hb
   go_wp2_with fail
   go_ret
   exact ⟨ret_bool (by simp [differW,HA.out.len,HB0.out.len,q2]),HB.out⟩
  ·have q2':decide ((n2:Int)≤(k:Int))=false:=by simp;omega
   obtain ⟨b1,o1,x,hA1,hl1,hx,hc1⟩:=HA.out.at_ (j:=k) (by omega)
   obtain ⟨b2,o2,y,hA2,hl2,hy,hc2⟩:=HB0.out.at_ (j:=k) (by omega)
   subst hA1 hA2
   have r1:=fun d os=>cell_regrown hc1 d os
   have r2:=fun d os=>cell_regrown hc2 d os
   have HX:=Lib.hid hx
   have HY:=Lib.hid hy
   clear hx hy hc1 hc2
   by_cases hxy:x=y
   ·have hxy':(x == y)=true:=by simpa using hxy
    have hxq:(x != y)=false:=by simpa using hxy
    have HXY:=Lib.hid hxy
    clear hxy
    go_enter Qy.func109,Tryz.ntmps109
    go_wp2_with fail
    refine wp_region_qb (by kernel_rfl) (by kernel_rfl) ?_
    repeat (go_big_quiet_step ((fail)))
    refine wpQuiet_nil ?_
    intro w4 hb
    have HB:=Lib.hid hb
    clear hb
    go_wp2_with fail
    go_ret
    exact ⟨ret_bool (by simp [differW,HA.out.len,HB0.out.len,q1,q2,HX.out,HY.out,HXY.out]),HB.out⟩
   ·have hxy':(x == y)=false:=by simpa using hxy
    have hxq:(x != y)=true:=by simpa using hxy
    have HXY:=Lib.hid hxy
    clear hxy
    go_enter Qy.func109,Tryz.ntmps109
    go_wp2_with fail
    refine wp_region_qb (by kernel_rfl) (by kernel_rfl) ?_
    repeat (go_big_quiet_step ((fail)))
    refine wpQuiet_nil ?_
    intro w4 hb
    have HB:=Lib.hid hb
    clear hb
    go_wp2_with fail
    go_ret
    exact ⟨ret_bool (by simp [differW,HA.out.len,HB0.out.len,q1,q2,HX.out,HY.out,HXY.out]),HB.out⟩
def divGo (a b:List Int):Nat→Nat→Int
 | 0,_ => -1
 | f+1,i=>if differW a b i then i else divGo a b f (i+1)
def divW (a b:List Int):Int:=divGo a b (max a.length b.length) 0
set_option maxRecDepth 100000 in
set_option maxHeartbeats 2000000 in
theorem specDivergeFirst_any (A1 A2:Option Addr) (n1 c1 n2 c2:Nat) (a b:List Int) (w:World) (h1:RdI .i64 w A1 n1 a) (h2:RdI .i64 w A2 n2 b) (hn1:n1≤1048576) (hn2:n2≤1048576) :
  Calls Qy.prog 79 #[.slice A1 n1 c1,.slice A2 n2 c2] w fun e w'=>e=.returned (.int .i64 (divW a b))∧Below w.heap.size w w':=by
 have HA:=Lib.hid h1
 have HB0:=Lib.hid h2
 clear h1 h2
 obtain ⟨N,hN⟩:∃ N,max n1 n2=N:=⟨_,rfl⟩
 have hmx:(if (n1:Int)<(n2:Int) then (n2:Int) else (n1:Int))=(N:Int):=by split <;> omega
 have hmx2:max (n1:Int) (n2:Int)=(N:Int):=by omega
 have hmx3:(if n1<n2 then (n2:Int) else (n1:Int))=(N:Int):=by split <;> omega
 have hNb:N≤1048576:=by omega
 have HD:=Lib.hid (show divW a b=divGo a b N 0 by unfold divW;rw [HA.out.len,HB0.out.len,hN])
 clear hN
 go_enter Qy.func79,Tryz.ntmps79
 go_wp2_with fail
 go_loopw [5] (fun i wr=>∃ k:Nat,k≤N∧i=.int .i64 k∧Hid (Below w.heap.size w wr∧divW a b=divGo a b (N - k) k)) (fun i _=>N - (intOf i).toNat)
 case atStart=>exact ⟨0,Nat.zero_le _,rfl,Below.refl _ _,HD.out⟩
 case round =>
  obtain ⟨k,hk,rfl,HQ⟩:=hrel
  obtain ⟨HB,HG⟩:=HQ.out
  replace HB:=Lib.hid HB
  replace HG:=Lib.hid HG
  clear HQ
  by_cases hlt:k<N
  ·have HST:=Lib.hid (show divW a b=if differW a b k then (k:Int) else divGo a b (N - (k+1)) (k+1) by rw [HG.out,show N - k=(N - (k+1))+1 by omega,divGo])
   go_wp2_with fail
   refine (l22Differ_any A1 A2 n1 c1 n2 c2 k a b _ (HA.out.below HB.out) (HB0.out.below HB.out) (by omega)).mono ?_
   rintro e w1 ⟨rfl,hb⟩
   replace HB:=Lib.hid (below_next HB.out hb)
   clear hb
   cases hd:differW a b k
   ·have HE:=Lib.hid (show divW a b=divGo a b (N - (k+1)) (k+1) by rw [HST.out,hd];rfl)
    clear hd
    go_wp2_with fail
    exact ⟨⟨k+1,by omega,by go_num,HB.out,HE.out⟩,by simp [intOf];omega⟩
   ·have HE:=Lib.hid (show divW a b=k by rw [HST.out,hd];rfl)
    clear hd
    go_wp2_with fail
    go_ret
    exact ⟨ret_int (by rw [HE.out]),HB.out⟩
  ·have hkn:k=N:=by omega
   subst hkn
   have HE:=Lib.hid (show divW a b = -1 by rw [HG.out,Nat.sub_self,divGo])
   go_wp2_with fail
   go_ret
   exact ⟨ret_int (by rw [HE.out]),HB.out⟩
noncomputable def runV (l:Lvl) (r:Rep):Int :=
 let c:=runW l r.ins r.ins.length
 if c.ov then 6 else if 0≤divW (hashesW l r.ins) r.hs then 7 else if c.dn=false∨c.tick≠(r.ins.length:Int) then 8 else if c.tick≠r.sc then 9 else 0
noncomputable def verdW (l:Lvl) (key:Int) (r:Rep):Int :=
 if repOk r=false then 1 else if levelOk l=false∨l.id≠r.lv then 2 else if inR key 1 9999=false then 3 else if tagW key (listW r)≠r.tag then 4 else if 0≤legalW l r.ins then 5 else runV l r
set_option maxRecDepth 100000 in
set_option maxHeartbeats 4000000 in
theorem l31Run_any (l:Lvl) (ws gs:Sl) (r:Rep) (si sh:Sl) (w:World) (hl:RdL w l ws gs) (hr:RdR w r si sh) (hx:∀ x ∈ r.ins,inOk x=true) :
  Calls Qy.prog 38 #[lvlV l ws gs,repV r si sh] w fun e w'=>e=.returned (.int .i64 (runV l r))∧Below w.heap.size w w':=by
 obtain ⟨hi,hh,⟨_,hn1⟩,_,hn2⟩:=hr
 have HIN:=Lib.hid hi
 have HH:=Lib.hid hh
 have HL:=Lib.hid hl
 have HX:=Lib.hid hx
 clear hi hh hl hx
 go_enter Qy.func38,Tryz.ntmps38
 go_wp2_with fail
 refine (l21To_any l ws gs si.a si.n si.c si.n r.ins _ (HL.out.below (ba (ba (Below.refl _ _)))) (HIN.out.below (ba (ba (Below.refl _ _)))) hn1 (Nat.le_refl _) HX.out).mono ?_
 rintro e w1 ⟨rfl,hb⟩
 have KL:=Lib.hid (((Blk.new w 29 (lvlC l ws gs)).alloc _).next hb)
 have KR:=Lib.hid ((Blk.newAt _ 33 (repC r si sh) (w.heap.size+1) (by simp)).next hb)
 have HB:=Lib.hid (ba (ba hb))
 clear hb
 obtain ⟨car,hcr⟩:∃ c,runW l r.ins si.n=c:=⟨_,rfl⟩
 rw [hcr]
 have HCR:=Lib.hid (show runW l r.ins r.ins.length=car by rw [HIN.out.len];exact hcr)
 have HLEN:=Lib.hid HIN.out.len
 clear hcr
 obtain ⟨tick,ax,ay,fx,fy,turn,gate,dn,ov⟩:=car
 rw [show carV ⟨tick,ax,ay,fx,fy,turn,gate,dn,ov⟩=.agg #[.int .i64 tick,.int .i64 ax,.int .i64 ay,.int .i64 fx,.int .i64 fy,.int .i64 turn,.int .i64 gate,.bool dn,.bool ov] from rfl]
 cases ov
 rotate_left
 ·go_wp2_with fail
  go_ret
  exact ⟨ret_int (by simp [runV,HCR.out]),HB.out.alloc HB.out.size _⟩
 go_upto_region 4 with (fail)
 refine into_world (fun W=>Below w1.heap.size w1 W∧Blk W w1.heap.size 45 (carC ⟨tick,ax,ay,fx,fy,turn,gate,dn,false⟩)) ⟨ba (Below.refl _ _),Blk.new _ _ _⟩ ?_
 rintro W ⟨hb,hk⟩
 have KO:=Lib.hid hk
 replace KL:=Lib.hid (KL.out.next hb)
 replace KR:=Lib.hid (KR.out.next hb)
 replace HB:=Lib.hid (below_next HB.out hb)
 clear hb hk
 have HLW:=Lib.hid (HL.out.below HB.out)
 have HNW:=Lib.hid (HIN.out.below HB.out)
 have HHW:=Lib.hid (HH.out.below HB.out)
 obtain ⟨h,hh⟩:∃ h,(hashesW l r.ins).length=h:=⟨_,rfl⟩
 have HHL:=Lib.hid hh
 have hhb:h≤1048576:=by
  rw [← hh]
  unfold hashesW
  split
  ·simp;have:=HIN.out.len;omega
  ·simp
 clear hh
 obtain ⟨dv,hdv⟩:∃ d,divW (hashesW l r.ins) r.hs=d:=⟨_,rfl⟩
 have HDV:=Lib.hid hdv
 clear hdv
 by_cases hd0:0≤dv
 ·have hd0':decide (0≤dv)=true:=by simpa using hd0
  have HRV:=Lib.hid (show runV l r=7 by simp [runV,HCR.out,HDV.out,hd0])
  clear hd0
  refine wp_region_grow 8 (by kernel_rfl) (by kernel_rfl) (by kernel_rfl) (fun a b=>Below a.heap.size a b) (fun mq w'=>Below W.heap.size W w') (fun iq v w'=>match iq with|0=>(v=lvlV l ws gs)|1=>(v=.pointer (some ⟨w.heap.size+1,3,none⟩))|2=>(v=.slice si.a si.n si.c)|3=>(∃ B c',v=.slice B h c'∧Ow 0 w' 3 1 B h c' (cellsI (hashesW l r.ins)))|4=>(v=.pointer (some ⟨w.heap.size+1,4,none⟩))|5=>(v=.slice sh.a sh.n sh.c)|6=>(v=.int .i64 dv)|7=>(v=.bool true)|_=>True) (fun sq=>{ tmps:=#[lvlV l ws gs,repV r si sh,Value.pointer (some (⟨w.heap.size,0,none⟩:Addr)),Value.pointer (some (⟨w.heap.size+1,0,none⟩:Addr)),Value.int .i64 0,Value.pointer (some (⟨w1.heap.size,0,none⟩:Addr)),Value.agg #[Value.int .i64 l.id,Value.int .i64 l.ticks,Value.int .i64 l.sx,Value.int .i64 l.sy,Value.slice ws.a ws.n ws.c,Value.slice gs.a gs.n gs.c,Value.int .i64 l.f.1,Value.int .i64 l.f.2.1,Value.int .i64 l.f.2.2.1,Value.int .i64 l.f.2.2.2,Value.int .i64 l.bans],Value.pointer (some (⟨w.heap.size+1,3,none⟩:Addr)),Value.slice si.a si.n si.c,Value.pointer (some (⟨w.heap.size+1,3,none⟩:Addr)),Value.slice si.a si.n si.c,Value.int .i64 (si.n:Int),Value.agg #[Value.int .i64 tick,Value.int .i64 ax,Value.int .i64 ay,Value.int .i64 fx,Value.int .i64 fy,Value.int .i64 turn,Value.int .i64 gate,Value.bool dn,Value.bool false],Value.bool false,Value.pointer (some (⟨w1.heap.size,8,none⟩:Addr)),Value.bool false,undef,sq 0,sq 1,sq 2,sq 3,sq 4,sq 5,sq 6,sq 7,undef,undef,undef,undef,undef,undef,undef,undef,undef,undef,undef,undef,undef,undef,undef,undef,undef,undef],defers:=[] }) (fun _=>undef) ?_ ?_ ?_ ?_
  ·rintro iq v a b hg h
   match iq,h with
   | 0,h=>exact h
   | 1,h=>exact h
   | 2,h=>exact h
   | 3,h=>exact (by obtain ⟨B,c',rfl,ho⟩:=h;exact ⟨B,c',rfl,Ow.next ho hg⟩)
   | 4,h=>exact h
   | 5,h=>exact h
   | 6,h=>exact h
   | 7,h=>exact h
   | (kq+8),_=>exact trivial
  ·exact ⟨rfl,rfl,rfl,Nat.le_refl _,fun _ _=>rfl⟩
  ·intro mq sq w' iq oq hmq hiq hoq hJ hd Kq hK
   have hiq':iq=0∨iq=1∨iq=2∨iq=3∨iq=4∨iq=5∨iq=6∨iq=7:=by omega
   rcases hiq' with rfl|rfl|rfl|rfl|rfl|rfl|rfl|rfl
   ·cases (show some _=some oq from hoq)
    have hK':=hK
    simp only [updV,Nat.reduceEqDiff,↓reduceIte] at hK'
    clear hK hd
    generalize sq 0=x0,sq 1=x1,sq 2=x2,sq 3=x3,sq 4=x4,sq 5=x5,sq 6=x6,sq 7=x7 at *
    have hcc:=fun q=>(KL.out.next hJ).cell q
    go_simp
    exact hK' _ _ (Below.refl _ _) hJ rfl
   ·cases (show some _=some oq from hoq)
    have hK':=hK
    simp only [updV,Nat.reduceEqDiff,↓reduceIte] at hK'
    clear hK hd
    generalize sq 0=x0,sq 1=x1,sq 2=x2,sq 3=x3,sq 4=x4,sq 5=x5,sq 6=x6,sq 7=x7 at *
    go_simp
    exact hK' _ _ (Below.refl _ _) hJ rfl
   ·cases (show some _=some oq from hoq)
    have d1:=hd 1 (by kernel_rfl) (by decide)
    have hK':=hK
    simp only [updV,Nat.reduceEqDiff,↓reduceIte] at hK'
    clear hK hd
    generalize sq 0=x0,sq 1=x1,sq 2=x2,sq 3=x3,sq 4=x4,sq 5=x5,sq 6=x6,sq 7=x7 at *
    obtain rfl:=d1
    have hcc:=(KR.out.next hJ).cell 3
    go_simp
    exact hK' _ _ (Below.refl _ _) hJ rfl
   ·cases (show some _=some oq from hoq)
    have d0:=hd 0 (by kernel_rfl) (by decide)
    have d2:=hd 2 (by kernel_rfl) (by decide)
    have hK':=hK
    simp only [updV,Nat.reduceEqDiff,↓reduceIte] at hK'
    clear hK hd
    generalize sq 0=x0,sq 1=x1,sq 2=x2,sq 3=x3,sq 4=x4,sq 5=x5,sq 6=x6,sq 7=x7 at *
    obtain rfl:=d0
    obtain rfl:=d2
    go_simp
    refine (specRunHashes_any l ws gs si.a si.n si.c r.ins _ (HLW.out.below hJ) (HNW.out.below hJ) hn1).mono ?_
    rintro e w2 ⟨B,c',rfl,ho,hb⟩
    rw [HHL.out] at ho ⊢
    exact hK' _ _ hb (below_next hJ hb) ⟨_,_,rfl,Ow.mono ho (Nat.zero_le _)⟩
   ·cases (show some _=some oq from hoq)
    have hK':=hK
    simp only [updV,Nat.reduceEqDiff,↓reduceIte] at hK'
    clear hK hd
    generalize sq 0=x0,sq 1=x1,sq 2=x2,sq 3=x3,sq 4=x4,sq 5=x5,sq 6=x6,sq 7=x7 at *
    go_simp
    exact hK' _ _ (Below.refl _ _) hJ rfl
   ·cases (show some _=some oq from hoq)
    have d4:=hd 4 (by kernel_rfl) (by decide)
    have hK':=hK
    simp only [updV,Nat.reduceEqDiff,↓reduceIte] at hK'
    clear hK hd
    generalize sq 0=x0,sq 1=x1,sq 2=x2,sq 3=x3,sq 4=x4,sq 5=x5,sq 6=x6,sq 7=x7 at *
    obtain rfl:=d4
    have hcc:=(KR.out.next hJ).cell 4
    go_simp
    exact hK' _ _ (Below.refl _ _) hJ rfl
   ·cases (show some _=some oq from hoq)
    have d3:=hd 3 (by kernel_rfl) (by decide)
    have d5:=hd 5 (by kernel_rfl) (by decide)
    have hK':=hK
    simp only [updV,Nat.reduceEqDiff,↓reduceIte] at hK'
    clear hK hd
    generalize sq 0=x0,sq 1=x1,sq 2=x2,sq 3=x3,sq 4=x4,sq 5=x5,sq 6=x6,sq 7=x7 at *
    obtain ⟨B,c',rfl,ho⟩:=d3
    obtain rfl:=d5
    go_simp
    refine (specDivergeFirst_any B sh.a h c' sh.n sh.c (hashesW l r.ins) r.hs w' ho.rdI (HHW.out.below hJ) hhb hn2).mono ?_
    rintro e w2 ⟨rfl,hb⟩
    rw [HDV.out]
    exact hK' _ _ hb (below_next hJ hb) rfl
   ·cases (show some _=some oq from hoq)
    have d6:=hd 6 (by kernel_rfl) (by decide)
    have hK':=hK
    simp only [updV,Nat.reduceEqDiff,↓reduceIte] at hK'
    clear hK hd
    generalize sq 0=x0,sq 1=x1,sq 2=x2,sq 3=x3,sq 4=x4,sq 5=x5,sq 6=x6,sq 7=x7 at *
    obtain rfl:=d6
    go_simp
    exact hK' _ _ (Below.refl _ _) hJ rfl
  ·intro sq w' hJ hφ
   simp only [List.drop_succ_cons,List.drop_zero]
   have d7:=hφ 7 (by decide)
   clear hφ
   generalize sq 0=x0,sq 1=x1,sq 2=x2,sq 3=x3,sq 4=x4,sq 5=x5,sq 6=x6,sq 7=x7 at *
   obtain rfl:=d7
   replace HB:=Lib.hid (below_next HB.out hJ)
   replace KO:=Lib.hid (KO.out.next hJ)
   replace KR:=Lib.hid (KR.out.next hJ)
   clear hJ
   go_wp2_with fail
   go_ret
   exact ⟨ret_int (by rw [HRV.out]),HB.out⟩
 ·have hd0':decide (0≤dv)=false:=by simpa using hd0
  have HD0:=Lib.hid hd0
  clear hd0
  refine wp_region_grow 8 (by kernel_rfl) (by kernel_rfl) (by kernel_rfl) (fun a b=>Below a.heap.size a b) (fun mq w'=>Below W.heap.size W w') (fun iq v w'=>match iq with|0=>(v=lvlV l ws gs)|1=>(v=.pointer (some ⟨w.heap.size+1,3,none⟩))|2=>(v=.slice si.a si.n si.c)|3=>(∃ B c',v=.slice B h c'∧Ow 0 w' 3 1 B h c' (cellsI (hashesW l r.ins)))|4=>(v=.pointer (some ⟨w.heap.size+1,4,none⟩))|5=>(v=.slice sh.a sh.n sh.c)|6=>(v=.int .i64 dv)|7=>(v=.bool false)|_=>True) (fun sq=>{ tmps:=#[lvlV l ws gs,repV r si sh,Value.pointer (some (⟨w.heap.size,0,none⟩:Addr)),Value.pointer (some (⟨w.heap.size+1,0,none⟩:Addr)),Value.int .i64 0,Value.pointer (some (⟨w1.heap.size,0,none⟩:Addr)),Value.agg #[Value.int .i64 l.id,Value.int .i64 l.ticks,Value.int .i64 l.sx,Value.int .i64 l.sy,Value.slice ws.a ws.n ws.c,Value.slice gs.a gs.n gs.c,Value.int .i64 l.f.1,Value.int .i64 l.f.2.1,Value.int .i64 l.f.2.2.1,Value.int .i64 l.f.2.2.2,Value.int .i64 l.bans],Value.pointer (some (⟨w.heap.size+1,3,none⟩:Addr)),Value.slice si.a si.n si.c,Value.pointer (some (⟨w.heap.size+1,3,none⟩:Addr)),Value.slice si.a si.n si.c,Value.int .i64 (si.n:Int),Value.agg #[Value.int .i64 tick,Value.int .i64 ax,Value.int .i64 ay,Value.int .i64 fx,Value.int .i64 fy,Value.int .i64 turn,Value.int .i64 gate,Value.bool dn,Value.bool false],Value.bool false,Value.pointer (some (⟨w1.heap.size,8,none⟩:Addr)),Value.bool false,undef,sq 0,sq 1,sq 2,sq 3,sq 4,sq 5,sq 6,sq 7,undef,undef,undef,undef,undef,undef,undef,undef,undef,undef,undef,undef,undef,undef,undef,undef,undef,undef],defers:=[] }) (fun _=>undef) ?_ ?_ ?_ ?_
  ·rintro iq v a b hg h
   match iq,h with
   | 0,h=>exact h
   | 1,h=>exact h
   | 2,h=>exact h
   | 3,h=>exact (by obtain ⟨B,c',rfl,ho⟩:=h;exact ⟨B,c',rfl,Ow.next ho hg⟩)
   | 4,h=>exact h
   | 5,h=>exact h
   | 6,h=>exact h
   | 7,h=>exact h
   | (kq+8),_=>exact trivial
  ·exact ⟨rfl,rfl,rfl,Nat.le_refl _,fun _ _=>rfl⟩
  ·intro mq sq w' iq oq hmq hiq hoq hJ hd Kq hK
   have hiq':iq=0∨iq=1∨iq=2∨iq=3∨iq=4∨iq=5∨iq=6∨iq=7:=by omega
   rcases hiq' with rfl|rfl|rfl|rfl|rfl|rfl|rfl|rfl
   ·cases (show some _=some oq from hoq)
    have hK':=hK
    simp only [updV,Nat.reduceEqDiff,↓reduceIte] at hK'
    clear hK hd
    generalize sq 0=x0,sq 1=x1,sq 2=x2,sq 3=x3,sq 4=x4,sq 5=x5,sq 6=x6,sq 7=x7 at *
    have hcc:=fun q=>(KL.out.next hJ).cell q
    go_simp
    exact hK' _ _ (Below.refl _ _) hJ rfl
   ·cases (show some _=some oq from hoq)
    have hK':=hK
    simp only [updV,Nat.reduceEqDiff,↓reduceIte] at hK'
    clear hK hd
    generalize sq 0=x0,sq 1=x1,sq 2=x2,sq 3=x3,sq 4=x4,sq 5=x5,sq 6=x6,sq 7=x7 at *
    go_simp
    exact hK' _ _ (Below.refl _ _) hJ rfl
   ·cases (show some _=some oq from hoq)
    have d1:=hd 1 (by kernel_rfl) (by decide)
    have hK':=hK
    simp only [updV,Nat.reduceEqDiff,↓reduceIte] at hK'
    clear hK hd
    generalize sq 0=x0,sq 1=x1,sq 2=x2,sq 3=x3,sq 4=x4,sq 5=x5,sq 6=x6,sq 7=x7 at *
    obtain rfl:=d1
    have hcc:=(KR.out.next hJ).cell 3
    go_simp
    exact hK' _ _ (Below.refl _ _) hJ rfl
   ·cases (show some _=some oq from hoq)
    have d0:=hd 0 (by kernel_rfl) (by decide)
    have d2:=hd 2 (by kernel_rfl) (by decide)
    have hK':=hK
    simp only [updV,Nat.reduceEqDiff,↓reduceIte] at hK'
    clear hK hd
    generalize sq 0=x0,sq 1=x1,sq 2=x2,sq 3=x3,sq 4=x4,sq 5=x5,sq 6=x6,sq 7=x7 at *
    obtain rfl:=d0
    obtain rfl:=d2
    go_simp
    refine (specRunHashes_any l ws gs si.a si.n si.c r.ins _ (HLW.out.below hJ) (HNW.out.below hJ) hn1).mono ?_
    rintro e w2 ⟨B,c',rfl,ho,hb⟩
    rw [HHL.out] at ho ⊢
    exact hK' _ _ hb (below_next hJ hb) ⟨_,_,rfl,Ow.mono ho (Nat.zero_le _)⟩
   ·cases (show some _=some oq from hoq)
    have hK':=hK
    simp only [updV,Nat.reduceEqDiff,↓reduceIte] at hK'
    clear hK hd
    generalize sq 0=x0,sq 1=x1,sq 2=x2,sq 3=x3,sq 4=x4,sq 5=x5,sq 6=x6,sq 7=x7 at *
    go_simp
    exact hK' _ _ (Below.refl _ _) hJ rfl
   ·cases (show some _=some oq from hoq)
    have d4:=hd 4 (by kernel_rfl) (by decide)
    have hK':=hK
    simp only [updV,Nat.reduceEqDiff,↓reduceIte] at hK'
    clear hK hd
    generalize sq 0=x0,sq 1=x1,sq 2=x2,sq 3=x3,sq 4=x4,sq 5=x5,sq 6=x6,sq 7=x7 at *
    obtain rfl:=d4
    have hcc:=(KR.out.next hJ).cell 4
    go_simp
    exact hK' _ _ (Below.refl _ _) hJ rfl
   ·cases (show some _=some oq from hoq)
    have d3:=hd 3 (by kernel_rfl) (by decide)
    have d5:=hd 5 (by kernel_rfl) (by decide)
    have hK':=hK
    simp only [updV,Nat.reduceEqDiff,↓reduceIte] at hK'
    clear hK hd
    generalize sq 0=x0,sq 1=x1,sq 2=x2,sq 3=x3,sq 4=x4,sq 5=x5,sq 6=x6,sq 7=x7 at *
    obtain ⟨B,c',rfl,ho⟩:=d3
    obtain rfl:=d5
    go_simp
    refine (specDivergeFirst_any B sh.a h c' sh.n sh.c (hashesW l r.ins) r.hs w' ho.rdI (HHW.out.below hJ) hhb hn2).mono ?_
    rintro e w2 ⟨rfl,hb⟩
    rw [HDV.out]
    exact hK' _ _ hb (below_next hJ hb) rfl
   ·cases (show some _=some oq from hoq)
    have d6:=hd 6 (by kernel_rfl) (by decide)
    have hK':=hK
    simp only [updV,Nat.reduceEqDiff,↓reduceIte] at hK'
    clear hK hd
    generalize sq 0=x0,sq 1=x1,sq 2=x2,sq 3=x3,sq 4=x4,sq 5=x5,sq 6=x6,sq 7=x7 at *
    obtain rfl:=d6
    go_simp
    exact hK' _ _ (Below.refl _ _) hJ rfl
  ·intro sq w' hJ hφ
   simp only [List.drop_succ_cons,List.drop_zero]
   have d7:=hφ 7 (by decide)
   clear hφ
   generalize sq 0=x0,sq 1=x1,sq 2=x2,sq 3=x3,sq 4=x4,sq 5=x5,sq 6=x6,sq 7=x7 at *
   obtain rfl:=d7
   replace HB:=Lib.hid (below_next HB.out hJ)
   replace KO:=Lib.hid (KO.out.next hJ)
   replace KR:=Lib.hid (KR.out.next hJ)
   clear hJ
   have co:=fun o=>KO.out.cell o
   have fo:=fun o=>KO.out.frozen o
   have zo:=KO.out.lt
   have cr:=fun o=>KR.out.cell o
   have fr:=fun o=>KR.out.frozen o
   have zr:=KR.out.lt
   cases dn
   ·have HRV:=Lib.hid (show runV l r=8 by simp [runV,HCR.out,HDV.out,HD0.out])
    go_wp2_with fail
    go_ret
    exact ⟨ret_int (by rw [HRV.out]),HB.out⟩
   ·by_cases ht:tick=(si.n:Int)
    ·have HT:=Lib.hid ht
     have ht':(tick == (si.n:Int))=true:=by simpa using ht
     by_cases hs:tick=r.sc
     ·have hs':(tick == r.sc)=true:=by simpa using hs
      have HRV:=Lib.hid (show runV l r=0 by unfold runV;simp only [HCR.out,HDV.out];simp [HD0.out,HLEN.out,ht,← hs])
      clear ht hs
      go_wp2_with fail
      go_ret
      exact ⟨ret_int (by rw [HRV.out]),HB.out⟩
     ·have hs':(tick == r.sc)=false:=by simpa using hs
      have HRV:=Lib.hid (show runV l r=9 by rw [ht] at hs;unfold runV;simp only [HCR.out,HDV.out];simp [HD0.out,HLEN.out,ht,hs])
      clear ht hs
      go_wp2_with fail
      go_ret
      exact ⟨ret_int (by rw [HRV.out]),HB.out⟩
    ·have ht':(tick == (si.n:Int))=false:=by simpa using ht
     have HRV:=Lib.hid (show runV l r=8 by unfold runV;simp only [HCR.out,HDV.out];simp [HD0.out,HLEN.out,ht])
     clear ht
     go_wp2_with fail
     go_ret
     exact ⟨ret_int (by rw [HRV.out]),HB.out⟩
set_option maxRecDepth 100000 in
set_option maxHeartbeats 4000000 in
theorem specVerifyReplay_any (l:Lvl) (ws gs:Sl) (key:Int) (r:Rep) (si sh:Sl) (w:World) (hl:RdL w l ws gs) (hr:RdR w r si sh) :
  Calls Qy.prog 11 #[lvlV l ws gs,.int .i64 key,repV r si sh] w fun e w'=>e=.returned (.int .i64 (verdW l key r))∧Below w.heap.size w w':=by
 have HL:=Lib.hid hl
 have HR:=Lib.hid hr
 have hsi:=hr.2.2.1.2
 clear hl hr
 go_enter Qy.func11,Tryz.ntmps11
 go_wp2_with fail
 refine (specReplayValid_any r si sh _ (HR.out.below (ba (ba (Below.refl _ _))))).mono ?_
 rintro e w1 ⟨rfl,hb⟩
 have KL:=Lib.hid (((Blk.new w 29 (lvlC l ws gs)).alloc _).next hb)
 have KR:=Lib.hid ((Blk.newAt _ 33 (repC r si sh) (w.heap.size+1) (by simp)).next hb)
 have HB:=Lib.hid (ba (ba hb))
 clear hb
 cases h1:repOk r
 ·have HV:=Lib.hid (show verdW l key r=1 by unfold verdW;simp [h1])
  go_wp2_with fail
  go_ret
  exact ⟨ret_int (by rw [HV.out]),HB.out⟩
 have H1:=Lib.hid h1
 clear h1
 have cl:=fun o=>KL.out.cell o
 have fl:=fun o=>KL.out.frozen o
 have zl:=KL.out.lt
 go_wp2_with fail
 refine (specLevelValid_any l ws gs _ (HL.out.below HB.out)).mono ?_
 rintro e w2 ⟨rfl,hb⟩
 replace KL:=Lib.hid (KL.out.next hb)
 replace KR:=Lib.hid (KR.out.next hb)
 replace HB:=Lib.hid (below_next HB.out hb)
 clear hb cl fl zl
 cases h2:levelOk l
 ·have HV:=Lib.hid (show verdW l key r=2 by unfold verdW;simp [H1.out,h2])
  go_wp2_with fail
  go_ret
  exact ⟨ret_int (by rw [HV.out]),HB.out⟩
 have H2:=Lib.hid h2
 clear h2
 have cl:=fun o=>KL.out.cell o
 have fl:=fun o=>KL.out.frozen o
 have zl:=KL.out.lt
 have cr:=fun o=>KR.out.cell o
 have fr:=fun o=>KR.out.frozen o
 have zr:=KR.out.lt
 by_cases h3:l.id=r.lv
 rotate_left
 ·have h3':(l.id == r.lv)=false:=by simpa using h3
  have HV:=Lib.hid (show verdW l key r=2 by unfold verdW;simp [H1.out,H2.out,h3])
  go_wp2_with fail
  go_ret
  exact ⟨ret_int (by rw [HV.out]),HB.out⟩
 have h3':(l.id == r.lv)=true:=by simpa using h3
 have H3:=Lib.hid h3
 clear h3
 go_wp2_with fail
 refine (l6In_any _ _ _ _).mono ?_
 rintro e w3 ⟨rfl,rfl⟩
 cases h4:inR key 1 9999
 ·have HV:=Lib.hid (show verdW l key r=3 by unfold verdW;simp [H1.out,H2.out,H3.out,h4])
  go_wp2_with fail
  go_ret
  exact ⟨ret_int (by rw [HV.out]),HB.out⟩
 have H4:=Lib.hid h4
 clear h4
 have hne:(l.id != r.lv)=false:=by simp [H3.out]
 obtain ⟨tg,htg⟩:∃ t,tagW key (listW r)=t:=⟨_,rfl⟩
 have HTG:=Lib.hid htg
 have HRW:=Lib.hid (HR.out.below HB.out)
 have HF:=Lib.hid (repOk_facts H1.out)
 have HLL:=Lib.hid (show (listW r).length≤1099511627776 by
  have f7:=HF.out.2.2.2.2.2.2.1
  have f8:=HF.out.2.2.2.2.2.2.2
  simp only [listW,List.length_append,List.length_map,List.length_cons,List.length_nil]
  omega)
 clear htg cl fl zl cr fr zr
 by_cases h5:tg=r.tag
 rotate_left
 ·have h5':(tg == r.tag)=false:=by simpa using h5
  have h5n:(tg != r.tag)=true:=by simpa using h5
  have H5:=Lib.hid h5
  clear h5
  go_upto_region 7 with (fail)
  refine wp_region_grow 7 (by kernel_rfl) (by kernel_rfl) (by kernel_rfl) (fun a b=>Below a.heap.size a b) (fun mq w'=>Below w2.heap.size w2 w') (fun iq v w'=>match iq with|0=>(v=.int .i64 key)|1=>(v=repV r si sh)|2=>(∃ B c',v=.slice B (listW r).length c'∧Ow 0 w' 3 1 B (listW r).length c' (cellsI (listW r)))|3=>(v=.int .i64 tg)|4=>(v=.pointer (some ⟨w.heap.size+1,5,none⟩))|5=>(v=.int .i64 r.tag)|6=>(v=.bool true)|_=>True) (fun sq=>{ tmps:=#[lvlV l ws gs,Value.int .i64 key,repV r si sh,Value.pointer (some (⟨w.heap.size,0,none⟩:Addr)),undef,Value.pointer (some (⟨w.heap.size+1,0,none⟩:Addr)),Value.int .i64 0,Value.bool false,Value.agg #[Value.int .i64 r.lv,Value.int .i64 r.pl,Value.int .i64 r.sc,Value.slice si.a si.n si.c,Value.slice sh.a sh.n sh.c,Value.int .i64 r.tag],Value.bool true,Value.bool false,Value.bool false,Value.agg #[Value.int .i64 l.id,Value.int .i64 l.ticks,Value.int .i64 l.sx,Value.int .i64 l.sy,Value.slice ws.a ws.n ws.c,Value.slice gs.a gs.n gs.c,Value.int .i64 l.f.1,Value.int .i64 l.f.2.1,Value.int .i64 l.f.2.2.1,Value.int .i64 l.f.2.2.2,Value.int .i64 l.bans],Value.bool true,Value.bool false,Value.bool false,Value.pointer (some (⟨w.heap.size,0,none⟩:Addr)),Value.int .i64 l.id,Value.pointer (some (⟨w.heap.size+1,0,none⟩:Addr)),Value.int .i64 r.lv,Value.bool false,Value.bool false,Value.bool false,Value.int .i64 key,Value.bool true,Value.bool false,undef,sq 0,sq 1,sq 2,sq 3,sq 4,sq 5,sq 6,undef,undef,undef,undef,undef,undef,undef,undef,undef],defers:=[] }) (fun _=>undef) ?_ ?_ ?_ ?_
  ·rintro iq v a b hg h
   match iq,h with
   | 0,h=>exact h
   | 1,h=>exact h
   | 2,h=>exact (by obtain ⟨B,c',rfl,ho⟩:=h;exact ⟨B,c',rfl,Ow.next ho hg⟩)
   | 3,h=>exact h
   | 4,h=>exact h
   | 5,h=>exact h
   | 6,h=>exact h
   | (kq+7),_=>exact trivial
  ·exact ⟨rfl,rfl,rfl,Nat.le_refl _,fun _ _=>rfl⟩
  ·intro mq sq w' iq oq hmq hiq hoq hJ hd Kq hK
   have hiq':iq=0∨iq=1∨iq=2∨iq=3∨iq=4∨iq=5∨iq=6:=by omega
   rcases hiq' with rfl|rfl|rfl|rfl|rfl|rfl|rfl
   ·cases (show some _=some oq from hoq)
    have hK':=hK
    simp only [updV,Nat.reduceEqDiff,↓reduceIte] at hK'
    clear hK hd
    generalize sq 0=x0,sq 1=x1,sq 2=x2,sq 3=x3,sq 4=x4,sq 5=x5,sq 6=x6 at *
    go_simp
    exact hK' _ _ (Below.refl _ _) hJ rfl
   ·cases (show some _=some oq from hoq)
    have hK':=hK
    simp only [updV,Nat.reduceEqDiff,↓reduceIte] at hK'
    clear hK hd
    generalize sq 0=x0,sq 1=x1,sq 2=x2,sq 3=x3,sq 4=x4,sq 5=x5,sq 6=x6 at *
    have hcc:=fun q=>(KR.out.next hJ).cell q
    go_simp
    exact hK' _ _ (Below.refl _ _) hJ rfl
   ·cases (show some _=some oq from hoq)
    have d1:=hd 1 (by kernel_rfl) (by decide)
    have hK':=hK
    simp only [updV,Nat.reduceEqDiff,↓reduceIte] at hK'
    clear hK hd
    generalize sq 0=x0,sq 1=x1,sq 2=x2,sq 3=x3,sq 4=x4,sq 5=x5,sq 6=x6 at *
    obtain rfl:=d1
    go_simp
    refine (l23List_any r si sh _ (HRW.out.below hJ)).mono ?_
    rintro e w2 ⟨B,c',rfl,ho,hb⟩
    exact hK' _ _ hb (below_next hJ hb) ⟨_,_,rfl,Ow.mono ho (Nat.zero_le _)⟩
   ·cases (show some _=some oq from hoq)
    have d0:=hd 0 (by kernel_rfl) (by decide)
    have d2:=hd 2 (by kernel_rfl) (by decide)
    have hK':=hK
    simp only [updV,Nat.reduceEqDiff,↓reduceIte] at hK'
    clear hK hd
    generalize sq 0=x0,sq 1=x1,sq 2=x2,sq 3=x3,sq 4=x4,sq 5=x5,sq 6=x6 at *
    obtain rfl:=d0
    obtain ⟨B,c',rfl,ho⟩:=d2
    go_simp
    refine (l4Tag_any key B (listW r).length c' (listW r) w' ho.rdI HLL.out).mono ?_
    rintro e w2 ⟨rfl,rfl⟩
    rw [HTG.out]
    exact hK' _ _ (Below.refl _ _) hJ rfl
   ·cases (show some _=some oq from hoq)
    have hK':=hK
    simp only [updV,Nat.reduceEqDiff,↓reduceIte] at hK'
    clear hK hd
    generalize sq 0=x0,sq 1=x1,sq 2=x2,sq 3=x3,sq 4=x4,sq 5=x5,sq 6=x6 at *
    go_simp
    exact hK' _ _ (Below.refl _ _) hJ rfl
   ·cases (show some _=some oq from hoq)
    have d4:=hd 4 (by kernel_rfl) (by decide)
    have hK':=hK
    simp only [updV,Nat.reduceEqDiff,↓reduceIte] at hK'
    clear hK hd
    generalize sq 0=x0,sq 1=x1,sq 2=x2,sq 3=x3,sq 4=x4,sq 5=x5,sq 6=x6 at *
    obtain rfl:=d4
    have hcc:=(KR.out.next hJ).cell 5
    go_simp
    exact hK' _ _ (Below.refl _ _) hJ rfl
   ·cases (show some _=some oq from hoq)
    have d3:=hd 3 (by kernel_rfl) (by decide)
    have d5:=hd 5 (by kernel_rfl) (by decide)
    have hK':=hK
    simp only [updV,Nat.reduceEqDiff,↓reduceIte] at hK'
    clear hK hd
    generalize sq 0=x0,sq 1=x1,sq 2=x2,sq 3=x3,sq 4=x4,sq 5=x5,sq 6=x6 at *
    obtain rfl:=d3
    obtain rfl:=d5
    go_simp
    exact hK' _ _ (Below.refl _ _) hJ rfl
  ·intro sq w' hJ hφ
   simp only [List.drop_succ_cons,List.drop_zero]
   have d6:=hφ 6 (by decide)
   clear hφ
   generalize sq 0=x0,sq 1=x1,sq 2=x2,sq 3=x3,sq 4=x4,sq 5=x5,sq 6=x6 at *
   obtain rfl:=d6
   replace HB:=Lib.hid (below_next HB.out hJ)
   replace KL:=Lib.hid (KL.out.next hJ)
   replace KR:=Lib.hid (KR.out.next hJ)
   clear hJ
   have HV:=Lib.hid (show verdW l key r=4 by unfold verdW;simp [H1.out,H2.out,H3.out,H4.out,HTG.out,H5.out])
   go_wp2_with fail
   go_ret
   exact ⟨ret_int (by rw [HV.out]),HB.out⟩
 have h5':(tg == r.tag)=true:=by simpa using h5
 have h5n:(tg != r.tag)=false:=by simpa using h5
 have H5:=Lib.hid h5
 clear h5
 go_upto_region 7 with (fail)
 refine wp_region_grow 7 (by kernel_rfl) (by kernel_rfl) (by kernel_rfl) (fun a b=>Below a.heap.size a b) (fun mq w'=>Below w2.heap.size w2 w') (fun iq v w'=>match iq with|0=>(v=.int .i64 key)|1=>(v=repV r si sh)|2=>(∃ B c',v=.slice B (listW r).length c'∧Ow 0 w' 3 1 B (listW r).length c' (cellsI (listW r)))|3=>(v=.int .i64 tg)|4=>(v=.pointer (some ⟨w.heap.size+1,5,none⟩))|5=>(v=.int .i64 r.tag)|6=>(v=.bool false)|_=>True) (fun sq=>{ tmps:=#[lvlV l ws gs,Value.int .i64 key,repV r si sh,Value.pointer (some (⟨w.heap.size,0,none⟩:Addr)),undef,Value.pointer (some (⟨w.heap.size+1,0,none⟩:Addr)),Value.int .i64 0,Value.bool false,Value.agg #[Value.int .i64 r.lv,Value.int .i64 r.pl,Value.int .i64 r.sc,Value.slice si.a si.n si.c,Value.slice sh.a sh.n sh.c,Value.int .i64 r.tag],Value.bool true,Value.bool false,Value.bool false,Value.agg #[Value.int .i64 l.id,Value.int .i64 l.ticks,Value.int .i64 l.sx,Value.int .i64 l.sy,Value.slice ws.a ws.n ws.c,Value.slice gs.a gs.n gs.c,Value.int .i64 l.f.1,Value.int .i64 l.f.2.1,Value.int .i64 l.f.2.2.1,Value.int .i64 l.f.2.2.2,Value.int .i64 l.bans],Value.bool true,Value.bool false,Value.bool false,Value.pointer (some (⟨w.heap.size,0,none⟩:Addr)),Value.int .i64 l.id,Value.pointer (some (⟨w.heap.size+1,0,none⟩:Addr)),Value.int .i64 r.lv,Value.bool false,Value.bool false,Value.bool false,Value.int .i64 key,Value.bool true,Value.bool false,undef,sq 0,sq 1,sq 2,sq 3,sq 4,sq 5,sq 6,undef,undef,undef,undef,undef,undef,undef,undef,undef],defers:=[] }) (fun _=>undef) ?_ ?_ ?_ ?_
 ·rintro iq v a b hg h
  match iq,h with
  | 0,h=>exact h
  | 1,h=>exact h
  | 2,h=>exact (by obtain ⟨B,c',rfl,ho⟩:=h;exact ⟨B,c',rfl,Ow.next ho hg⟩)
  | 3,h=>exact h
  | 4,h=>exact h
  | 5,h=>exact h
  | 6,h=>exact h
  | (kq+7),_=>exact trivial
 ·exact ⟨rfl,rfl,rfl,Nat.le_refl _,fun _ _=>rfl⟩
 ·intro mq sq w' iq oq hmq hiq hoq hJ hd Kq hK
  have hiq':iq=0∨iq=1∨iq=2∨iq=3∨iq=4∨iq=5∨iq=6:=by omega
  rcases hiq' with rfl|rfl|rfl|rfl|rfl|rfl|rfl
  ·cases (show some _=some oq from hoq)
   have hK':=hK
   simp only [updV,Nat.reduceEqDiff,↓reduceIte] at hK'
   clear hK hd
   generalize sq 0=x0,sq 1=x1,sq 2=x2,sq 3=x3,sq 4=x4,sq 5=x5,sq 6=x6 at *
   go_simp
   exact hK' _ _ (Below.refl _ _) hJ rfl
  ·cases (show some _=some oq from hoq)
   have hK':=hK
   simp only [updV,Nat.reduceEqDiff,↓reduceIte] at hK'
   clear hK hd
   generalize sq 0=x0,sq 1=x1,sq 2=x2,sq 3=x3,sq 4=x4,sq 5=x5,sq 6=x6 at *
   have hcc:=fun q=>(KR.out.next hJ).cell q
   go_simp
   exact hK' _ _ (Below.refl _ _) hJ rfl
  ·cases (show some _=some oq from hoq)
   have d1:=hd 1 (by kernel_rfl) (by decide)
   have hK':=hK
   simp only [updV,Nat.reduceEqDiff,↓reduceIte] at hK'
   clear hK hd
   generalize sq 0=x0,sq 1=x1,sq 2=x2,sq 3=x3,sq 4=x4,sq 5=x5,sq 6=x6 at *
   obtain rfl:=d1
   go_simp
   refine (l23List_any r si sh _ (HRW.out.below hJ)).mono ?_
   rintro e w2 ⟨B,c',rfl,ho,hb⟩
   exact hK' _ _ hb (below_next hJ hb) ⟨_,_,rfl,Ow.mono ho (Nat.zero_le _)⟩
  ·cases (show some _=some oq from hoq)
   have d0:=hd 0 (by kernel_rfl) (by decide)
   have d2:=hd 2 (by kernel_rfl) (by decide)
   have hK':=hK
   simp only [updV,Nat.reduceEqDiff,↓reduceIte] at hK'
   clear hK hd
   generalize sq 0=x0,sq 1=x1,sq 2=x2,sq 3=x3,sq 4=x4,sq 5=x5,sq 6=x6 at *
   obtain rfl:=d0
   obtain ⟨B,c',rfl,ho⟩:=d2
   go_simp
   refine (l4Tag_any key B (listW r).length c' (listW r) w' ho.rdI HLL.out).mono ?_
   rintro e w2 ⟨rfl,rfl⟩
   rw [HTG.out]
   exact hK' _ _ (Below.refl _ _) hJ rfl
  ·cases (show some _=some oq from hoq)
   have hK':=hK
   simp only [updV,Nat.reduceEqDiff,↓reduceIte] at hK'
   clear hK hd
   generalize sq 0=x0,sq 1=x1,sq 2=x2,sq 3=x3,sq 4=x4,sq 5=x5,sq 6=x6 at *
   go_simp
   exact hK' _ _ (Below.refl _ _) hJ rfl
  ·cases (show some _=some oq from hoq)
   have d4:=hd 4 (by kernel_rfl) (by decide)
   have hK':=hK
   simp only [updV,Nat.reduceEqDiff,↓reduceIte] at hK'
   clear hK hd
   generalize sq 0=x0,sq 1=x1,sq 2=x2,sq 3=x3,sq 4=x4,sq 5=x5,sq 6=x6 at *
   obtain rfl:=d4
   have hcc:=(KR.out.next hJ).cell 5
   go_simp
   exact hK' _ _ (Below.refl _ _) hJ rfl
  ·cases (show some _=some oq from hoq)
   have d3:=hd 3 (by kernel_rfl) (by decide)
   have d5:=hd 5 (by kernel_rfl) (by decide)
   have hK':=hK
   simp only [updV,Nat.reduceEqDiff,↓reduceIte] at hK'
   clear hK hd
   generalize sq 0=x0,sq 1=x1,sq 2=x2,sq 3=x3,sq 4=x4,sq 5=x5,sq 6=x6 at *
   obtain rfl:=d3
   obtain rfl:=d5
   go_simp
   exact hK' _ _ (Below.refl _ _) hJ rfl
 ·intro sq w' hJ hφ
  simp only [List.drop_succ_cons,List.drop_zero]
  have d6:=hφ 6 (by decide)
  clear hφ
  generalize sq 0=x0,sq 1=x1,sq 2=x2,sq 3=x3,sq 4=x4,sq 5=x5,sq 6=x6 at *
  obtain rfl:=d6
  replace HB:=Lib.hid (below_next HB.out hJ)
  replace KL:=Lib.hid (KL.out.next hJ)
  replace KR:=Lib.hid (KR.out.next hJ)
  clear hJ
  have cl:=fun o=>KL.out.cell o
  have fl:=fun o=>KL.out.frozen o
  have zl:=KL.out.lt
  have cr:=fun o=>KR.out.cell o
  have fr:=fun o=>KR.out.frozen o
  have zr:=KR.out.lt
  go_wp2_with fail
  refine (l12Legal_any l ws gs si.a si.n si.c r.ins _ (HR.out.1.below HB.out) hsi).mono ?_
  rintro e w5 ⟨rfl,hb⟩
  replace KL:=Lib.hid (KL.out.next hb)
  replace KR:=Lib.hid (KR.out.next hb)
  replace HB:=Lib.hid (below_next HB.out hb)
  clear hb cl fl zl cr fr zr
  obtain ⟨lg,hlg⟩:∃ t,legalW l r.ins=t:=⟨_,rfl⟩
  have HLG:=Lib.hid hlg
  rw [hlg]
  clear hlg
  by_cases h6:0≤lg
  ·have h6':decide (0≤lg)=true:=by simpa using h6
   have H6:=Lib.hid h6
   clear h6
   have HV:=Lib.hid (show verdW l key r=5 by unfold verdW;simp [H1.out,H2.out,H3.out,H4.out,HTG.out,H5.out,HLG.out,H6.out])
   go_wp2_with fail
   go_ret
   exact ⟨ret_int (by rw [HV.out]),HB.out⟩
  ·have h6':decide (0≤lg)=false:=by simpa using h6
   have H6:=Lib.hid h6
   clear h6
   have cl:=fun o=>KL.out.cell o
   have fl:=fun o=>KL.out.frozen o
   have zl:=KL.out.lt
   have cr:=fun o=>KR.out.cell o
   have fr:=fun o=>KR.out.frozen o
   have zr:=KR.out.lt
   go_wp2_with fail
   refine (l31Run_any l ws gs r si sh _ (HL.out.below HB.out) (HR.out.below HB.out) HF.out.2.2.2.2.2.1).mono ?_
   rintro e w6 ⟨rfl,hb⟩
   replace HB:=Lib.hid (below_next HB.out hb)
   clear hb cl fl zl cr fr zr
   have HV:=Lib.hid (show verdW l key r=runV l r by unfold verdW;simp [H1.out,H2.out,H3.out,H4.out,HTG.out,H5.out,HLG.out,show ¬ (0≤lg) from by have:=H6.out;omega])
   go_wp2_with fail
   go_ret
   exact ⟨ret_int (by rw [HV.out]),HB.out⟩
end Go.Proofs.YtpcjdalgebgofaaGreatDoorY
namespace Go.Proofs.YtpcjdalgebgofaaGreatDoorY
open Go.RowKit Go.Sort
theorem hstep_h {h h' n:Int} (a:HashOk h) (b:HashOk h') (e:hstepW h n=hstepW h' n):h=h':=by
 obtain ⟨q,r,s,e1,q0,q1,e2,r0,r1,e3,e4,s0,s1⟩:=hstep_facts h n a
 obtain ⟨q',r',s',f1,_,_,f2,_,_,f3,f4,_,_⟩:=hstep_facts h' n b
 have hq:q=q':=e1.symm.trans f1
 subst hq
 have hr:r=r':=e2.symm.trans f2
 subst hr
 have hs:s=s':=by rw [← e4,← f4,e]
 subst hs
 obtain ⟨a0,a1⟩:=a
 obtain ⟨b0,b1⟩:=b
 rw [Int.tmod_eq_emod_of_nonneg (by omega)] at e3 f3
 omega
theorem hstep_n {h n n':Int} (a:HashOk h) (l0:0≤n) (l1:n≤1000002) (m0:0≤n') (m1:n'≤1000002) (e:hstepW h n=hstepW h n'):n=n':=by
 obtain ⟨q,r,s,e1,q0,q1,e2,r0,r1,e3,e4,s0,s1⟩:=hstep_facts h n a
 obtain ⟨q',r',s',f1,g0,g1,f2,t0,t1,f3,f4,_,_⟩:=hstep_facts h n' a
 have hs:s=s':=by rw [← e4,← f4,e]
 subst hs
 obtain ⟨a0,a1⟩:=a
 rw [Int.tmod_eq_emod_of_nonneg (by omega)] at e1 f1 e2 f2 e3 f3
 omega
theorem hashW_h:∀ (zs:List Int) {h h':Int},HashOk h→HashOk h'→hashW h zs=hashW h' zs→h=h'
 | [],_,_,_,_,e=>e
 | z :: zs,h,h',a,b,e=>hstep_h a b (hashW_h zs (hstep_ok a) (hstep_ok b) e)
theorem hashW_append (h:Int) (xs ys:List Int):hashW h (xs ++ ys)=hashW (hashW h xs) ys:=by
 unfold hashW
 rw [List.foldl_append]
theorem hashW_at_ne {h x y:Int} (a:HashOk h) (pre post:List Int) (l0:0≤x) (l1:x≤1000002) (m0:0≤y) (m1:y≤1000002) (e:hashW h (pre ++ x :: post)=hashW h (pre ++ y :: post)):x=y:=by
 rw [hashW_append,hashW_append] at e
 have hp:=hashW_ok a pre
 exact hstep_n hp l0 l1 m0 m1 (hashW_h post (hstep_ok hp) (hstep_ok hp) e)
theorem tagW_ne {key x y:Int} (pre post:List Int) (l0:0≤x) (l1:x≤1000002) (m0:0≤y) (m1:y≤1000002) (hne:x≠y):tagW key (pre ++ x :: post)≠tagW key (pre ++ y :: post):=by
 intro e
 have h17:HashOk (hstepW 17 key):=hstep_ok ⟨by decide,by decide⟩
 exact hne (hashW_at_ne h17 pre post l0 l1 m0 m1 (hstep_h (hashW_ok h17 _) (hashW_ok h17 _) e))
/-! ### what a verdict says -/
theorem divGo_neg {a b:List Int}:∀ (f i:Nat),divGo a b f i<0→∀ j,i≤j→j<i+f→differW a b j=false
 | 0,_,_,_,_,_=>by omega
 |f+1,i,h,j,h1,h2=>by
  rw [divGo] at h
  cases hd:differW a b i
  ·rw [hd,if_neg (by simp)] at h
   by_cases he:j=i
   ·rw [he];exact hd
   ·exact divGo_neg f (i+1) h j (by omega) (by omega)
  ·rw [hd,if_pos rfl] at h
   omega
theorem divW_same {a b:List Int} (h:divW a b<0):a=b:=by
 have hd:=divGo_neg _ _ h
 have hl:a.length=b.length:=by
  rcases Nat.lt_trichotomy a.length b.length with hlt|he|hlt
  ·have:=hd a.length (by omega) (by omega)
   simp [differW] at this
  ·exact he
  ·have:=hd b.length (by omega) (by omega)
   simp [differW] at this
 refine List.ext_getElem? fun i=>?_
 rcases Nat.lt_or_ge i a.length with hi|hi
 ·have:=hd i (by omega) (by omega)
  simp only [differW,Bool.or_eq_false_iff,decide_eq_false_iff_not,bne_eq_false_iff_eq] at this
  obtain ⟨_,h3⟩:=this
  have hb:i<b.length:=by omega
  rw [List.getElem?_eq_getElem hi,List.getElem?_eq_getElem hb] at h3 ⊢
  simpa using h3
 ·rw [List.getElem?_eq_none hi,List.getElem?_eq_none (by omega)]
theorem divGo_at {a b:List Int}:∀ (f i k:Nat),i≤k→k<i+f→(∀ j,i≤j→j<k→differW a b j=false)→differW a b k=true→divGo a b f i=k
 | 0,_,_,_,_,_,_=>by omega
 |f+1,i,k,h1,h2,h3,h4=>by
  rw [divGo]
  by_cases he:i=k
  ·rw [he,h4,if_pos rfl]
  ·rw [h3 i (Nat.le_refl _) (by omega),if_neg (by simp)]
   exact divGo_at f (i+1) k (by omega) (by omega) (fun j g1 g2=>h3 j (by omega) g2) h4
theorem divW_set {a:List Int} {k:Nat} {z:Int} (hk:k<a.length) (hz:a[k]?≠some z):divW a (a.set k z)=k:=by
 unfold divW
 refine divGo_at _ _ _ (Nat.zero_le _) (by omega) (fun j _ hj=>?_) ?_
 ·have:j<a.length:=by omega
  simp [differW,List.getElem?_set,show k≠j by omega,show ¬ a.length≤j by omega]
 ·have h1:a[k]?=some a[k]:=List.getElem?_eq_getElem hk
  have h2:a[k]≠z:=fun e=>hz (by rw [h1,e])
  simp [differW,List.getElem?_set,hk,h1,h2]
inductive Verd (l:Lvl) (key:Int) (r:Rep):Int→Prop
 | text:repOk r=false→Verd l key r 1
 | level:repOk r=true→(levelOk l=false∨l.id≠r.lv)→Verd l key r 2
 | key:repOk r=true→levelOk l=true→l.id=r.lv→inR key 1 9999=false→Verd l key r 3
 | tag:repOk r=true→levelOk l=true→l.id=r.lv→inR key 1 9999=true→tagW key (listW r)≠r.tag→Verd l key r 4
 | input:repOk r=true→levelOk l=true→l.id=r.lv→inR key 1 9999=true→tagW key (listW r)=r.tag→0≤legalW l r.ins→Verd l key r 5
 | run:repOk r=true→levelOk l=true→l.id=r.lv→inR key 1 9999=true→tagW key (listW r)=r.tag→legalW l r.ins<0→Verd l key r (runV l r)
theorem verd (l:Lvl) (key:Int) (r:Rep):Verd l key r (verdW l key r):=by
 unfold verdW
 split
 ·rename_i h;exact .text h
 ·rename_i h1
  have h1:repOk r=true:=by simpa using h1
  split
  ·rename_i h;exact .level h1 h
  ·rename_i h2
   have h2:levelOk l=true∧l.id=r.lv:=by
    refine ⟨?_,?_⟩
    ·cases hl:levelOk l
     ·exact absurd (.inl hl) h2
     ·rfl
    ·rcases Classical.em (l.id=r.lv) with h|h
     ·exact h
     ·exact absurd (.inr h) h2
   split
   ·rename_i h;exact .key h1 h2.1 h2.2 h
   ·rename_i h3
    have h3:inR key 1 9999=true:=by simpa using h3
    split
    ·rename_i h;exact .tag h1 h2.1 h2.2 h3 h
    ·rename_i h4
     have h4:tagW key (listW r)=r.tag:=Classical.not_not.1 h4
     split
     ·rename_i h;exact .input h1 h2.1 h2.2 h3 h4 h
     ·rename_i h;exact .run h1 h2.1 h2.2 h3 h4 (by omega)
/-! ### a run's states -/
theorem movedW_keeps (l:Lvl) (c:Car) (x:Inp):(movedW l c x).tick=c.tick∧(movedW l c x).dn=c.dn∧(movedW l c x).ov=c.ov:=by
 have h:=moveW_keeps l ⟨c.tick,c.ax,c.ay,(fastW c.fx c.fy (turnW c x).toNat x.p).1,(fastW c.fx c.fy (turnW c x).toNat x.p).2,turnW c x,c.gate,c.dn,c.ov⟩
 exact ⟨h.2.2.1,h.2.2.2.1,h.2.2.2.2⟩
theorem driveW_tick (l:Lvl) (c:Car) (x:Inp):(driveW l c x).tick=c.tick:=by
 unfold driveW
 split
 ·exact (movedW_keeps l c x).1
 ·rfl
theorem stepW_tick {l:Lvl} {c:Car} {x:Inp} (h0:0≤c.tick) (h1:c.tick≤1000000):0≤(stepW l c x).tick∧(stepW l c x).tick≤c.tick+1:=by
 have hw:wrap64 (c.tick+1)=c.tick+1:=IntWalk.wrap64_in _ (by omega)
 unfold stepW
 split
 ·omega
 ·split
  ·show 0≤wrap64 (c.tick+1)∧wrap64 (c.tick+1)≤_
   omega
  ·rw [driveW_tick]
   show 0≤wrap64 (c.tick+1)∧wrap64 (c.tick+1)≤_
   omega
theorem stepW_one {l:Lvl} {c:Car} {x:Inp} (h:(c.dn && c.ov)=false):((stepW l c x).dn && (stepW l c x).ov)=false:=by
 unfold stepW
 split
 ·exact h
 ·rename_i hh
  have hd:c.dn=false:=by cases hc:c.dn <;> simp_all
  have ho:c.ov=false:=by cases hc:c.ov <;> simp_all
  split
  ·show (c.dn && c.ov)=false
   exact h
  ·unfold driveW
   split
   ·have:=(movedW_keeps l ⟨wrap64 (c.tick+1),c.ax,c.ay,c.fx,c.fy,c.turn,c.gate,c.dn,c.ov⟩ x).2.2
    show ((endW l _).dn && (movedW l _ x).ov)=false
    rw [this]
    simp [ho]
   ·simp [hd]
theorem runFrom_tick {l:Lvl}:∀ (xs:List Inp) (c:Car),0≤c.tick→c.tick+xs.length≤1000000→0≤(xs.foldl (stepW l) c).tick∧(xs.foldl (stepW l) c).tick≤c.tick+xs.length
 | [],c,h0,h1=>by simp;omega
 |x :: xs,c,h0,h1=>by
  simp only [List.length_cons] at h1
  have hs:=stepW_tick (l:=l) (x:=x) h0 (by omega)
  have:=runFrom_tick (l:=l) xs (stepW l c x) hs.1 (by omega)
  simp only [List.foldl_cons,List.length_cons]
  omega
theorem runW_tick (l:Lvl) (xs:List Inp) (n:Nat) (hn:xs.length≤1000000):0≤(runW l xs n).tick∧(runW l xs n).tick≤xs.length:=by
 unfold runW
 have hl:(xs.take n).length≤xs.length:=by simp;omega
 have:=runFrom_tick (l:=l) (xs.take n) (startW l) (by simp [startW]) (by simp only [startW];omega)
 simp only [startW] at this ⊢
 omega
theorem runW_one (l:Lvl) (xs:List Inp) (n:Nat):((runW l xs n).dn && (runW l xs n).ov)=false:=by
 unfold runW
 have:∀ (ys:List Inp) (c:Car),(c.dn && c.ov)=false→((ys.foldl (stepW l) c).dn && (ys.foldl (stepW l) c).ov)=false:=by
  intro ys
  induction ys with
  | nil=>exact fun c h=>h
  | cons y r ih=>exact fun c h=>ih _ (stepW_one h)
 exact this _ _ rfl
end Go.Proofs.YtpcjdalgebgofaaGreatDoorY
namespace Go.Proofs.YtpcjdalgebgofaaGreatDoorY
open Go.RowKit Go.Sort
theorem blk_apart {B T T' sz n c x:Nat} {A:Option Addr} {w w':World} {cs:Array Value} {vs:List Value} (h:Blk w x T cs) (k:Ow B w T' sz A n c vs) (hne:T≠T') (hg:w.grownBy w' (ownB A c)):Blk w' x T cs :=
 (hg.block x h.lt (by
  intro e
  rcases Nat.eq_zero_or_pos c with h0|h0
  ·rw [h0] at e;simp [ownB] at e
  ·obtain ⟨g2,_,e2,_,hb2,_⟩:=k.blk h0
   unfold ownB at e
   rw [if_neg (by omega),e2] at e
   injection e with e
   simp only at e
   exact Blk.ne_ h hb2 hne e)).trans h
end Go.Proofs.YtpcjdalgebgofaaGreatDoorY
namespace Go.Proofs.YtpcjdalgebgofaaGreatDoorY
open Go.RowKit Go.Sort
set_option maxRecDepth 100000 in
set_option maxHeartbeats 2000000 in
theorem l91Key_any (g p:Nat) (w:World) (h:Rdr w g p) (hp:p≤1099511627770) :
  Calls Qy.prog 28 #[.pointer (some ⟨g,0,none⟩)] w fun e w'=>∃ (z:Int) (p':Nat),e=.returned (.int .i64 z)∧p'≤p+3∧Rdr w' g p'∧Only g w w':=by
 have HR:=Lib.hid h
 clear h
 go_enter Qy.func28,Tryz.ntmps28
 go_wp2_with fail
 refine (pick_any g 20 p _ HR.out (by omega)).mono ?_
 rintro e w1 ⟨v1,rfl,a1,b1,hR1,hO1⟩
 have HR1:=Lib.hid hR1
 have HO1:=Lib.hid hO1
 clear b1 hR1 hO1
 by_cases h0:v1=0
 ·subst h0
  have hW:Below w1.heap.size w1 (w1.alloc (.cells #[.int .i64 0,.int .i64 9999,.int .i64 10000,.int .i64 (-1)] 3)):=ba (Below.refl _ _)
  have HR2:=Lib.hid (HR1.out.next hW)
  have HO2:=Lib.hid (HO1.out.next hW)
  have HL2:=Lib.hid (Blk.new w1 3 #[.int .i64 0,.int .i64 9999,.int .i64 10000,.int .i64 (-1)])
  clear hW
  go_wp2_with fail
  refine (pick_any g 4 _ _ HR2.out (by omega)).mono ?_
  rintro e w2 ⟨v2,rfl,a2,b2,hR2,hO3⟩
  have c2:=b2 (by omega)
  have hL:=HL2.out.only hO3 (by have:=HR1.out.lt;omega)
  have HR3:=Lib.hid hR2
  have HO3:=Lib.hid (HO2.out.trans hO3)
  obtain ⟨u,hu⟩:∃ u:Int,w2.cell? ⟨w1.heap.size,v2.toNat,none⟩=some (.int .i64 u):=by
   rw [hL.cell]
   have:v2=0∨v2=1∨v2=2∨v2=3:=by omega
   rcases this with rfl|rfl|rfl|rfl
   ·exact ⟨0,rfl⟩
   ·exact ⟨9999,rfl⟩
   ·exact ⟨10000,rfl⟩
   ·exact ⟨-1,rfl⟩
  clear b2 hR2 hO3 hL
  go_wp2_with fail
  go_ret
  exact ⟨u,p+2,rfl,by omega,HR3.out,HO3.out⟩
 ·have h0':(v1 == 0)=false:=by simpa using h0
  go_wp2_with fail
  refine (pick_any g 99 _ _ HR1.out (by omega)).mono ?_
  rintro e w2 ⟨v2,rfl,a2,b2,hR2,hO2⟩
  have c2:=b2 (by omega)
  have HR2:=Lib.hid hR2
  have HO2:=Lib.hid (HO1.out.trans hO2)
  clear b2 hR2 hO2
  go_wp2_with fail
  refine (pick_any g 100 _ _ HR2.out (by omega)).mono ?_
  rintro e w3 ⟨v3,rfl,a3,b3,hR3,hO3⟩
  have c3:=b3 (by omega)
  have HR3:=Lib.hid hR3
  have HO3:=Lib.hid (HO2.out.trans hO3)
  clear b3 hR3 hO3
  go_wp2_with fail
  go_ret
  exact ⟨_,p+3,rfl,by omega,HR3.out,HO3.out⟩
set_option maxRecDepth 100000 in
set_option maxHeartbeats 1000000 in
theorem sameInts_same (A A':Option Addr) (n c c':Nat) (zs:List Int) (w:World) (hr:RdI .i64 w A n zs) (hr':RdI .i64 w A' n zs) (hn:n≤1048576) :
  Calls Qy.prog 20 #[.slice A n c,.slice A' n c'] w fun e w'=>e=.returned (.bool true)∧Below w.heap.size w w':=by
 have HR:=Lib.hid hr
 have HR':=Lib.hid hr'
 clear hr hr'
 go_enter Qy.func20,Tryz.ntmps20
 go_wp2
 go_loopw [5] (fun i wr=>∃ k:Nat,k≤n∧i=.int .i64 k∧Hid (Below w.heap.size w wr)) (fun i _=>n - (intOf i).toNat)
 case atStart=>exact ⟨0,Nat.zero_le _,rfl,Below.refl _ _⟩
 case round =>
  obtain ⟨k,hk,rfl,HB⟩:=hrel
  by_cases hlt:k<n
  ·obtain ⟨b,off,z,hA,hb,hz,e0⟩:=(HR.out.below HB.out).at_ hlt
   obtain ⟨b',off',z',hA',hb',hz',f0⟩:=(HR'.out.below HB.out).at_ hlt
   subst hA hA'
   obtain rfl:z=z':=by rw [hz] at hz';exact Option.some.inj hz'
   clear hz hz'
   have g0:=fun d os=>cell_regrown e0 d os
   have h0:=fun d os=>cell_regrown f0 d os
   clear e0 f0
   go_wp2
   refine wp_region_qb (by kernel_rfl) (by kernel_rfl) ?_
   repeat (go_big_quiet_step (fail))
   refine wpQuiet_nil ?_
   intro w1 hb1
   go_wp2
   exact ⟨⟨k+1,by omega,by go_num,below_next HB.out hb1⟩,by simp [intOf];omega⟩
  ·go_wp2
   go_ret
   exact ⟨rfl,HB.out⟩
end Go.Proofs.YtpcjdalgebgofaaGreatDoorY
namespace Go.Proofs.YtpcjdalgebgofaaGreatDoorY
open Go.RowKit Go.Sort
def Dr (w0:World) (g q:Nat) (w:World):Prop:=Rdr w g q∧Only g w0 w
section
variable {w0 w w':World} {g q:Nat}
theorem Dr.next (h:Dr w0 g q w) (hb:Below w.heap.size w w'):Dr w0 g q w':=⟨h.1.next hb,h.2.next hb⟩
theorem Dr.step {q':Nat} (h:Dr w0 g q w) (hR:Rdr w' g q') (hO:Only g w w'):Dr w0 g q' w':=⟨hR,h.2.trans hO⟩
theorem Dr.set {a:Addr} (h:Dr w0 g q w) (ha:w0.heap.size≤a.block) (hg:g<w0.heap.size) (u:Value):Dr w0 g q (w.setCell a u):=⟨h.1.set_ (by omega) u,h.2.set_ (.inr ha) u⟩
theorem Dr.grown {row:Option Nat} (h:Dr w0 g q w) (hg:g<w0.heap.size) (k:w.grownBy w' row) (hr:∀ b,row=some b→w0.heap.size≤b):Dr w0 g q w' :=
 ⟨h.1.grown k (fun b hb=>Nat.lt_of_lt_of_le hg (hr b hb)),h.2.own_ k hr⟩
theorem Dr.mono {q':Nat} (h:Dr w0 g q w) (e:q=q'):Dr w0 g q' w:=e ▸ h
theorem Ow.onlyG {B T sz n c:Nat} {A:Option Addr} {vs:List Value} (h:Ow B w T sz A n c vs) (ho:Only g w w') (hg:g<B):Ow B w' T sz A n c vs :=
 h.only ho fun hA=>Nat.eq_zero_of_not_pos fun hc=>by have:=(h.lt hA hc).1;omega
theorem row_base {B T sz n c:Nat} {A:Option Addr} {vs:List Value} (h:Ow B w T sz A n c vs) (b:Nat) (hb:ownB A c=some b):B≤b:=by
 unfold ownB at hb
 split at hb
 ·cases hb
 ·exact (h.lt hb (by omega)).1
end
structure OwLv (B:Nat) (w:World) (l:Lvl) (ws gs:Sl):Prop where
 wl:Ow B w 27 4 ws.a ws.n ws.c (cellsB l.walls)
 gt:Ow B w 27 4 gs.a gs.n gs.c (cellsB l.gates)
 wn:ws.n≤1000
 gn:gs.n≤1000
 dj:∀ b,ownB ws.a ws.c=some b→ownB gs.a gs.c=some b→False
section
variable {B:Nat} {w w':World} {l:Lvl} {ws gs:Sl}
theorem OwLv.rd (h:OwLv B w l ws gs):RdL w l ws gs:=⟨Ow.rd encB_len (by decide) h.wl,Ow.rd encB_len (by decide) h.gt,⟨h.wl.le,by have:=h.wn;omega⟩,h.gt.le,by have:=h.gn;omega⟩
theorem OwLv.next (h:OwLv B w l ws gs) (hb:Below w.heap.size w w'):OwLv B w' l ws gs:=⟨Ow.next h.wl hb,Ow.next h.gt hb,h.wn,h.gn,h.dj⟩
theorem OwLv.mono {B':Nat} (h:OwLv B w l ws gs) (hb:B'≤B):OwLv B' w l ws gs:=⟨Ow.mono h.wl hb,Ow.mono h.gt hb,h.wn,h.gn,h.dj⟩
theorem OwLv.only {g:Nat} (h:OwLv B w l ws gs) (ho:Only g w w') (hg:g<B):OwLv B w' l ws gs:=⟨h.wl.onlyG ho hg,h.gt.onlyG ho hg,h.wn,h.gn,h.dj⟩
theorem OwLv.onlyT {o T':Nat} {cs:Array Value} (h:OwLv B w l ws gs) (k:Blk w o T' cs) (hne:27≠T') (ho:Only o w w'):OwLv B w' l ws gs:=⟨h.wl.onlyT k hne ho,h.gt.onlyT k hne ho,h.wn,h.gn,h.dj⟩
theorem OwLv.of {l':Lvl} (h:OwLv B w l ws gs) (h1:l'.walls=l.walls) (h2:l'.gates=l.gates):OwLv B w l' ws gs:=⟨h1 ▸ h.wl,h2 ▸ h.gt,h.wn,h.gn,h.dj⟩
theorem ownB_of {A:Option Addr} {c b:Nat} (h:ownB A c=some b):A.map (·.block)=some b∧0<c:=by
 unfold ownB at h
 split at h
 ·cases h
 ·exact ⟨h,by omega⟩
theorem ownB_to {A:Option Addr} {c b:Nat} (h:A.map (·.block)=some b) (hc:0<c):ownB A c=some b:=by
 unfold ownB
 rw [if_neg (by omega),h]
theorem OwLv.gate {A:Option Addr} {c n:Nat} {b:Bx} {l':Lvl} (h:OwLv B w l ws gs) (ho:Ow B w' 27 4 A n c (cellsB l.gates ++ cellsB [b])) (hg:w.grownBy w' (ownB gs.a gs.c))
  (hn:∀ x,A.map (·.block)=some x→0<c→ownB gs.a gs.c=some x∨x=w.heap.size) (hl:n≤1000) (h1:l'.walls=l.walls) (h2:l'.gates=l.gates ++ [b]):OwLv B w' l' ws ⟨A,n,c⟩:=by
 refine ⟨?_,?_,h.wn,hl,fun x hx hy=>?_⟩
 ·rw [h1]
  exact h.wl.keep fun x hx hc=>hg.block x (h.wl.lt hx hc).2 (fun e=>h.dj x (ownB_to hx hc) e.symm)
 ·rw [h2]
  show Ow _ _ _ _ _ _ _ (cellsX encB (l.gates ++ [b]))
  rw [cellsX_append]
  exact ho
 ·obtain ⟨hx1,hx2⟩:=ownB_of hx
  obtain ⟨hy1,hy2⟩:=ownB_of hy
  rcases hn x hy1 hy2 with e|e
  ·exact h.dj x hx e
  ·have:=(h.wl.lt hx1 hx2).2
   omega
theorem OwLv.wall {A:Option Addr} {c n:Nat} {b:Bx} {l':Lvl} (h:OwLv B w l ws gs) (ho:Ow B w' 27 4 A n c (cellsB l.walls ++ cellsB [b])) (hg:w.grownBy w' (ownB ws.a ws.c))
  (hn:∀ x,A.map (·.block)=some x→0<c→ownB ws.a ws.c=some x∨x=w.heap.size) (hl:n≤1000) (h1:l'.gates=l.gates) (h2:l'.walls=l.walls ++ [b]):OwLv B w' l' ⟨A,n,c⟩ gs:=by
 refine ⟨?_,?_,hl,h.gn,fun x hy hx=>?_⟩
 rotate_left
 ·rw [h1]
  exact h.gt.keep fun x hx hc=>hg.block x (h.gt.lt hx hc).2 (fun e=>h.dj x e.symm (ownB_to hx hc))
 rotate_left
 ·rw [h2]
  show Ow _ _ _ _ _ _ _ (cellsX encB (l.walls ++ [b]))
  rw [cellsX_append]
  exact ho
 ·obtain ⟨hx1,hx2⟩:=ownB_of hx
  obtain ⟨hy1,hy2⟩:=ownB_of hy
  rcases hn x hy1 hy2 with e|e
  ·exact h.dj x e hx
  ·have:=(h.gt.lt hx1 hx2).2
   omega
end
theorem thereLv {w:World} {b:Nat} {l0:Lvl} {w0 g0:Sl} (h:Blk w b 29 (lvlC l0 w0 g0)):w.there b 0 11:=fun j hj=>by
 rw [Nat.zero_add,h.cell,h.frozen]
 refine ⟨?_,rfl⟩
 have hj':j<(lvlC l0 w0 g0).size:=hj
 simp only [Array.getElem?_eq_getElem hj',Option.isSome_some]
theorem rangeLv {w:World} {b T:Nat} {cs:Array Value} (h:Blk w b T cs):w.rangeAt b 0 cs.toList:=fun j v hv=>by
 rw [Nat.zero_add,h.cell]
 simpa using hv
theorem oneLv (l:Lvl) (ws gs:Sl):(lvlC l ws gs).all (·.oneCell')=true:=by simp [Value.oneCell']
theorem blk_sets {b T:Nat}:∀ (vs:List Value) (o:Nat) (w:World) (cs:Array Value),Blk w b T cs→Blk (w.setCells b o vs) b T (setRun cs o vs)
 | [],_,_,_,h=>h
 | v :: vs,o,_,_,h=>blk_sets vs (o+1) _ _ (h.set_ o v)
theorem setWhole {w:World} {b T:Nat} {cs ds:Array Value} (h:Blk w b T cs) (hl:ds.size=cs.size):Blk (w.setCells b 0 ds.toList) b T ds:=by
 have h1:=blk_sets ds.toList 0 w cs h
 obtain ⟨h2,h3⟩:=setRun_take ds.toList cs 0 (by rw [Array.length_toList];omega)
 have e:setRun cs 0 ds.toList=ds:=by
  apply Array.ext'
  rw [List.take_of_length_le (by rw [Array.length_toList,Array.length_toList,h2];omega)] at h3
  simpa using h3
 rwa [e] at h1
theorem setLv {w:World} {b:Nat} {l0 l:Lvl} {w0 g0 ws gs:Sl} (h:Blk w b 29 (lvlC l0 w0 g0)):Blk (w.setCells b 0 (lvlC l ws gs).toList) b 29 (lvlC l ws gs) :=
 setWhole h rfl
theorem onlySets {g b:Nat} {w:World} (hb:b=g∨w.heap.size≤b):∀ (vs:List Value) (o:Nat) (w':World),Only g w w'→Only g w (w'.setCells b o vs)
 | [],_,_,h=>h
 | v :: vs,o,_,h=>onlySets hb vs (o+1) _ (h.set_ (p:=⟨b,o,none⟩) hb v)
theorem Dr.sets {w0:World} {g q b:Nat} (hg:g<w0.heap.size) (hb:w0.heap.size≤b):∀ (vs:List Value) (o:Nat) (w:World),Dr w0 g q w→Dr w0 g q (w.setCells b o vs)
 | [],_,_,h=>h
 | v :: vs,o,_,h=>Dr.sets hg hb vs (o+1) _ (h.set (a:=⟨b,o,none⟩) hb hg v)
def lv0:Lvl:=⟨0,0,0,0,[],[],(0,0,0,0),0⟩
def LvPost (g p K:Nat) (w:World) (e:Ending) (w':World):Prop :=
 ∃ (l:Lvl) (ws gs:Sl) (q:Nat),e=.returned (lvlV l ws gs)∧OwLv w.heap.size w' l ws gs∧q≤p+K∧Dr w g q w'
end Go.Proofs.YtpcjdalgebgofaaGreatDoorY

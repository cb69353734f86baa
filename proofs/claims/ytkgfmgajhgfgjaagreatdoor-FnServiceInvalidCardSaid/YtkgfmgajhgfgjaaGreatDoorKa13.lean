/-
  Lemmas and contracts: Ei. No condition.
-/
import Derived.Test.YtkgfmgajhgfgjaaGreatDoorKa12
set_option linter.unusedSimpArgs false
set_option linter.unusedVariables false
set_option linter.unusedSectionVars false
namespace Go.Proofs.YtkgfmgajhgfgjaaGreatDoor
open Go.RowKit Go.Sort
def differW (a b:List Int) (i:Nat):Bool:=decide (a.length≤i) || decide (b.length≤i) || ((a[i]?).getD 0 != (b[i]?).getD 0)
set_option maxRecDepth 100000 in
set_option maxHeartbeats 2000000 in
theorem l22Differ_any (A1 A2:Option Addr) (n1 c1 n2 c2 k:Nat) (a b:List Int) (w:World) (h1:RdI .i64 w A1 n1 a) (h2:RdI .i64 w A2 n2 b) (hk:k≤1099511627776) :
  Calls Tryz.prog 312 #[.slice A1 n1 c1,.slice A2 n2 c2,.int .i64 k] w fun e w'=>e=.returned (.bool (differW a b k))∧Below w.heap.size w w':=by
 have HA:=Lib.hid h1
 have HB0:=Lib.hid h2
 clear h1 h2
 by_cases q1:n1≤k
 ·have q1':decide ((n1:Int)≤(k:Int))=true:=by simp;omega
  go_enter Tryz.func312,Tryz.ntmps312
  go_wp2_with fail
  refine wp_region_qb (by kernel_rfl) (by kernel_rfl) ?_
  repeat (go_big_quiet_step ((fail)))
  refine wpQuiet_nil ?_
  intro w4 hb
  have HB:=Lib.hid hb
  clear hb
  go_wp2_with fail
  go_ret
  exact ⟨ret_bool (by simp [differW,HA.out.len,HB0.out.len,q1]),HB.out⟩
 ·have q1':decide ((n1:Int)≤(k:Int))=false:=by simp;omega
  by_cases q2:n2≤k
  ·have q2':decide ((n2:Int)≤(k:Int))=true:=by simp;omega
   go_enter Tryz.func312,Tryz.ntmps312
   go_wp2_with fail
   refine wp_region_qb (by kernel_rfl) (by kernel_rfl) ?_
   repeat (go_big_quiet_step ((fail)))
   refine wpQuiet_nil ?_
   intro w4 hb
   have HB:=Lib.hid hb
   clear hb
   go_wp2_with fail
   go_ret
   exact ⟨ret_bool (by simp [differW,HA.out.len,HB0.out.len,q2]),HB.out⟩
  ·have q2':decide ((n2:Int)≤(k:Int))=false:=by simp;omega
   obtain ⟨b1,o1,x,hA1,hl1,hx,hc1⟩:=HA.out.at_ (j:=k) (by omega)
   obtain ⟨b2,o2,y,hA2,hl2,hy,hc2⟩:=HB0.out.at_ (j:=k) (by omega)
   subst hA1 hA2
   have r1:=fun d os=>cell_regrown hc1 d os
   have r2:=fun d os=>cell_regrown hc2 d os
   have HX:=Lib.hid hx
   have HY:=Lib.hid hy
   clear hx hy hc1 hc2
   by_cases hxy:x=y
   ·have hxy':(x == y)=true:=by simpa using hxy
    have hxq:(x != y)=false:=by simpa using hxy
    have HXY:=Lib.hid hxy
    clear hxy
    go_enter Tryz.func312,Tryz.ntmps312
    go_wp2_with fail
    refine wp_region_qb (by kernel_rfl) (by kernel_rfl) ?_
    repeat (go_big_quiet_step ((fail)))
    refine wpQuiet_nil ?_
    intro w4 hb
    have HB:=Lib.hid hb
    clear hb
    go_wp2_with fail
    go_ret
    exact ⟨ret_bool (by simp [differW,HA.out.len,HB0.out.len,q1,q2,HX.out,HY.out,HXY.out]),HB.out⟩
   ·have hxy':(x == y)=false:=by simpa using hxy
    have hxq:(x != y)=true:=by simpa using hxy
    have HXY:=Lib.hid hxy
    clear hxy
    go_enter Tryz.func312,Tryz.ntmps312
    go_wp2_with fail
    refine wp_region_qb (by kernel_rfl) (by kernel_rfl) ?_
    repeat (go_big_quiet_step ((fail)))
    refine wpQuiet_nil ?_
    intro w4 hb
    have HB:=Lib.hid hb
    clear hb
    go_wp2_with fail
    go_ret
    exact ⟨ret_bool (by simp [differW,HA.out.len,HB0.out.len,q1,q2,HX.out,HY.out,HXY.out]),HB.out⟩
def divGo (a b:List Int):Nat→Nat→Int
 | 0,_ => -1
 | f+1,i=>if differW a b i then i else divGo a b f (i+1)
def divW (a b:List Int):Int:=divGo a b (max a.length b.length) 0
set_option maxRecDepth 100000 in
set_option maxHeartbeats 2000000 in
theorem specDivergeFirst_any (A1 A2:Option Addr) (n1 c1 n2 c2:Nat) (a b:List Int) (w:World) (h1:RdI .i64 w A1 n1 a) (h2:RdI .i64 w A2 n2 b) (hn1:n1≤1048576) (hn2:n2≤1048576) :
  Calls Tryz.prog 269 #[.slice A1 n1 c1,.slice A2 n2 c2] w fun e w'=>e=.returned (.int .i64 (divW a b))∧Below w.heap.size w w':=by
 have HA:=Lib.hid h1
 have HB0:=Lib.hid h2
 clear h1 h2
 obtain ⟨N,hN⟩:∃ N,max n1 n2=N:=⟨_,rfl⟩
 have hmx:(if (n1:Int)<(n2:Int) then (n2:Int) else (n1:Int))=(N:Int):=by split <;> omega
 have hmx2:max (n1:Int) (n2:Int)=(N:Int):=by omega
 have hmx3:(if n1<n2 then (n2:Int) else (n1:Int))=(N:Int):=by split <;> omega
 have hNb:N≤1048576:=by omega
 have HD:=Lib.hid (show divW a b=divGo a b N 0 by unfold divW;rw [HA.out.len,HB0.out.len,hN])
 clear hN
 go_enter Tryz.func269,Tryz.ntmps269
 go_wp2_with fail
 go_loopw [5] (fun i wr=>∃ k:Nat,k≤N∧i=.int .i64 k∧Hid (Below w.heap.size w wr∧divW a b=divGo a b (N - k) k)) (fun i _=>N - (intOf i).toNat)
 case atStart=>exact ⟨0,Nat.zero_le _,rfl,Below.refl _ _,HD.out⟩
 case round =>
  obtain ⟨k,hk,rfl,HQ⟩:=hrel
  obtain ⟨HB,HG⟩:=HQ.out
  replace HB:=Lib.hid HB
  replace HG:=Lib.hid HG
  clear HQ
  by_cases hlt:k<N
  ·have HST:=Lib.hid (show divW a b=if differW a b k then (k:Int) else divGo a b (N - (k+1)) (k+1) by rw [HG.out,show N - k=(N - (k+1))+1 by omega,divGo])
   go_wp2_with fail
   refine (l22Differ_any A1 A2 n1 c1 n2 c2 k a b _ (HA.out.below HB.out) (HB0.out.below HB.out) (by omega)).mono ?_
   rintro e w1 ⟨rfl,hb⟩
   replace HB:=Lib.hid (below_next HB.out hb)
   clear hb
   cases hd:differW a b k
   ·have HE:=Lib.hid (show divW a b=divGo a b (N - (k+1)) (k+1) by rw [HST.out,hd];rfl)
    clear hd
    go_wp2_with fail
    exact ⟨⟨k+1,by omega,by go_num,HB.out,HE.out⟩,by simp [intOf];omega⟩
   ·have HE:=Lib.hid (show divW a b=k by rw [HST.out,hd];rfl)
    clear hd
    go_wp2_with fail
    go_ret
    exact ⟨ret_int (by rw [HE.out]),HB.out⟩
  ·have hkn:k=N:=by omega
   subst hkn
   have HE:=Lib.hid (show divW a b = -1 by rw [HG.out,Nat.sub_self,divGo])
   go_wp2_with fail
   go_ret
   exact ⟨ret_int (by rw [HE.out]),HB.out⟩
noncomputable def runV (l:Lvl) (r:Rep):Int :=
 let c:=runW l r.ins r.ins.length
 if c.ov then 6 else if 0≤divW (hashesW l r.ins) r.hs then 7 else if c.dn=false∨c.tick≠(r.ins.length:Int) then 8 else if c.tick≠r.sc then 9 else 0
noncomputable def verdW (l:Lvl) (key:Int) (r:Rep):Int :=
 if repOk r=false then 1 else if levelOk l=false∨l.id≠r.lv then 2 else if inR key 1 9999=false then 3 else if tagW key (listW r)≠r.tag then 4 else if 0≤legalW l r.ins then 5 else runV l r
set_option maxRecDepth 100000 in
set_option maxHeartbeats 4000000 in
theorem l31Run_any (l:Lvl) (ws gs:Sl) (r:Rep) (si sh:Sl) (w:World) (hl:RdL w l ws gs) (hr:RdR w r si sh) (hx:∀ x ∈ r.ins,inOk x=true) :
  Calls Tryz.prog 226 #[lvlV l ws gs,repV r si sh] w fun e w'=>e=.returned (.int .i64 (runV l r))∧Below w.heap.size w w':=by
 obtain ⟨hi,hh,⟨_,hn1⟩,_,hn2⟩:=hr
 have HIN:=Lib.hid hi
 have HH:=Lib.hid hh
 have HL:=Lib.hid hl
 have HX:=Lib.hid hx
 clear hi hh hl hx
 go_enter Tryz.func226,Tryz.ntmps226
 go_wp2_with fail
 refine (l21To_any l ws gs si.a si.n si.c si.n r.ins _ (HL.out.below (ba (ba (Below.refl _ _)))) (HIN.out.below (ba (ba (Below.refl _ _)))) hn1 (Nat.le_refl _) HX.out).mono ?_
 rintro e w1 ⟨rfl,hb⟩
 have KL:=Lib.hid (((Blk.new w 29 (lvlC l ws gs)).alloc _).next hb)
 have KR:=Lib.hid ((Blk.newAt _ 35 (repC r si sh) (w.heap.size+1) (by simp)).next hb)
 have HB:=Lib.hid (ba (ba hb))
 clear hb
 obtain ⟨car,hcr⟩:∃ c,runW l r.ins si.n=c:=⟨_,rfl⟩
 rw [hcr]
 have HCR:=Lib.hid (show runW l r.ins r.ins.length=car by rw [HIN.out.len];exact hcr)
 have HLEN:=Lib.hid HIN.out.len
 clear hcr
 obtain ⟨tick,ax,ay,fx,fy,turn,gate,dn,ov⟩:=car
 rw [show carV ⟨tick,ax,ay,fx,fy,turn,gate,dn,ov⟩=.agg #[.int .i64 tick,.int .i64 ax,.int .i64 ay,.int .i64 fx,.int .i64 fy,.int .i64 turn,.int .i64 gate,.bool dn,.bool ov] from rfl]
 cases ov
 rotate_left
 ·go_wp2_with fail
  go_ret
  exact ⟨ret_int (by simp [runV,HCR.out]),HB.out.alloc HB.out.size _⟩
 go_upto_region 4 with (fail)
 refine into_world (fun W=>Below w1.heap.size w1 W∧Blk W w1.heap.size 93 (carC ⟨tick,ax,ay,fx,fy,turn,gate,dn,false⟩)) ⟨ba (Below.refl _ _),Blk.new _ _ _⟩ ?_
 rintro W ⟨hb,hk⟩
 have KO:=Lib.hid hk
 replace KL:=Lib.hid (KL.out.next hb)
 replace KR:=Lib.hid (KR.out.next hb)
 replace HB:=Lib.hid (below_next HB.out hb)
 clear hb hk
 have HLW:=Lib.hid (HL.out.below HB.out)
 have HNW:=Lib.hid (HIN.out.below HB.out)
 have HHW:=Lib.hid (HH.out.below HB.out)
 obtain ⟨h,hh⟩:∃ h,(hashesW l r.ins).length=h:=⟨_,rfl⟩
 have HHL:=Lib.hid hh
 have hhb:h≤1048576:=by
  rw [← hh]
  unfold hashesW
  split
  ·simp;have:=HIN.out.len;omega
  ·simp
 clear hh
 obtain ⟨dv,hdv⟩:∃ d,divW (hashesW l r.ins) r.hs=d:=⟨_,rfl⟩
 have HDV:=Lib.hid hdv
 clear hdv
 by_cases hd0:0≤dv
 ·have hd0':decide (0≤dv)=true:=by simpa using hd0
  have HRV:=Lib.hid (show runV l r=7 by simp [runV,HCR.out,HDV.out,hd0])
  clear hd0
  refine wp_region_grow 8 (by kernel_rfl) (by kernel_rfl) (by kernel_rfl) (fun a b=>Below a.heap.size a b) (fun mq w'=>Below W.heap.size W w') (fun iq v w'=>match iq with|0=>(v=lvlV l ws gs)|1=>(v=.pointer (some ⟨w.heap.size+1,3,none⟩))|2=>(v=.slice si.a si.n si.c)|3=>(∃ B c',v=.slice B h c'∧Ow 0 w' 3 1 B h c' (cellsI (hashesW l r.ins)))|4=>(v=.pointer (some ⟨w.heap.size+1,4,none⟩))|5=>(v=.slice sh.a sh.n sh.c)|6=>(v=.int .i64 dv)|7=>(v=.bool true)|_=>True) (fun sq=>{ tmps:=#[lvlV l ws gs,repV r si sh,Value.pointer (some (⟨w.heap.size,0,none⟩:Addr)),Value.pointer (some (⟨w.heap.size+1,0,none⟩:Addr)),Value.int .i64 0,Value.pointer (some (⟨w1.heap.size,0,none⟩:Addr)),Value.agg #[Value.int .i64 l.id,Value.int .i64 l.ticks,Value.int .i64 l.sx,Value.int .i64 l.sy,Value.slice ws.a ws.n ws.c,Value.slice gs.a gs.n gs.c,Value.int .i64 l.f.1,Value.int .i64 l.f.2.1,Value.int .i64 l.f.2.2.1,Value.int .i64 l.f.2.2.2,Value.int .i64 l.bans],Value.pointer (some (⟨w.heap.size+1,3,none⟩:Addr)),Value.slice si.a si.n si.c,Value.pointer (some (⟨w.heap.size+1,3,none⟩:Addr)),Value.slice si.a si.n si.c,Value.int .i64 (si.n:Int),Value.agg #[Value.int .i64 tick,Value.int .i64 ax,Value.int .i64 ay,Value.int .i64 fx,Value.int .i64 fy,Value.int .i64 turn,Value.int .i64 gate,Value.bool dn,Value.bool false],Value.bool false,Value.pointer (some (⟨w1.heap.size,8,none⟩:Addr)),Value.bool false,undef,sq 0,sq 1,sq 2,sq 3,sq 4,sq 5,sq 6,sq 7,undef,undef,undef,undef,undef,undef,undef,undef,undef,undef,undef,undef,undef,undef,undef,undef,undef,undef],defers:=[] }) (fun _=>undef) ?_ ?_ ?_ ?_
  ·rintro iq v a b hg h
   match iq,h with
   | 0,h=>exact h
   | 1,h=>exact h
   | 2,h=>exact h
   | 3,h=>exact (by obtain ⟨B,c',rfl,ho⟩:=h;exact ⟨B,c',rfl,Ow.next ho hg⟩)
   | 4,h=>exact h
   | 5,h=>exact h
   | 6,h=>exact h
   | 7,h=>exact h
   | (kq+8),_=>exact trivial
  ·exact ⟨rfl,rfl,rfl,Nat.le_refl _,fun _ _=>rfl⟩
  ·intro mq sq w' iq oq hmq hiq hoq hJ hd Kq hK
   have hiq':iq=0∨iq=1∨iq=2∨iq=3∨iq=4∨iq=5∨iq=6∨iq=7:=by omega
   rcases hiq' with rfl|rfl|rfl|rfl|rfl|rfl|rfl|rfl
   ·cases (show some _=some oq from hoq)
    have hK':=hK
    simp only [updV,Nat.reduceEqDiff,↓reduceIte] at hK'
    clear hK hd
    generalize sq 0=x0,sq 1=x1,sq 2=x2,sq 3=x3,sq 4=x4,sq 5=x5,sq 6=x6,sq 7=x7 at *
    have hcc:=fun q=>(KL.out.next hJ).cell q
    go_simp
    exact hK' _ _ (Below.refl _ _) hJ rfl
   ·cases (show some _=some oq from hoq)
    have hK':=hK
    simp only [updV,Nat.reduceEqDiff,↓reduceIte] at hK'
    clear hK hd
    generalize sq 0=x0,sq 1=x1,sq 2=x2,sq 3=x3,sq 4=x4,sq 5=x5,sq 6=x6,sq 7=x7 at *
    go_simp
    exact hK' _ _ (Below.refl _ _) hJ rfl
   ·cases (show some _=some oq from hoq)
    have d1:=hd 1 (by kernel_rfl) (by decide)
    have hK':=hK
    simp only [updV,Nat.reduceEqDiff,↓reduceIte] at hK'
    clear hK hd
    generalize sq 0=x0,sq 1=x1,sq 2=x2,sq 3=x3,sq 4=x4,sq 5=x5,sq 6=x6,sq 7=x7 at *
    obtain rfl:=d1
    have hcc:=(KR.out.next hJ).cell 3
    go_simp
    exact hK' _ _ (Below.refl _ _) hJ rfl
   ·cases (show some _=some oq from hoq)
    have d0:=hd 0 (by kernel_rfl) (by decide)
    have d2:=hd 2 (by kernel_rfl) (by decide)
    have hK':=hK
    simp only [updV,Nat.reduceEqDiff,↓reduceIte] at hK'
    clear hK hd
    generalize sq 0=x0,sq 1=x1,sq 2=x2,sq 3=x3,sq 4=x4,sq 5=x5,sq 6=x6,sq 7=x7 at *
    obtain rfl:=d0
    obtain rfl:=d2
    go_simp
    refine (specRunHashes_any l ws gs si.a si.n si.c r.ins _ (HLW.out.below hJ) (HNW.out.below hJ) hn1).mono ?_
    rintro e w2 ⟨B,c',rfl,ho,hb⟩
    rw [HHL.out] at ho ⊢
    exact hK' _ _ hb (below_next hJ hb) ⟨_,_,rfl,Ow.mono ho (Nat.zero_le _)⟩
   ·cases (show some _=some oq from hoq)
    have hK':=hK
    simp only [updV,Nat.reduceEqDiff,↓reduceIte] at hK'
    clear hK hd
    generalize sq 0=x0,sq 1=x1,sq 2=x2,sq 3=x3,sq 4=x4,sq 5=x5,sq 6=x6,sq 7=x7 at *
    go_simp
    exact hK' _ _ (Below.refl _ _) hJ rfl
   ·cases (show some _=some oq from hoq)
    have d4:=hd 4 (by kernel_rfl) (by decide)
    have hK':=hK
    simp only [updV,Nat.reduceEqDiff,↓reduceIte] at hK'
    clear hK hd
    generalize sq 0=x0,sq 1=x1,sq 2=x2,sq 3=x3,sq 4=x4,sq 5=x5,sq 6=x6,sq 7=x7 at *
    obtain rfl:=d4
    have hcc:=(KR.out.next hJ).cell 4
    go_simp
    exact hK' _ _ (Below.refl _ _) hJ rfl
   ·cases (show some _=some oq from hoq)
    have d3:=hd 3 (by kernel_rfl) (by decide)
    have d5:=hd 5 (by kernel_rfl) (by decide)
    have hK':=hK
    simp only [updV,Nat.reduceEqDiff,↓reduceIte] at hK'
    clear hK hd
    generalize sq 0=x0,sq 1=x1,sq 2=x2,sq 3=x3,sq 4=x4,sq 5=x5,sq 6=x6,sq 7=x7 at *
    obtain ⟨B,c',rfl,ho⟩:=d3
    obtain rfl:=d5
    go_simp
    refine (specDivergeFirst_any B sh.a h c' sh.n sh.c (hashesW l r.ins) r.hs w' ho.rdI (HHW.out.below hJ) hhb hn2).mono ?_
    rintro e w2 ⟨rfl,hb⟩
    rw [HDV.out]
    exact hK' _ _ hb (below_next hJ hb) rfl
   ·cases (show some _=some oq from hoq)
    have d6:=hd 6 (by kernel_rfl) (by decide)
    have hK':=hK
    simp only [updV,Nat.reduceEqDiff,↓reduceIte] at hK'
    clear hK hd
    generalize sq 0=x0,sq 1=x1,sq 2=x2,sq 3=x3,sq 4=x4,sq 5=x5,sq 6=x6,sq 7=x7 at *
    obtain rfl:=d6
    go_simp
    exact hK' _ _ (Below.refl _ _) hJ rfl
  ·intro sq w' hJ hφ
   simp only [List.drop_succ_cons,List.drop_zero]
   have d7:=hφ 7 (by decide)
   clear hφ
   generalize sq 0=x0,sq 1=x1,sq 2=x2,sq 3=x3,sq 4=x4,sq 5=x5,sq 6=x6,sq 7=x7 at *
   obtain rfl:=d7
   replace HB:=Lib.hid (below_next HB.out hJ)
   replace KO:=Lib.hid (KO.out.next hJ)
   replace KR:=Lib.hid (KR.out.next hJ)
   clear hJ
   go_wp2_with fail
   go_ret
   exact ⟨ret_int (by rw [HRV.out]),HB.out⟩
 ·have hd0':decide (0≤dv)=false:=by simpa using hd0
  have HD0:=Lib.hid hd0
  clear hd0
  refine wp_region_grow 8 (by kernel_rfl) (by kernel_rfl) (by kernel_rfl) (fun a b=>Below a.heap.size a b) (fun mq w'=>Below W.heap.size W w') (fun iq v w'=>match iq with|0=>(v=lvlV l ws gs)|1=>(v=.pointer (some ⟨w.heap.size+1,3,none⟩))|2=>(v=.slice si.a si.n si.c)|3=>(∃ B c',v=.slice B h c'∧Ow 0 w' 3 1 B h c' (cellsI (hashesW l r.ins)))|4=>(v=.pointer (some ⟨w.heap.size+1,4,none⟩))|5=>(v=.slice sh.a sh.n sh.c)|6=>(v=.int .i64 dv)|7=>(v=.bool false)|_=>True) (fun sq=>{ tmps:=#[lvlV l ws gs,repV r si sh,Value.pointer (some (⟨w.heap.size,0,none⟩:Addr)),Value.pointer (some (⟨w.heap.size+1,0,none⟩:Addr)),Value.int .i64 0,Value.pointer (some (⟨w1.heap.size,0,none⟩:Addr)),Value.agg #[Value.int .i64 l.id,Value.int .i64 l.ticks,Value.int .i64 l.sx,Value.int .i64 l.sy,Value.slice ws.a ws.n ws.c,Value.slice gs.a gs.n gs.c,Value.int .i64 l.f.1,Value.int .i64 l.f.2.1,Value.int .i64 l.f.2.2.1,Value.int .i64 l.f.2.2.2,Value.int .i64 l.bans],Value.pointer (some (⟨w.heap.size+1,3,none⟩:Addr)),Value.slice si.a si.n si.c,Value.pointer (some (⟨w.heap.size+1,3,none⟩:Addr)),Value.slice si.a si.n si.c,Value.int .i64 (si.n:Int),Value.agg #[Value.int .i64 tick,Value.int .i64 ax,Value.int .i64 ay,Value.int .i64 fx,Value.int .i64 fy,Value.int .i64 turn,Value.int .i64 gate,Value.bool dn,Value.bool false],Value.bool false,Value.pointer (some (⟨w1.heap.size,8,none⟩:Addr)),Value.bool false,undef,sq 0,sq 1,sq 2,sq 3,sq 4,sq 5,sq 6,sq 7,undef,undef,undef,undef,undef,undef,undef,undef,undef,undef,undef,undef,undef,undef,undef,undef,undef,undef],defers:=[] }) (fun _=>undef) ?_ ?_ ?_ ?_
  ·rintro iq v a b hg h
   match iq,h with
   | 0,h=>exact h
   | 1,h=>exact h
   | 2,h=>exact h
   | 3,h=>exact (by obtain ⟨B,c',rfl,ho⟩:=h;exact ⟨B,c',rfl,Ow.next ho hg⟩)
   | 4,h=>exact h
   | 5,h=>exact h
   | 6,h=>exact h
   | 7,h=>exact h
   | (kq+8),_=>exact trivial
  ·exact ⟨rfl,rfl,rfl,Nat.le_refl _,fun _ _=>rfl⟩
  ·intro mq sq w' iq oq hmq hiq hoq hJ hd Kq hK
   have hiq':iq=0∨iq=1∨iq=2∨iq=3∨iq=4∨iq=5∨iq=6∨iq=7:=by omega
   rcases hiq' with rfl|rfl|rfl|rfl|rfl|rfl|rfl|rfl
   ·cases (show some _=some oq from hoq)
    have hK':=hK
    simp only [updV,Nat.reduceEqDiff,↓reduceIte] at hK'
    clear hK hd
    generalize sq 0=x0,sq 1=x1,sq 2=x2,sq 3=x3,sq 4=x4,sq 5=x5,sq 6=x6,sq 7=x7 at *
    have hcc:=fun q=>(KL.out.next hJ).cell q
    go_simp
    exact hK' _ _ (Below.refl _ _) hJ rfl
   ·cases (show some _=some oq from hoq)
    have hK':=hK
    simp only [updV,Nat.reduceEqDiff,↓reduceIte] at hK'
    clear hK hd
    generalize sq 0=x0,sq 1=x1,sq 2=x2,sq 3=x3,sq 4=x4,sq 5=x5,sq 6=x6,sq 7=x7 at *
    go_simp
    exact hK' _ _ (Below.refl _ _) hJ rfl
   ·cases (show some _=some oq from hoq)
    have d1:=hd 1 (by kernel_rfl) (by decide)
    have hK':=hK
    simp only [updV,Nat.reduceEqDiff,↓reduceIte] at hK'
    clear hK hd
    generalize sq 0=x0,sq 1=x1,sq 2=x2,sq 3=x3,sq 4=x4,sq 5=x5,sq 6=x6,sq 7=x7 at *
    obtain rfl:=d1
    have hcc:=(KR.out.next hJ).cell 3
    go_simp
    exact hK' _ _ (Below.refl _ _) hJ rfl
   ·cases (show some _=some oq from hoq)
    have d0:=hd 0 (by kernel_rfl) (by decide)
    have d2:=hd 2 (by kernel_rfl) (by decide)
    have hK':=hK
    simp only [updV,Nat.reduceEqDiff,↓reduceIte] at hK'
    clear hK hd
    generalize sq 0=x0,sq 1=x1,sq 2=x2,sq 3=x3,sq 4=x4,sq 5=x5,sq 6=x6,sq 7=x7 at *
    obtain rfl:=d0
    obtain rfl:=d2
    go_simp
    refine (specRunHashes_any l ws gs si.a si.n si.c r.ins _ (HLW.out.below hJ) (HNW.out.below hJ) hn1).mono ?_
    rintro e w2 ⟨B,c',rfl,ho,hb⟩
    rw [HHL.out] at ho ⊢
    exact hK' _ _ hb (below_next hJ hb) ⟨_,_,rfl,Ow.mono ho (Nat.zero_le _)⟩
   ·cases (show some _=some oq from hoq)
    have hK':=hK
    simp only [updV,Nat.reduceEqDiff,↓reduceIte] at hK'
    clear hK hd
    generalize sq 0=x0,sq 1=x1,sq 2=x2,sq 3=x3,sq 4=x4,sq 5=x5,sq 6=x6,sq 7=x7 at *
    go_simp
    exact hK' _ _ (Below.refl _ _) hJ rfl
   ·cases (show some _=some oq from hoq)
    have d4:=hd 4 (by kernel_rfl) (by decide)
    have hK':=hK
    simp only [updV,Nat.reduceEqDiff,↓reduceIte] at hK'
    clear hK hd
    generalize sq 0=x0,sq 1=x1,sq 2=x2,sq 3=x3,sq 4=x4,sq 5=x5,sq 6=x6,sq 7=x7 at *
    obtain rfl:=d4
    have hcc:=(KR.out.next hJ).cell 4
    go_simp
    exact hK' _ _ (Below.refl _ _) hJ rfl
   ·cases (show some _=some oq from hoq)
    have d3:=hd 3 (by kernel_rfl) (by decide)
    have d5:=hd 5 (by kernel_rfl) (by decide)
    have hK':=hK
    simp only [updV,Nat.reduceEqDiff,↓reduceIte] at hK'
    clear hK hd
    generalize sq 0=x0,sq 1=x1,sq 2=x2,sq 3=x3,sq 4=x4,sq 5=x5,sq 6=x6,sq 7=x7 at *
    obtain ⟨B,c',rfl,ho⟩:=d3
    obtain rfl:=d5
    go_simp
    refine (specDivergeFirst_any B sh.a h c' sh.n sh.c (hashesW l r.ins) r.hs w' ho.rdI (HHW.out.below hJ) hhb hn2).mono ?_
    rintro e w2 ⟨rfl,hb⟩
    rw [HDV.out]
    exact hK' _ _ hb (below_next hJ hb) rfl
   ·cases (show some _=some oq from hoq)
    have d6:=hd 6 (by kernel_rfl) (by decide)
    have hK':=hK
    simp only [updV,Nat.reduceEqDiff,↓reduceIte] at hK'
    clear hK hd
    generalize sq 0=x0,sq 1=x1,sq 2=x2,sq 3=x3,sq 4=x4,sq 5=x5,sq 6=x6,sq 7=x7 at *
    obtain rfl:=d6
    go_simp
    exact hK' _ _ (Below.refl _ _) hJ rfl
  ·intro sq w' hJ hφ
   simp only [List.drop_succ_cons,List.drop_zero]
   have d7:=hφ 7 (by decide)
   clear hφ
   generalize sq 0=x0,sq 1=x1,sq 2=x2,sq 3=x3,sq 4=x4,sq 5=x5,sq 6=x6,sq 7=x7 at *
   obtain rfl:=d7
   replace HB:=Lib.hid (below_next HB.out hJ)
   replace KO:=Lib.hid (KO.out.next hJ)
   replace KR:=Lib.hid (KR.out.next hJ)
   clear hJ
   have co:=fun o=>KO.out.cell o
   have fo:=fun o=>KO.out.frozen o
   have zo:=KO.out.lt
   have cr:=fun o=>KR.out.cell o
   have fr:=fun o=>KR.out.frozen o
   have zr:=KR.out.lt
   cases dn
   ·have HRV:=Lib.hid (show runV l r=8 by simp [runV,HCR.out,HDV.out,HD0.out])
    go_wp2_with fail
    go_ret
    exact ⟨ret_int (by rw [HRV.out]),HB.out⟩
   ·by_cases ht:tick=(si.n:Int)
    ·have HT:=Lib.hid ht
     have ht':(tick == (si.n:Int))=true:=by simpa using ht
     by_cases hs:tick=r.sc
     ·have hs':(tick == r.sc)=true:=by simpa using hs
      have HRV:=Lib.hid (show runV l r=0 by unfold runV;simp only [HCR.out,HDV.out];simp [HD0.out,HLEN.out,ht,← hs])
      clear ht hs
      go_wp2_with fail
      go_ret
      exact ⟨ret_int (by rw [HRV.out]),HB.out⟩
     ·have hs':(tick == r.sc)=false:=by simpa using hs
      have HRV:=Lib.hid (show runV l r=9 by rw [ht] at hs;unfold runV;simp only [HCR.out,HDV.out];simp [HD0.out,HLEN.out,ht,hs])
      clear ht hs
      go_wp2_with fail
      go_ret
      exact ⟨ret_int (by rw [HRV.out]),HB.out⟩
    ·have ht':(tick == (si.n:Int))=false:=by simpa using ht
     have HRV:=Lib.hid (show runV l r=8 by unfold runV;simp only [HCR.out,HDV.out];simp [HD0.out,HLEN.out,ht])
     clear ht
     go_wp2_with fail
     go_ret
     exact ⟨ret_int (by rw [HRV.out]),HB.out⟩
set_option maxRecDepth 100000 in
set_option maxHeartbeats 4000000 in
theorem specVerifyReplay_any (l:Lvl) (ws gs:Sl) (key:Int) (r:Rep) (si sh:Sl) (w:World) (hl:RdL w l ws gs) (hr:RdR w r si sh) :
  Calls Tryz.prog 172 #[lvlV l ws gs,.int .i64 key,repV r si sh] w fun e w'=>e=.returned (.int .i64 (verdW l key r))∧Below w.heap.size w w':=by
 have HL:=Lib.hid hl
 have HR:=Lib.hid hr
 have hsi:=hr.2.2.1.2
 clear hl hr
 go_enter Tryz.func172,Tryz.ntmps172
 go_wp2_with fail
 refine (specReplayValid_any r si sh _ (HR.out.below (ba (ba (Below.refl _ _))))).mono ?_
 rintro e w1 ⟨rfl,hb⟩
 have KL:=Lib.hid (((Blk.new w 29 (lvlC l ws gs)).alloc _).next hb)
 have KR:=Lib.hid ((Blk.newAt _ 35 (repC r si sh) (w.heap.size+1) (by simp)).next hb)
 have HB:=Lib.hid (ba (ba hb))
 clear hb
 cases h1:repOk r
 ·have HV:=Lib.hid (show verdW l key r=1 by unfold verdW;simp [h1])
  go_wp2_with fail
  go_ret
  exact ⟨ret_int (by rw [HV.out]),HB.out⟩
 have H1:=Lib.hid h1
 clear h1
 have cl:=fun o=>KL.out.cell o
 have fl:=fun o=>KL.out.frozen o
 have zl:=KL.out.lt
 go_wp2_with fail
 refine (specLevelValid_any l ws gs _ (HL.out.below HB.out)).mono ?_
 rintro e w2 ⟨rfl,hb⟩
 replace KL:=Lib.hid (KL.out.next hb)
 replace KR:=Lib.hid (KR.out.next hb)
 replace HB:=Lib.hid (below_next HB.out hb)
 clear hb cl fl zl
 cases h2:levelOk l
 ·have HV:=Lib.hid (show verdW l key r=2 by unfold verdW;simp [H1.out,h2])
  go_wp2_with fail
  go_ret
  exact ⟨ret_int (by rw [HV.out]),HB.out⟩
 have H2:=Lib.hid h2
 clear h2
 have cl:=fun o=>KL.out.cell o
 have fl:=fun o=>KL.out.frozen o
 have zl:=KL.out.lt
 have cr:=fun o=>KR.out.cell o
 have fr:=fun o=>KR.out.frozen o
 have zr:=KR.out.lt
 by_cases h3:l.id=r.lv
 rotate_left
 ·have h3':(l.id == r.lv)=false:=by simpa using h3
  have HV:=Lib.hid (show verdW l key r=2 by unfold verdW;simp [H1.out,H2.out,h3])
  go_wp2_with fail
  go_ret
  exact ⟨ret_int (by rw [HV.out]),HB.out⟩
 have h3':(l.id == r.lv)=true:=by simpa using h3
 have H3:=Lib.hid h3
 clear h3
 go_wp2_with fail
 refine (l6In_any _ _ _ _).mono ?_
 rintro e w3 ⟨rfl,rfl⟩
 cases h4:inR key 1 9999
 ·have HV:=Lib.hid (show verdW l key r=3 by unfold verdW;simp [H1.out,H2.out,H3.out,h4])
  go_wp2_with fail
  go_ret
  exact ⟨ret_int (by rw [HV.out]),HB.out⟩
 have H4:=Lib.hid h4
 clear h4
 have hne:(l.id != r.lv)=false:=by simp [H3.out]
 obtain ⟨tg,htg⟩:∃ t,tagW key (listW r)=t:=⟨_,rfl⟩
 have HTG:=Lib.hid htg
 have HRW:=Lib.hid (HR.out.below HB.out)
 have HF:=Lib.hid (repOk_facts H1.out)
 have HLL:=Lib.hid (show (listW r).length≤1099511627776 by
  have f7:=HF.out.2.2.2.2.2.2.1
  have f8:=HF.out.2.2.2.2.2.2.2
  simp only [listW,List.length_append,List.length_map,List.length_cons,List.length_nil]
  omega)
 clear htg cl fl zl cr fr zr
 by_cases h5:tg=r.tag
 rotate_left
 ·have h5':(tg == r.tag)=false:=by simpa using h5
  have h5n:(tg != r.tag)=true:=by simpa using h5
  have H5:=Lib.hid h5
  clear h5
  go_upto_region 7 with (fail)
  refine wp_region_grow 7 (by kernel_rfl) (by kernel_rfl) (by kernel_rfl) (fun a b=>Below a.heap.size a b) (fun mq w'=>Below w2.heap.size w2 w') (fun iq v w'=>match iq with|0=>(v=.int .i64 key)|1=>(v=repV r si sh)|2=>(∃ B c',v=.slice B (listW r).length c'∧Ow 0 w' 3 1 B (listW r).length c' (cellsI (listW r)))|3=>(v=.int .i64 tg)|4=>(v=.pointer (some ⟨w.heap.size+1,5,none⟩))|5=>(v=.int .i64 r.tag)|6=>(v=.bool true)|_=>True) (fun sq=>{ tmps:=#[lvlV l ws gs,Value.int .i64 key,repV r si sh,Value.pointer (some (⟨w.heap.size,0,none⟩:Addr)),undef,Value.pointer (some (⟨w.heap.size+1,0,none⟩:Addr)),Value.int .i64 0,Value.bool false,Value.agg #[Value.int .i64 r.lv,Value.int .i64 r.pl,Value.int .i64 r.sc,Value.slice si.a si.n si.c,Value.slice sh.a sh.n sh.c,Value.int .i64 r.tag],Value.bool true,Value.bool false,Value.bool false,Value.agg #[Value.int .i64 l.id,Value.int .i64 l.ticks,Value.int .i64 l.sx,Value.int .i64 l.sy,Value.slice ws.a ws.n ws.c,Value.slice gs.a gs.n gs.c,Value.int .i64 l.f.1,Value.int .i64 l.f.2.1,Value.int .i64 l.f.2.2.1,Value.int .i64 l.f.2.2.2,Value.int .i64 l.bans],Value.bool true,Value.bool false,Value.bool false,Value.pointer (some (⟨w.heap.size,0,none⟩:Addr)),Value.int .i64 l.id,Value.pointer (some (⟨w.heap.size+1,0,none⟩:Addr)),Value.int .i64 r.lv,Value.bool false,Value.bool false,Value.bool false,Value.int .i64 key,Value.bool true,Value.bool false,undef,sq 0,sq 1,sq 2,sq 3,sq 4,sq 5,sq 6,undef,undef,undef,undef,undef,undef,undef,undef,undef],defers:=[] }) (fun _=>undef) ?_ ?_ ?_ ?_
  ·rintro iq v a b hg h
   match iq,h with
   | 0,h=>exact h
   | 1,h=>exact h
   | 2,h=>exact (by obtain ⟨B,c',rfl,ho⟩:=h;exact ⟨B,c',rfl,Ow.next ho hg⟩)
   | 3,h=>exact h
   | 4,h=>exact h
   | 5,h=>exact h
   | 6,h=>exact h
   | (kq+7),_=>exact trivial
  ·exact ⟨rfl,rfl,rfl,Nat.le_refl _,fun _ _=>rfl⟩
  ·intro mq sq w' iq oq hmq hiq hoq hJ hd Kq hK
   have hiq':iq=0∨iq=1∨iq=2∨iq=3∨iq=4∨iq=5∨iq=6:=by omega
   rcases hiq' with rfl|rfl|rfl|rfl|rfl|rfl|rfl
   ·cases (show some _=some oq from hoq)
    have hK':=hK
    simp only [updV,Nat.reduceEqDiff,↓reduceIte] at hK'
    clear hK hd
    generalize sq 0=x0,sq 1=x1,sq 2=x2,sq 3=x3,sq 4=x4,sq 5=x5,sq 6=x6 at *
    go_simp
    exact hK' _ _ (Below.refl _ _) hJ rfl
   ·cases (show some _=some oq from hoq)
    have hK':=hK
    simp only [updV,Nat.reduceEqDiff,↓reduceIte] at hK'
    clear hK hd
    generalize sq 0=x0,sq 1=x1,sq 2=x2,sq 3=x3,sq 4=x4,sq 5=x5,sq 6=x6 at *
    have hcc:=fun q=>(KR.out.next hJ).cell q
    go_simp
    exact hK' _ _ (Below.refl _ _) hJ rfl
   ·cases (show some _=some oq from hoq)
    have d1:=hd 1 (by kernel_rfl) (by decide)
    have hK':=hK
    simp only [updV,Nat.reduceEqDiff,↓reduceIte] at hK'
    clear hK hd
    generalize sq 0=x0,sq 1=x1,sq 2=x2,sq 3=x3,sq 4=x4,sq 5=x5,sq 6=x6 at *
    obtain rfl:=d1
    go_simp
    refine (l23List_any r si sh _ (HRW.out.below hJ)).mono ?_
    rintro e w2 ⟨B,c',rfl,ho,hb⟩
    exact hK' _ _ hb (below_next hJ hb) ⟨_,_,rfl,Ow.mono ho (Nat.zero_le _)⟩
   ·cases (show some _=some oq from hoq)
    have d0:=hd 0 (by kernel_rfl) (by decide)
    have d2:=hd 2 (by kernel_rfl) (by decide)
    have hK':=hK
    simp only [updV,Nat.reduceEqDiff,↓reduceIte] at hK'
    clear hK hd
    generalize sq 0=x0,sq 1=x1,sq 2=x2,sq 3=x3,sq 4=x4,sq 5=x5,sq 6=x6 at *
    obtain rfl:=d0
    obtain ⟨B,c',rfl,ho⟩:=d2
    go_simp
    refine (l4Tag_any key B (listW r).length c' (listW r) w' ho.rdI HLL.out).mono ?_
    rintro e w2 ⟨rfl,rfl⟩
    rw [HTG.out]
    exact hK' _ _ (Below.refl _ _) hJ rfl
   ·cases (show some _=some oq from hoq)
    have hK':=hK
    simp only [updV,Nat.reduceEqDiff,↓reduceIte] at hK'
    clear hK hd
    generalize sq 0=x0,sq 1=x1,sq 2=x2,sq 3=x3,sq 4=x4,sq 5=x5,sq 6=x6 at *
    go_simp
    exact hK' _ _ (Below.refl _ _) hJ rfl
   ·cases (show some _=some oq from hoq)
    have d4:=hd 4 (by kernel_rfl) (by decide)
    have hK':=hK
    simp only [updV,Nat.reduceEqDiff,↓reduceIte] at hK'
    clear hK hd
    generalize sq 0=x0,sq 1=x1,sq 2=x2,sq 3=x3,sq 4=x4,sq 5=x5,sq 6=x6 at *
    obtain rfl:=d4
    have hcc:=(KR.out.next hJ).cell 5
    go_simp
    exact hK' _ _ (Below.refl _ _) hJ rfl
   ·cases (show some _=some oq from hoq)
    have d3:=hd 3 (by kernel_rfl) (by decide)
    have d5:=hd 5 (by kernel_rfl) (by decide)
    have hK':=hK
    simp only [updV,Nat.reduceEqDiff,↓reduceIte] at hK'
    clear hK hd
    generalize sq 0=x0,sq 1=x1,sq 2=x2,sq 3=x3,sq 4=x4,sq 5=x5,sq 6=x6 at *
    obtain rfl:=d3
    obtain rfl:=d5
    go_simp
    exact hK' _ _ (Below.refl _ _) hJ rfl
  ·intro sq w' hJ hφ
   simp only [List.drop_succ_cons,List.drop_zero]
   have d6:=hφ 6 (by decide)
   clear hφ
   generalize sq 0=x0,sq 1=x1,sq 2=x2,sq 3=x3,sq 4=x4,sq 5=x5,sq 6=x6 at *
   obtain rfl:=d6
   replace HB:=Lib.hid (below_next HB.out hJ)
   replace KL:=Lib.hid (KL.out.next hJ)
   replace KR:=Lib.hid (KR.out.next hJ)
   clear hJ
   have HV:=Lib.hid (show verdW l key r=4 by unfold verdW;simp [H1.out,H2.out,H3.out,H4.out,HTG.out,H5.out])
   go_wp2_with fail
   go_ret
   exact ⟨ret_int (by rw [HV.out]),HB.out⟩
 have h5':(tg == r.tag)=true:=by simpa using h5
 have h5n:(tg != r.tag)=false:=by simpa using h5
 have H5:=Lib.hid h5
 clear h5
 go_upto_region 7 with (fail)
 refine wp_region_grow 7 (by kernel_rfl) (by kernel_rfl) (by kernel_rfl) (fun a b=>Below a.heap.size a b) (fun mq w'=>Below w2.heap.size w2 w') (fun iq v w'=>match iq with|0=>(v=.int .i64 key)|1=>(v=repV r si sh)|2=>(∃ B c',v=.slice B (listW r).length c'∧Ow 0 w' 3 1 B (listW r).length c' (cellsI (listW r)))|3=>(v=.int .i64 tg)|4=>(v=.pointer (some ⟨w.heap.size+1,5,none⟩))|5=>(v=.int .i64 r.tag)|6=>(v=.bool false)|_=>True) (fun sq=>{ tmps:=#[lvlV l ws gs,Value.int .i64 key,repV r si sh,Value.pointer (some (⟨w.heap.size,0,none⟩:Addr)),undef,Value.pointer (some (⟨w.heap.size+1,0,none⟩:Addr)),Value.int .i64 0,Value.bool false,Value.agg #[Value.int .i64 r.lv,Value.int .i64 r.pl,Value.int .i64 r.sc,Value.slice si.a si.n si.c,Value.slice sh.a sh.n sh.c,Value.int .i64 r.tag],Value.bool true,Value.bool false,Value.bool false,Value.agg #[Value.int .i64 l.id,Value.int .i64 l.ticks,Value.int .i64 l.sx,Value.int .i64 l.sy,Value.slice ws.a ws.n ws.c,Value.slice gs.a gs.n gs.c,Value.int .i64 l.f.1,Value.int .i64 l.f.2.1,Value.int .i64 l.f.2.2.1,Value.int .i64 l.f.2.2.2,Value.int .i64 l.bans],Value.bool true,Value.bool false,Value.bool false,Value.pointer (some (⟨w.heap.size,0,none⟩:Addr)),Value.int .i64 l.id,Value.pointer (some (⟨w.heap.size+1,0,none⟩:Addr)),Value.int .i64 r.lv,Value.bool false,Value.bool false,Value.bool false,Value.int .i64 key,Value.bool true,Value.bool false,undef,sq 0,sq 1,sq 2,sq 3,sq 4,sq 5,sq 6,undef,undef,undef,undef,undef,undef,undef,undef,undef],defers:=[] }) (fun _=>undef) ?_ ?_ ?_ ?_
 ·rintro iq v a b hg h
  match iq,h with
  | 0,h=>exact h
  | 1,h=>exact h
  | 2,h=>exact (by obtain ⟨B,c',rfl,ho⟩:=h;exact ⟨B,c',rfl,Ow.next ho hg⟩)
  | 3,h=>exact h
  | 4,h=>exact h
  | 5,h=>exact h
  | 6,h=>exact h
  | (kq+7),_=>exact trivial
 ·exact ⟨rfl,rfl,rfl,Nat.le_refl _,fun _ _=>rfl⟩
 ·intro mq sq w' iq oq hmq hiq hoq hJ hd Kq hK
  have hiq':iq=0∨iq=1∨iq=2∨iq=3∨iq=4∨iq=5∨iq=6:=by omega
  rcases hiq' with rfl|rfl|rfl|rfl|rfl|rfl|rfl
  ·cases (show some _=some oq from hoq)
   have hK':=hK
   simp only [updV,Nat.reduceEqDiff,↓reduceIte] at hK'
   clear hK hd
   generalize sq 0=x0,sq 1=x1,sq 2=x2,sq 3=x3,sq 4=x4,sq 5=x5,sq 6=x6 at *
   go_simp
   exact hK' _ _ (Below.refl _ _) hJ rfl
  ·cases (show some _=some oq from hoq)
   have hK':=hK
   simp only [updV,Nat.reduceEqDiff,↓reduceIte] at hK'
   clear hK hd
   generalize sq 0=x0,sq 1=x1,sq 2=x2,sq 3=x3,sq 4=x4,sq 5=x5,sq 6=x6 at *
   have hcc:=fun q=>(KR.out.next hJ).cell q
   go_simp
   exact hK' _ _ (Below.refl _ _) hJ rfl
  ·cases (show some _=some oq from hoq)
   have d1:=hd 1 (by kernel_rfl) (by decide)
   have hK':=hK
   simp only [updV,Nat.reduceEqDiff,↓reduceIte] at hK'
   clear hK hd
   generalize sq 0=x0,sq 1=x1,sq 2=x2,sq 3=x3,sq 4=x4,sq 5=x5,sq 6=x6 at *
   obtain rfl:=d1
   go_simp
   refine (l23List_any r si sh _ (HRW.out.below hJ)).mono ?_
   rintro e w2 ⟨B,c',rfl,ho,hb⟩
   exact hK' _ _ hb (below_next hJ hb) ⟨_,_,rfl,Ow.mono ho (Nat.zero_le _)⟩
  ·cases (show some _=some oq from hoq)
   have d0:=hd 0 (by kernel_rfl) (by decide)
   have d2:=hd 2 (by kernel_rfl) (by decide)
   have hK':=hK
   simp only [updV,Nat.reduceEqDiff,↓reduceIte] at hK'
   clear hK hd
   generalize sq 0=x0,sq 1=x1,sq 2=x2,sq 3=x3,sq 4=x4,sq 5=x5,sq 6=x6 at *
   obtain rfl:=d0
   obtain ⟨B,c',rfl,ho⟩:=d2
   go_simp
   refine (l4Tag_any key B (listW r).length c' (listW r) w' ho.rdI HLL.out).mono ?_
   rintro e w2 ⟨rfl,rfl⟩
   rw [HTG.out]
   exact hK' _ _ (Below.refl _ _) hJ rfl
  ·cases (show some _=some oq from hoq)
   have hK':=hK
   simp only [updV,Nat.reduceEqDiff,↓reduceIte] at hK'
   clear hK hd
   generalize sq 0=x0,sq 1=x1,sq 2=x2,sq 3=x3,sq 4=x4,sq 5=x5,sq 6=x6 at *
   go_simp
   exact hK' _ _ (Below.refl _ _) hJ rfl
  ·cases (show some _=some oq from hoq)
   have d4:=hd 4 (by kernel_rfl) (by decide)
   have hK':=hK
   simp only [updV,Nat.reduceEqDiff,↓reduceIte] at hK'
   clear hK hd
   generalize sq 0=x0,sq 1=x1,sq 2=x2,sq 3=x3,sq 4=x4,sq 5=x5,sq 6=x6 at *
   obtain rfl:=d4
   have hcc:=(KR.out.next hJ).cell 5
   go_simp
   exact hK' _ _ (Below.refl _ _) hJ rfl
  ·cases (show some _=some oq from hoq)
   have d3:=hd 3 (by kernel_rfl) (by decide)
   have d5:=hd 5 (by kernel_rfl) (by decide)
   have hK':=hK
   simp only [updV,Nat.reduceEqDiff,↓reduceIte] at hK'
   clear hK hd
   generalize sq 0=x0,sq 1=x1,sq 2=x2,sq 3=x3,sq 4=x4,sq 5=x5,sq 6=x6 at *
   obtain rfl:=d3
   obtain rfl:=d5
   go_simp
   exact hK' _ _ (Below.refl _ _) hJ rfl
 ·intro sq w' hJ hφ
  simp only [List.drop_succ_cons,List.drop_zero]
  have d6:=hφ 6 (by decide)
  clear hφ
  generalize sq 0=x0,sq 1=x1,sq 2=x2,sq 3=x3,sq 4=x4,sq 5=x5,sq 6=x6 at *
  obtain rfl:=d6
  replace HB:=Lib.hid (below_next HB.out hJ)
  replace KL:=Lib.hid (KL.out.next hJ)
  replace KR:=Lib.hid (KR.out.next hJ)
  clear hJ
  have cl:=fun o=>KL.out.cell o
  have fl:=fun o=>KL.out.frozen o
  have zl:=KL.out.lt
  have cr:=fun o=>KR.out.cell o
  have fr:=fun o=>KR.out.frozen o
  have zr:=KR.out.lt
  go_wp2_with fail
  refine (l12Legal_any l ws gs si.a si.n si.c r.ins _ (HR.out.1.below HB.out) hsi).mono ?_
  rintro e w5 ⟨rfl,hb⟩
  replace KL:=Lib.hid (KL.out.next hb)
  replace KR:=Lib.hid (KR.out.next hb)
  replace HB:=Lib.hid (below_next HB.out hb)
  clear hb cl fl zl cr fr zr
  obtain ⟨lg,hlg⟩:∃ t,legalW l r.ins=t:=⟨_,rfl⟩
  have HLG:=Lib.hid hlg
  rw [hlg]
  clear hlg
  by_cases h6:0≤lg
  ·have h6':decide (0≤lg)=true:=by simpa using h6
   have H6:=Lib.hid h6
   clear h6
   have HV:=Lib.hid (show verdW l key r=5 by unfold verdW;simp [H1.out,H2.out,H3.out,H4.out,HTG.out,H5.out,HLG.out,H6.out])
   go_wp2_with fail
   go_ret
   exact ⟨ret_int (by rw [HV.out]),HB.out⟩
  ·have h6':decide (0≤lg)=false:=by simpa using h6
   have H6:=Lib.hid h6
   clear h6
   have cl:=fun o=>KL.out.cell o
   have fl:=fun o=>KL.out.frozen o
   have zl:=KL.out.lt
   have cr:=fun o=>KR.out.cell o
   have fr:=fun o=>KR.out.frozen o
   have zr:=KR.out.lt
   go_wp2_with fail
   refine (l31Run_any l ws gs r si sh _ (HL.out.below HB.out) (HR.out.below HB.out) HF.out.2.2.2.2.2.1).mono ?_
   rintro e w6 ⟨rfl,hb⟩
   replace HB:=Lib.hid (below_next HB.out hb)
   clear hb cl fl zl cr fr zr
   have HV:=Lib.hid (show verdW l key r=runV l r by unfold verdW;simp [H1.out,H2.out,H3.out,H4.out,HTG.out,H5.out,HLG.out,show ¬ (0≤lg) from by have:=H6.out;omega])
   go_wp2_with fail
   go_ret
   exact ⟨ret_int (by rw [HV.out]),HB.out⟩
end Go.Proofs.YtkgfmgajhgfgjaaGreatDoor

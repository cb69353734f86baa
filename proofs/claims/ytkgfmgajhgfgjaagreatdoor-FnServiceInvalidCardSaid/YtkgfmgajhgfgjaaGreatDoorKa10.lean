/-
  Lemmas and contracts: Dh Eb Ec. No condition.
-/
import Derived.Deep.MidRow
import Derived.Laws.BytesArg
import Derived.Test.YtkgfmgajhgfgjaaGreatDoorKa7
import Derived.Test.YtkgfmgajhgfgjaaGreatDoorKa9
set_option linter.unusedSimpArgs false
set_option linter.unusedVariables false
set_option linter.unusedSectionVars false
namespace Go.Proofs.YtkgfmgajhgfgjaaGreatDoor
open Go.RowKit Go.Sort
def Dr (w0:World) (g q:Nat) (w:World):Prop:=Rdr w g q∧Only g w0 w
section
variable {w0 w w':World} {g q:Nat}
theorem Dr.next (h:Dr w0 g q w) (hb:Below w.heap.size w w'):Dr w0 g q w':=⟨h.1.next hb,h.2.next hb⟩
theorem Dr.step {q':Nat} (h:Dr w0 g q w) (hR:Rdr w' g q') (hO:Only g w w'):Dr w0 g q' w':=⟨hR,h.2.trans hO⟩
theorem Dr.set {a:Addr} (h:Dr w0 g q w) (ha:w0.heap.size≤a.block) (hg:g<w0.heap.size) (u:Value):Dr w0 g q (w.setCell a u):=⟨h.1.set_ (by omega) u,h.2.set_ (.inr ha) u⟩
theorem Dr.grown {row:Option Nat} (h:Dr w0 g q w) (hg:g<w0.heap.size) (k:w.grownBy w' row) (hr:∀ b,row=some b→w0.heap.size≤b):Dr w0 g q w' :=
 ⟨h.1.grown k (fun b hb=>Nat.lt_of_lt_of_le hg (hr b hb)),h.2.own_ k hr⟩
theorem Dr.mono {q':Nat} (h:Dr w0 g q w) (e:q=q'):Dr w0 g q' w:=e ▸ h
theorem Ow.onlyG {B T sz n c:Nat} {A:Option Addr} {vs:List Value} (h:Ow B w T sz A n c vs) (ho:Only g w w') (hg:g<B):Ow B w' T sz A n c vs :=
 h.only ho fun hA=>Nat.eq_zero_of_not_pos fun hc=>by have:=(h.lt hA hc).1;omega
theorem row_base {B T sz n c:Nat} {A:Option Addr} {vs:List Value} (h:Ow B w T sz A n c vs) (b:Nat) (hb:ownB A c=some b):B≤b:=by
 unfold ownB at hb
 split at hb
 ·cases hb
 ·exact (h.lt hb (by omega)).1
end
structure OwLv (B:Nat) (w:World) (l:Lvl) (ws gs:Sl):Prop where
 wl:Ow B w 27 4 ws.a ws.n ws.c (cellsB l.walls)
 gt:Ow B w 27 4 gs.a gs.n gs.c (cellsB l.gates)
 wn:ws.n≤1000
 gn:gs.n≤1000
 dj:∀ b,ownB ws.a ws.c=some b→ownB gs.a gs.c=some b→False
section
variable {B:Nat} {w w':World} {l:Lvl} {ws gs:Sl}
theorem OwLv.rd (h:OwLv B w l ws gs):RdL w l ws gs:=⟨Ow.rd encB_len (by decide) h.wl,Ow.rd encB_len (by decide) h.gt,⟨h.wl.le,by have:=h.wn;omega⟩,h.gt.le,by have:=h.gn;omega⟩
theorem OwLv.next (h:OwLv B w l ws gs) (hb:Below w.heap.size w w'):OwLv B w' l ws gs:=⟨Ow.next h.wl hb,Ow.next h.gt hb,h.wn,h.gn,h.dj⟩
theorem OwLv.mono {B':Nat} (h:OwLv B w l ws gs) (hb:B'≤B):OwLv B' w l ws gs:=⟨Ow.mono h.wl hb,Ow.mono h.gt hb,h.wn,h.gn,h.dj⟩
theorem OwLv.only {g:Nat} (h:OwLv B w l ws gs) (ho:Only g w w') (hg:g<B):OwLv B w' l ws gs:=⟨h.wl.onlyG ho hg,h.gt.onlyG ho hg,h.wn,h.gn,h.dj⟩
theorem OwLv.onlyT {o T':Nat} {cs:Array Value} (h:OwLv B w l ws gs) (k:Blk w o T' cs) (hne:27≠T') (ho:Only o w w'):OwLv B w' l ws gs:=⟨h.wl.onlyT k hne ho,h.gt.onlyT k hne ho,h.wn,h.gn,h.dj⟩
theorem OwLv.of {l':Lvl} (h:OwLv B w l ws gs) (h1:l'.walls=l.walls) (h2:l'.gates=l.gates):OwLv B w l' ws gs:=⟨h1 ▸ h.wl,h2 ▸ h.gt,h.wn,h.gn,h.dj⟩
theorem ownB_of {A:Option Addr} {c b:Nat} (h:ownB A c=some b):A.map (·.block)=some b∧0<c:=by
 unfold ownB at h
 split at h
 ·cases h
 ·exact ⟨h,by omega⟩
theorem ownB_to {A:Option Addr} {c b:Nat} (h:A.map (·.block)=some b) (hc:0<c):ownB A c=some b:=by
 unfold ownB
 rw [if_neg (by omega),h]
theorem OwLv.gate {A:Option Addr} {c n:Nat} {b:Bx} {l':Lvl} (h:OwLv B w l ws gs) (ho:Ow B w' 27 4 A n c (cellsB l.gates ++ cellsB [b])) (hg:w.grownBy w' (ownB gs.a gs.c))
  (hn:∀ x,A.map (·.block)=some x→0<c→ownB gs.a gs.c=some x∨x=w.heap.size) (hl:n≤1000) (h1:l'.walls=l.walls) (h2:l'.gates=l.gates ++ [b]):OwLv B w' l' ws ⟨A,n,c⟩:=by
 refine ⟨?_,?_,h.wn,hl,fun x hx hy=>?_⟩
 ·rw [h1]
  exact h.wl.keep fun x hx hc=>hg.block x (h.wl.lt hx hc).2 (fun e=>h.dj x (ownB_to hx hc) e.symm)
 ·rw [h2]
  show Ow _ _ _ _ _ _ _ (cellsX encB (l.gates ++ [b]))
  rw [cellsX_append]
  exact ho
 ·obtain ⟨hx1,hx2⟩:=ownB_of hx
  obtain ⟨hy1,hy2⟩:=ownB_of hy
  rcases hn x hy1 hy2 with e|e
  ·exact h.dj x hx e
  ·have:=(h.wl.lt hx1 hx2).2
   omega
theorem OwLv.wall {A:Option Addr} {c n:Nat} {b:Bx} {l':Lvl} (h:OwLv B w l ws gs) (ho:Ow B w' 27 4 A n c (cellsB l.walls ++ cellsB [b])) (hg:w.grownBy w' (ownB ws.a ws.c))
  (hn:∀ x,A.map (·.block)=some x→0<c→ownB ws.a ws.c=some x∨x=w.heap.size) (hl:n≤1000) (h1:l'.gates=l.gates) (h2:l'.walls=l.walls ++ [b]):OwLv B w' l' ⟨A,n,c⟩ gs:=by
 refine ⟨?_,?_,hl,h.gn,fun x hy hx=>?_⟩
 rotate_left
 ·rw [h1]
  exact h.gt.keep fun x hx hc=>hg.block x (h.gt.lt hx hc).2 (fun e=>h.dj x e.symm (ownB_to hx hc))
 rotate_left
 ·rw [h2]
  show Ow _ _ _ _ _ _ _ (cellsX encB (l.walls ++ [b]))
  rw [cellsX_append]
  exact ho
 ·obtain ⟨hx1,hx2⟩:=ownB_of hx
  obtain ⟨hy1,hy2⟩:=ownB_of hy
  rcases hn x hy1 hy2 with e|e
  ·exact h.dj x e hx
  ·have:=(h.gt.lt hx1 hx2).2
   omega
end
theorem thereLv {w:World} {b:Nat} {l0:Lvl} {w0 g0:Sl} (h:Blk w b 29 (lvlC l0 w0 g0)):w.there b 0 11:=fun j hj=>by
 rw [Nat.zero_add,h.cell,h.frozen]
 refine ⟨?_,rfl⟩
 have hj':j<(lvlC l0 w0 g0).size:=hj
 simp only [Array.getElem?_eq_getElem hj',Option.isSome_some]
theorem rangeLv {w:World} {b T:Nat} {cs:Array Value} (h:Blk w b T cs):w.rangeAt b 0 cs.toList:=fun j v hv=>by
 rw [Nat.zero_add,h.cell]
 simpa using hv
theorem oneLv (l:Lvl) (ws gs:Sl):(lvlC l ws gs).all (·.oneCell')=true:=by simp [Value.oneCell']
theorem blk_sets {b T:Nat}:∀ (vs:List Value) (o:Nat) (w:World) (cs:Array Value),Blk w b T cs→Blk (w.setCells b o vs) b T (setRun cs o vs)
 | [],_,_,_,h=>h
 | v :: vs,o,_,_,h=>blk_sets vs (o+1) _ _ (h.set_ o v)
theorem setWhole {w:World} {b T:Nat} {cs ds:Array Value} (h:Blk w b T cs) (hl:ds.size=cs.size):Blk (w.setCells b 0 ds.toList) b T ds:=by
 have h1:=blk_sets ds.toList 0 w cs h
 obtain ⟨h2,h3⟩:=setRun_take ds.toList cs 0 (by rw [Array.length_toList];omega)
 have e:setRun cs 0 ds.toList=ds:=by
  apply Array.ext'
  rw [List.take_of_length_le (by rw [Array.length_toList,Array.length_toList,h2];omega)] at h3
  simpa using h3
 rwa [e] at h1
theorem setLv {w:World} {b:Nat} {l0 l:Lvl} {w0 g0 ws gs:Sl} (h:Blk w b 29 (lvlC l0 w0 g0)):Blk (w.setCells b 0 (lvlC l ws gs).toList) b 29 (lvlC l ws gs) :=
 setWhole h rfl
theorem onlySets {g b:Nat} {w:World} (hb:b=g∨w.heap.size≤b):∀ (vs:List Value) (o:Nat) (w':World),Only g w w'→Only g w (w'.setCells b o vs)
 | [],_,_,h=>h
 | v :: vs,o,_,h=>onlySets hb vs (o+1) _ (h.set_ (p:=⟨b,o,none⟩) hb v)
theorem Dr.sets {w0:World} {g q b:Nat} (hg:g<w0.heap.size) (hb:w0.heap.size≤b):∀ (vs:List Value) (o:Nat) (w:World),Dr w0 g q w→Dr w0 g q (w.setCells b o vs)
 | [],_,_,h=>h
 | v :: vs,o,_,h=>Dr.sets hg hb vs (o+1) _ (h.set (a:=⟨b,o,none⟩) hb hg v)
def lv0:Lvl:=⟨0,0,0,0,[],[],(0,0,0,0),0⟩
def LvPost (g p K:Nat) (w:World) (e:Ending) (w':World):Prop :=
 ∃ (l:Lvl) (ws gs:Sl) (q:Nat),e=.returned (lvlV l ws gs)∧OwLv w.heap.size w' l ws gs∧q≤p+K∧Dr w g q w'
end Go.Proofs.YtkgfmgajhgfgjaaGreatDoor
namespace Go.Proofs.YtkgfmgajhgfgjaaGreatDoor
open Go.RowKit Go.Sort
def digB (d:Nat):ByteArray:=strOfNums [48+(d:Int)]
theorem digB_size (d:Nat):(digB d).size=1:=rfl
def decN (n:Nat):ByteArray:=if n<10 then digB n else decN (n / 10) ++ digB (n % 10)
termination_by n
decreasing_by omega
theorem decN_small {n:Nat} (h:n<10):decN n=digB n:=by rw [decN];simp [h]
theorem decN_big {n:Nat} (h:¬ n<10):decN n=decN (n / 10) ++ digB (n % 10):=by rw [decN];simp [h]
theorem decN_size (n:Nat):(decN n).size≤n+1:=by
 induction n using Nat.strongRecOn with
 | ind n ih =>
  by_cases h:n<10
  ·rw [decN_small h,digB_size];omega
  ·have:=ih (n / 10) (by omega)
   rw [decN_big h,ByteArray.size_append,digB_size]
   omega
theorem dig_conv (d g:Nat) (c:Nat) (w:World) (h:Blk w g 5 #[.int .u8 (48+(d:Int))]):(convert 22 9 (.slice (some ⟨g,0,none⟩) 1 c)).run Tryz.prog w=.ok (.string (digB d)) w :=
 run_convert_bytes_arg w _ _ Tryz.underlying22 Tryz.underlying5 g 0 1 c [48+(d:Int)] rfl (fun i hi=>by
  have:i=0:=by omega
  subst this
  exact h.cell 0) _ Tryz.underlying9
set_option maxRecDepth 100000 in
set_option maxHeartbeats 1000000 in
theorem l6Dec_small (n:Nat) (h:n<10) (w:World):Calls Tryz.prog 268 #[.int .i64 n] w fun e w'=>e=.returned (.string (decN n))∧Below w.heap.size w w':=by
 have HD:=Lib.hid (decN_small h)
 have h0:(n:Int)<10:=by omega
 have h1:¬ (n:Int)<0:=by omega
 have h2:¬ (n:Int) < -9223372036854775807:=by omega
 have hcv:=dig_conv n w.heap.size 1 (w.alloc (.cells #[.int .u8 (48+(n:Int))] 5)) (Blk.new _ _ _)
 go_enter Tryz.func268,Tryz.ntmps268
 go_wp2_with fail
 go_ret
 exact ⟨by rw [HD.out];rfl,ba (Below.refl _ _)⟩
set_option maxRecDepth 100000 in
set_option maxHeartbeats 2000000 in
theorem l6Dec_any (n:Nat):n≤1152921504606846976→∀ w:World,Calls Tryz.prog 268 #[.int .i64 n] w fun e w'=>e=.returned (.string (decN n))∧Below w.heap.size w w':=by
 induction n using Nat.strongRecOn with
 | ind n ih =>
  intro hb w
  by_cases h:n<10
  ·exact l6Dec_small n h w
  ·have HD:=Lib.hid (decN_big h)
   obtain ⟨q,hq⟩:∃ q,q=n / 10:=⟨_,rfl⟩
   obtain ⟨d,hd⟩:∃ d,d=n % 10:=⟨_,rfl⟩
   have IH:=Lib.hid (ih q (by omega) (by omega))
   have hsz:=decN_size q
   have hqi:(n:Int) / 10=q:=by omega
   have hdi:(n:Int) % 10=d:=by omega
   have hd10:d<10:=by omega
   have h0:¬ (n:Int)<10:=by omega
   have h1:¬ (n:Int)<0:=by omega
   have h2:¬ (n:Int) < -9223372036854775807:=by omega
   rw [← hq,← hd] at HD
   clear ih hq hd
   go_enter Tryz.func268,Tryz.ntmps268
   go_upto_region 7 with (fail)
   have hw1:IntKind.i64.wrap (q:Int)=q:=IntWalk.i64_in _ (by omega)
   have hw2:IntKind.i64.wrap (48+(d:Int))=48+(d:Int):=IntWalk.i64_in _ (by omega)
   have hw3:IntKind.u8.wrap (48+(d:Int))=48+(d:Int):=by rw [IntKind.wrap_u8];omega
   have hw4:(n:Int).tmod 10=d:=by rw [Int.tmod_eq_emod_of_nonneg (by omega)];exact hdi
   have hw5:¬ 9223372036854775807<(decN q).size+(digB d).size:=by rw [digB_size];omega
   have hw6:(n:Int).tdiv 10=q:=by rw [Int.tdiv_eq_ediv_of_nonneg (by omega)];exact hqi
   refine wp_region_grow 10 (by kernel_rfl) (by kernel_rfl) (by kernel_rfl) (fun a b=>Below a.heap.size a b) (fun mq w'=>Below w.heap.size w w') (fun iq v w'=>match iq with|0=>(v=.int .i64 n)|1=>(v=.int .i64 q)|2=>(v=.string (decN q))|3=>(v=.int .i64 n)|4=>(v=.int .i64 d)|5=>(v=.int .i64 (48+(d:Int)))|6=>(v=.int .u8 (48+(d:Int)))|7=>(∃ g,v=.slice (some ⟨g,0,none⟩) 1 1∧Blk w' g 5 #[.int .u8 (48+(d:Int))])|8=>(v=.string (digB d))|9=>(v=.string (decN q ++ digB d))|_=>True) (fun sq=>{ tmps:=#[Value.int .i64 (n:Int),undef,Value.string { data:=#[] },Value.int .i64 (n:Int),Value.bool false,Value.int .i64 (n:Int),Value.bool false,undef,undef,undef,undef,Value.int .i64 (n:Int),Value.bool false,undef,undef,undef,undef,undef,sq 0,sq 1,sq 2,sq 3,sq 4,sq 5,sq 6,sq 7,sq 8,sq 9],defers:=[] }) (fun _=>undef) ?_ ?_ ?_ ?_
   ·rintro iq v a b hg h
    match iq,h with
    | 0,h=>exact h
    | 1,h=>exact h
    | 2,h=>exact h
    | 3,h=>exact h
    | 4,h=>exact h
    | 5,h=>exact h
    | 6,h=>exact h
    | 7,h=>exact (by obtain ⟨g,rfl,hk⟩:=h;exact ⟨g,rfl,hk.next hg⟩)
    | 8,h=>exact h
    | 9,h=>exact h
    | (kq+10),_=>exact trivial
   ·exact ⟨rfl,rfl,rfl,Nat.le_refl _,fun _ _=>rfl⟩
   ·intro mq sq w' iq oq hmq hiq hoq hJ hd Kq hK
    have hiq':iq=0∨iq=1∨iq=2∨iq=3∨iq=4∨iq=5∨iq=6∨iq=7∨iq=8∨iq=9:=by omega
    rcases hiq' with rfl|rfl|rfl|rfl|rfl|rfl|rfl|rfl|rfl|rfl
    ·cases (show some _=some oq from hoq)
     have hK':=hK
     simp only [updV,Nat.reduceEqDiff,↓reduceIte] at hK'
     clear hK hd
     generalize sq 0=x0,sq 1=x1,sq 2=x2,sq 3=x3,sq 4=x4,sq 5=x5,sq 6=x6,sq 7=x7,sq 8=x8,sq 9=x9 at *
     go_simp
     exact hK' _ _ (Below.refl _ _) hJ rfl
    ·cases (show some _=some oq from hoq)
     have d0:=hd 0 (by kernel_rfl) (by decide)
     have hK':=hK
     simp only [updV,Nat.reduceEqDiff,↓reduceIte] at hK'
     clear hK hd
     generalize sq 0=x0,sq 1=x1,sq 2=x2,sq 3=x3,sq 4=x4,sq 5=x5,sq 6=x6,sq 7=x7,sq 8=x8,sq 9=x9 at *
     obtain rfl:=d0
     go_simp
     exact hK' _ _ (Below.refl _ _) hJ rfl
    ·cases (show some _=some oq from hoq)
     have d1:=hd 1 (by kernel_rfl) (by decide)
     have hK':=hK
     simp only [updV,Nat.reduceEqDiff,↓reduceIte] at hK'
     clear hK hd
     generalize sq 0=x0,sq 1=x1,sq 2=x2,sq 3=x3,sq 4=x4,sq 5=x5,sq 6=x6,sq 7=x7,sq 8=x8,sq 9=x9 at *
     obtain rfl:=d1
     go_simp
     refine (IH.out w').mono ?_
     rintro e w2 ⟨rfl,hb⟩
     exact hK' _ _ hb (below_next hJ hb) rfl
    ·cases (show some _=some oq from hoq)
     have hK':=hK
     simp only [updV,Nat.reduceEqDiff,↓reduceIte] at hK'
     clear hK hd
     generalize sq 0=x0,sq 1=x1,sq 2=x2,sq 3=x3,sq 4=x4,sq 5=x5,sq 6=x6,sq 7=x7,sq 8=x8,sq 9=x9 at *
     go_simp
     exact hK' _ _ (Below.refl _ _) hJ rfl
    ·cases (show some _=some oq from hoq)
     have d3:=hd 3 (by kernel_rfl) (by decide)
     have hK':=hK
     simp only [updV,Nat.reduceEqDiff,↓reduceIte] at hK'
     clear hK hd
     generalize sq 0=x0,sq 1=x1,sq 2=x2,sq 3=x3,sq 4=x4,sq 5=x5,sq 6=x6,sq 7=x7,sq 8=x8,sq 9=x9 at *
     obtain rfl:=d3
     go_simp
     exact hK' _ _ (Below.refl _ _) hJ rfl
    ·cases (show some _=some oq from hoq)
     have d4:=hd 4 (by kernel_rfl) (by decide)
     have hK':=hK
     simp only [updV,Nat.reduceEqDiff,↓reduceIte] at hK'
     clear hK hd
     generalize sq 0=x0,sq 1=x1,sq 2=x2,sq 3=x3,sq 4=x4,sq 5=x5,sq 6=x6,sq 7=x7,sq 8=x8,sq 9=x9 at *
     obtain rfl:=d4
     go_simp
     exact hK' _ _ (Below.refl _ _) hJ rfl
    ·cases (show some _=some oq from hoq)
     have d5:=hd 5 (by kernel_rfl) (by decide)
     have hK':=hK
     simp only [updV,Nat.reduceEqDiff,↓reduceIte] at hK'
     clear hK hd
     generalize sq 0=x0,sq 1=x1,sq 2=x2,sq 3=x3,sq 4=x4,sq 5=x5,sq 6=x6,sq 7=x7,sq 8=x8,sq 9=x9 at *
     obtain rfl:=d5
     go_simp
     exact hK' _ _ (Below.refl _ _) hJ rfl
    ·cases (show some _=some oq from hoq)
     have d6:=hd 6 (by kernel_rfl) (by decide)
     have hK':=hK
     simp only [updV,Nat.reduceEqDiff,↓reduceIte] at hK'
     clear hK hd
     generalize sq 0=x0,sq 1=x1,sq 2=x2,sq 3=x3,sq 4=x4,sq 5=x5,sq 6=x6,sq 7=x7,sq 8=x8,sq 9=x9 at *
     obtain rfl:=d6
     go_simp
     exact hK' _ _ (ba (Below.refl _ _)) (hJ.alloc hJ.size _) ⟨_,rfl,Blk.new _ _ _⟩
    ·cases (show some _=some oq from hoq)
     have d7:=hd 7 (by kernel_rfl) (by decide)
     have hK':=hK
     simp only [updV,Nat.reduceEqDiff,↓reduceIte] at hK'
     clear hK hd
     generalize sq 0=x0,sq 1=x1,sq 2=x2,sq 3=x3,sq 4=x4,sq 5=x5,sq 6=x6,sq 7=x7,sq 8=x8,sq 9=x9 at *
     obtain ⟨g,rfl,hg⟩:=d7
     have hcv:=dig_conv d g 1 w' hg
     go_simp
     exact hK' _ _ (Below.refl _ _) hJ rfl
    ·cases (show some _=some oq from hoq)
     have d2:=hd 2 (by kernel_rfl) (by decide)
     have d8:=hd 8 (by kernel_rfl) (by decide)
     have hK':=hK
     simp only [updV,Nat.reduceEqDiff,↓reduceIte] at hK'
     clear hK hd
     generalize sq 0=x0,sq 1=x1,sq 2=x2,sq 3=x3,sq 4=x4,sq 5=x5,sq 6=x6,sq 7=x7,sq 8=x8,sq 9=x9 at *
     obtain rfl:=d2
     obtain rfl:=d8
     go_simp
     exact hK' _ _ (Below.refl _ _) hJ rfl
   ·intro sq w' hJ hφ
    simp only [List.drop_succ_cons,List.drop_zero]
    have d9:=hφ 9 (by decide)
    clear hφ
    generalize sq 0=x0,sq 1=x1,sq 2=x2,sq 3=x3,sq 4=x4,sq 5=x5,sq 6=x6,sq 7=x7,sq 8=x8,sq 9=x9 at *
    obtain rfl:=d9
    have HJ:=Lib.hid hJ
    clear hJ
    go_wp2_with fail
    go_ret
    exact ⟨by rw [HD.out];rfl,HJ.out⟩
theorem decN_len:∀ (k n:Nat),n<10 ^ (k+1)→(decN n).size≤k+1:=by
 intro k
 induction k with
 | zero =>
  intro n h
  rw [decN_small (by simpa using h),digB_size]
  exact Nat.le_refl _
 | succ k ih =>
  intro n h
  by_cases hn:n<10
  ·rw [decN_small hn,digB_size];omega
  ·have:=ih (n / 10) (by rw [Nat.pow_succ] at h;omega)
   rw [decN_big hn,ByteArray.size_append,digB_size]
   omega
def numsW (zs:List Int):ByteArray:=zs.foldl (fun a z=>a ++ (⟨#[32]⟩:ByteArray) ++ decN z.toNat) ByteArray.empty
theorem numsW_size {zs:List Int} (h:∀ z ∈ zs,0≤z∧z≤9999999):(numsW zs).size≤8 * zs.length:=by
 unfold numsW
 have:∀ (ys:List Int) (a:ByteArray),(∀ z ∈ ys,0≤z∧z≤9999999)→(ys.foldl (fun a z=>a ++ (⟨#[32]⟩:ByteArray) ++ decN z.toNat) a).size≤a.size+8 * ys.length:=by
  intro ys
  induction ys with
  | nil=>intro a _;simp
  | cons y r ih =>
   intro a h
   have h1:=ih (a ++ (⟨#[32]⟩:ByteArray) ++ decN y.toNat) (fun z hz=>h z (List.mem_cons_of_mem _ hz))
   have h2:=h y (List.mem_cons_self ..)
   have h3:=decN_len 6 y.toNat (by omega)
   simp only [List.foldl_cons,List.length_cons]
   simp only [ByteArray.size_append] at h1
   have h4:(⟨#[32]⟩:ByteArray).size=1:=rfl
   omega
 have:=this zs ByteArray.empty h
 simpa using this
theorem numsW_succ {zs:List Int} {k:Nat} {z:Int} (h:zs[k]?=some z):numsW (zs.take k) ++ (⟨#[32]⟩:ByteArray) ++ decN z.toNat=numsW (zs.take (k+1)):=by
 unfold numsW
 rw [List.take_add_one,h]
 simp
set_option maxRecDepth 100000 in
set_option maxHeartbeats 2000000 in
theorem l23Numbers_any (A:Option Addr) (n c:Nat) (zs:List Int) (w:World) (hr:RdI .i64 w A n zs) (hn:n≤1048576) (hz:∀ z ∈ zs,0≤z∧z≤9999999) :
  Calls Tryz.prog 225 #[.slice A n c] w fun e w'=>e=.returned (.string (numsW zs))∧Below w.heap.size w w':=by
 have HR:=Lib.hid hr
 have HZ:=Lib.hid hz
 clear hr hz
 go_enter Tryz.func225,Tryz.ntmps225
 go_wp2_with fail
 go_loopw [3,4] (fun out i wr=>∃ (k:Nat) (a:ByteArray),k≤n∧i=.int .i64 k∧out=.string a∧a.size≤8 * k∧Hid (a=numsW (zs.take k)∧Below w.heap.size w wr)) (fun _ i _=>n - (intOf i).toNat)
 case atStart=>exact ⟨0,_,Nat.zero_le _,rfl,rfl,Nat.zero_le _,rfl,Below.refl _ _⟩
 case round =>
  obtain ⟨k,a,hk,rfl,rfl,hsz,HQ⟩:=hrel
  obtain ⟨HA,HB⟩:=HQ.out
  replace HA:=Lib.hid HA
  replace HB:=Lib.hid HB
  clear HQ
  by_cases hlt:k<n
  ·obtain ⟨b,off,z,hA,hb,hzk,hc⟩:=(HR.out.below HB.out).at_ hlt
   subst hA
   have hbd:=HZ.out z (List.mem_of_getElem? hzk)
   obtain ⟨m,rfl⟩:=Int.eq_ofNat_of_zero_le hbd.1
   have HS:=Lib.hid (numsW_succ hzk)
   have h3:=decN_len 6 m (by omega)
   have h4:(⟨#[32]⟩:ByteArray).size=1:=rfl
   clear hzk
   go_wp2_with fail
   refine (l6Dec_any m (by omega) _).mono ?_
   rintro e w1 ⟨rfl,hb1⟩
   replace HB:=Lib.hid (below_next HB.out hb1)
   clear hb1 hc
   go_wp2_with fail
   exact ⟨⟨k+1,_,by omega,by go_num,rfl,by simp only [ByteArray.size_append];omega,by rw [← HS.out,HA.out];rfl,HB.out⟩,by simp [intOf];omega⟩
  ·have hkn:k=n:=by omega
   subst hkn
   have HTK:=Lib.hid (show zs.take k=zs from List.take_of_length_le (by rw [HR.out.len];exact Nat.le_refl _))
   go_wp2_with fail
   go_ret
   exact ⟨by rw [HA.out,HTK.out];rfl,HB.out⟩
end Go.Proofs.YtkgfmgajhgfgjaaGreatDoor
namespace Go.Proofs.YtkgfmgajhgfgjaaGreatDoor
open Go.RowKit Go.Sort
theorem infoP:(Tryz.prog.info? 123).map (fun i=>(i.zero,i.size,i.bytes))=some (some (.agg #[.int .i64 0,.int .i64 0]),2,16):=by kernel_rfl
def partStep (ps:List Ent) (c:Int):List Ent :=
 match ps[ps.length - 1]? with
 | some e=>if e.1=c then ps.set (ps.length - 1) (e.1,wrap64 (e.2+1)) else ps ++ [(c,1)]
 | none=>ps ++ [(c,1)]
def partsW (xs:List Inp):List Ent:=xs.foldl (fun ps x=>partStep ps (codeW x)) []
theorem partsW_succ {xs:List Inp} {k:Nat} {x:Inp} (h:xs[k]?=some x):partsW (xs.take (k+1))=partStep (partsW (xs.take k)) (codeW x):=by
 unfold partsW
 rw [List.take_add_one,h]
 simp
set_option maxRecDepth 100000 in
set_option maxHeartbeats 4000000 in
theorem l23Parts_any (A:Option Addr) (n c:Nat) (xs:List Inp) (w:World) (hr:RdN w A n xs) (hn:n≤1048576) :
  Calls Tryz.prog 224 #[.slice A n c] w fun e w'=>∃ A' m c',e=.returned (.slice A' m c')∧Ow w.heap.size w' 123 2 A' m c' (cellsE (partsW xs))∧m≤n∧Below w.heap.size w w':=by
 obtain ⟨i0,hi0,hy0,hy1,hy2⟩:=info_parts infoP
 have HI:=Lib.hid hi0
 have HZ:=Lib.hid hy0
 have HS:=Lib.hid hy1
 have HBY:=Lib.hid hy2
 clear hi0 hy0 hy1 hy2
 have HR:=Lib.hid hr
 clear hr
 go_enter Tryz.func224,Tryz.ntmps224
 go_wp2_with fail
 go_loopw [3,4] (fun out i wr=>∃ (k m:Nat) (A':Option Addr) (c':Nat) (ps:List Ent),k≤n∧m≤k∧i=.int .i64 k∧out=.slice A' m c'∧Hid (ps=partsW (xs.take k)∧Below w.heap.size w wr∧Ow w.heap.size wr 123 2 A' m c' (cellsE ps)∧ps.length=m)) (fun _ i _=>n - (intOf i).toNat)
 case atStart=>exact ⟨0,0,_,0,[],Nat.zero_le _,Nat.zero_le _,rfl,rfl,rfl,ba (Below.refl _ _),Ow.bare _ _ _ _ _,rfl⟩
 case round =>
  obtain ⟨k,m,A',c',ps,hk,hm,rfl,rfl,HQ⟩:=hrel
  obtain ⟨HPS,HB,HOW,HPL⟩:=HQ.out
  replace HPS:=Lib.hid HPS
  replace HB:=Lib.hid HB
  replace HOW:=Lib.hid HOW
  replace HPL:=Lib.hid HPL
  clear HQ
  by_cases hlt:k<n
  ·obtain ⟨b,off,x,hA,hb,hx,h0,h1,h2⟩:=RdN.cells (HR.out.below HB.out) hlt
   subst hA
   have HSC:=Lib.hid (show partsW (xs.take (k+1))=partStep ps (codeW x) by rw [partsW_succ hx,← HPS.out])
   clear hx
   go_wp2_with fail
   refine (l12Code_any x _).mono ?_
   rintro e w1 ⟨rfl,hb1⟩
   replace HOW:=Lib.hid (Ow.next HOW.out hb1)
   replace HB:=Lib.hid (below_next HB.out hb1)
   clear hb1 h0 h1 h2
   obtain ⟨cd,hcd⟩:∃ z,codeW x=z:=⟨_,rfl⟩
   rw [hcd] at HSC ⊢
   clear hcd
   have hzs:=HB.out.size
   rcases Nat.eq_zero_or_pos m with hm0|hm0
   ·have HST:=Lib.hid (show partStep ps cd=ps ++ [(cd,1)] by
     have:ps=[]:=List.eq_nil_of_length_eq_zero (by rw [HPL.out];exact hm0)
     subst this
     rfl)
    subst hm0
    go_wp2_with (at_builtin;refine wpList_append_ow _ rfl (.tmp 43) (.tmp 46) _ rfl w.heap.size 123 i0 _ 2 16 Tryz.underlying120 HI.out HZ.out HS.out HBY.out rfl (by omega) _ (0) c' _ rfl (HOW.out.alloc _) _ 1 1 (cellsE [(cd,1)]) rfl (Src.blk (Blk.new _ _ _) rfl) (cellsE_one _) (by unfold maxLen;omega) (by omega) (by simp;omega) ?_;intro A2 c2 w5 hown5 hg5 _;have HO5:=Lib.hid hown5;have HG5:=Lib.hid hg5;clear hown5 hg5)
    have hrow:=HOW.out.alloc (.cells #[.int .i64 cd,.int .i64 1] 123)
    refine ⟨⟨k+1,0+1,A2,c2,ps ++ [(cd,1)],by omega,by omega,by go_num,rfl,by rw [HSC.out,HST.out],hrow.grown HG5.out (HB.out.alloc HB.out.size _) (Nat.le_refl _) (by simp;omega),?_,by simp [HPL.out]⟩,by simp [intOf];omega⟩
    rw [cellsE_append]
    exact HO5.out
   ·obtain ⟨j,rfl⟩:∃ j,m=j+1:=⟨m - 1,by omega⟩
    obtain ⟨g,off2,e,hA2,hg,he,hc1,hc2⟩:=HOW.out.rdE.at_ (k:=j) (by omega)
    have hst:partStep ps cd=if e.1=cd then ps.set j (e.1,wrap64 (e.2+1)) else ps ++ [(cd,1)]:=by
     unfold partStep
     rw [HPL.out,Nat.add_sub_cancel,he]
    have HST:=Lib.hid hst
    have hjn:j+1≤1048576:=by omega
    have hA3:A'=some ⟨g,0,none⟩∧off2=0:=by
     obtain ⟨g2,cur,hg2,_⟩:=HOW.out.blk (Nat.lt_of_lt_of_le hm0 HOW.out.le)
     rw [hA2] at hg2
     injection hg2 with hg2
     injection hg2 with h1 h2
     subst h1 h2
     exact ⟨hA2,rfl⟩
    obtain ⟨rfl,rfl⟩:=hA3
    clear hst
    by_cases heq:e.1=cd
    ·obtain ⟨e1,e2⟩:=e
     simp only at heq hc1 hc2
     subst heq
     have HS2:=Lib.hid (show partStep ps e1=ps.set j (e1,wrap64 (e2+1)) by rw [HST.out];simp)
     obtain ⟨g2,cur,hg2,hBg,hbg,_⟩:=HOW.out.blk (Nat.lt_of_lt_of_le hm0 HOW.out.le)
     injection hg2 with hg2
     injection hg2 with hg2
     subst hg2
     have hfz:=hbg.frozen (j * 2+1)
     have HE:=Lib.hid he
     rw [Nat.zero_add] at hc1 hc2
     have hsome:(w1.cell? ⟨g,j * 2+1,none⟩)=some (.int .i64 e2):=hc2
     clear hA2 he hbg
     go_wp2_with fail
     refine ⟨⟨k+1,j+1,_,c',ps.set j (e1,wrap64 (e2+1)),by omega,by omega,by go_num,rfl,by rw [HSC.out,HS2.out],HB.out.setCell (p:=⟨g,j * 2+1,none⟩) hBg _,?_,by simp [HPL.out]⟩,by simp [intOf];omega⟩
     rw [← cellsE_set ps j (e1,e2) _ HE.out]
     exact Ow.set_ HOW.out (by rw [cellsE_length,HPL.out];omega) _
    ·have heq':(e.1 == cd)=false:=by simpa using heq
     replace HST:=Lib.hid (show partStep ps cd=ps ++ [(cd,1)] by rw [HST.out,if_neg heq])
     rw [Nat.zero_add] at hc1 hc2
     clear heq he hA2
     go_wp2_with (at_builtin;refine wpList_append_ow _ rfl (.tmp 43) (.tmp 46) _ rfl w.heap.size 123 i0 _ 2 16 Tryz.underlying120 HI.out HZ.out HS.out HBY.out rfl (by omega) _ (j+1) c' _ rfl (HOW.out.alloc _) _ 1 1 (cellsE [(cd,1)]) rfl (Src.blk (Blk.new _ _ _) rfl) (cellsE_one _) (by unfold maxLen;omega) (by omega) (by simp;omega) ?_;intro A2 c2 w5 hown5 hg5 _;have HO5:=Lib.hid hown5;have HG5:=Lib.hid hg5;clear hown5 hg5)
     have hrow:=HOW.out.alloc (.cells #[.int .i64 cd,.int .i64 1] 123)
     refine ⟨⟨k+1,j+1+1,A2,c2,ps ++ [(cd,1)],by omega,by omega,by go_num,rfl,by rw [HSC.out,HST.out],hrow.grown HG5.out (HB.out.alloc HB.out.size _) (Nat.le_refl _) (by simp;omega),?_,by simp [HPL.out]⟩,by simp [intOf];omega⟩
     rw [cellsE_append]
     exact HO5.out
  ·have hkn:k=n:=by omega
   subst hkn
   have HTK:=Lib.hid (show ps=partsW xs by rw [HPS.out,List.take_of_length_le (by rw [HR.out.len];exact Nat.le_refl _)])
   go_wp2
   go_ret
   exact ⟨A',m,c',rfl,by rw [← HTK.out];exact HOW.out,hm,HB.out⟩
end Go.Proofs.YtkgfmgajhgfgjaaGreatDoor

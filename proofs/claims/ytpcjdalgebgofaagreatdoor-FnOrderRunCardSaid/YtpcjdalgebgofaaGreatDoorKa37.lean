/-
  Lemmas and contracts: YWq YWs. No condition.
-/
import Derived.Deep.CutBlock
import Derived.Test.YtpcjdalgebgofaaGreatDoorKa27
import Derived.Test.YtpcjdalgebgofaaGreatDoorKa29
set_option linter.unusedSimpArgs false
set_option linter.unusedVariables false
set_option linter.unusedSectionVars false
namespace Go.Proofs.YtpcjdalgebgofaaGreatDoorY
open Go.RowKit Go.Sort
theorem verdW_bd (l:Lvl) (key:Int) (r:Rep):0≤verdW l key r∧verdW l key r≤9:=by
 unfold verdW runV
 simp only
 repeat' split
 all_goals omega
theorem eql_nil (v:Value) (w:World):(binOp .eql 61 (.iface 216 v) .nilIface).run Qy.prog w=.ok (.bool false) w:=by
 have h:∀ d:Nat,(Op.equalIn (d+1) 61 (.iface 216 v) .nilIface).run Qy.prog w=.ok false w:=fun d=>by simp [Op.equalIn,run_underlying (Qy.un Tryz.underlying61)]
 simp only [binOp]
 simp [Op.equal,Op.maxDepth,h 9999]
set_option maxRecDepth 100000 in
set_option maxHeartbeats 4000000 in
theorem verifyReplay_any (E:Nat→Addr) (l:Lvl) (ws gs:Sl) (key:Int) (r:Rep) (si sh:Sl) (w:World) (hE:Errs E w) (hl:RdL w l ws gs) (hr:RdR w r si sh) :
  Calls Qy.prog 10 #[lvlV l ws gs,.int .i64 key,repV r si sh] w fun e w'=>e=.returned (.int .i64 (verdW l key r))∧Below w.heap.size w w':=by
 have HEE:=Lib.hid hE
 have HL:=Lib.hid hl
 have HR:=Lib.hid hr
 clear hl hr hE
 go_enter Qy.func10,Tryz.ntmps10
 go_wp2_with fail
 refine (refusal_any E l ws gs key r si sh _ (HEE.out.next (ba (ba (Below.refl _ _)))) (HL.out.below (ba (ba (Below.refl _ _)))) (HR.out.below (ba (ba (Below.refl _ _))))).mono ?_
 rintro e w1 ⟨rfl,hb⟩
 have HB:=Lib.hid (ba (ba hb))
 clear hb
 obtain ⟨v0,v9⟩:=verdW_bd l key r
 obtain ⟨v,hv⟩:∃ v,verdW l key r=v:=⟨_,rfl⟩
 rw [hv] at v0 v9 ⊢
 have HV:=Lib.hid hv
 clear hv
 by_cases h0:v=0
 ·subst h0
  rw [show errOf E 0=.nilIface from rfl]
  go_wp2_with fail
  go_ret
  exact ⟨ret_int HV.out.symm,HB.out⟩
 obtain ⟨k,rfl,hk9⟩:∃ k:Nat,v=(k:Int)+1∧k<9:=⟨(v - 1).toNat,by omega,by omega⟩
 rw [show errOf E ((k:Int)+1)=errV E k by unfold errOf;rw [if_neg (by omega),show (((k:Int)+1) - 1).toNat=k by omega]]
 have hnil:=eql_nil
 have e0:=(HEE.out.next HB.out).cell 0 (by decide)
 have e1:=(HEE.out.next HB.out).cell 1 (by decide)
 have e2:=(HEE.out.next HB.out).cell 2 (by decide)
 have e3:=(HEE.out.next HB.out).cell 3 (by decide)
 have e4:=(HEE.out.next HB.out).cell 4 (by decide)
 have e5:=(HEE.out.next HB.out).cell 5 (by decide)
 have e6:=(HEE.out.next HB.out).cell 6 (by decide)
 have e7:=(HEE.out.next HB.out).cell 7 (by decide)
 clear v0 v9 h0
 go_upto_block 0 with (fail)
 refine into_world (fun Y=>Below w.heap.size w Y∧Blk Y w1.heap.size 61 #[errV E 0,errV E 1,errV E 2,errV E 3,errV E 4,errV E 5,errV E 6,errV E 7]) ⟨HB.out.alloc HB.out.size _,Blk.new _ _ _⟩ ?_
 have hz1:=HB.out.size
 clear HB e0 e1 e2 e3 e4 e5 e6 e7
 rintro Y ⟨HB,KB⟩
 replace HB:=Lib.hid HB
 replace KB:=Lib.hid KB
 go_wp2_with fail
 go_loopw [26] (fun i wr=>∃ j:Nat,j≤8∧j≤k∧i=.int .i64 j∧Hid (Below w.heap.size w wr∧Blk wr w1.heap.size 61 #[errV E 0,errV E 1,errV E 2,errV E 3,errV E 4,errV E 5,errV E 6,errV E 7])) (fun i _=>8 - (intOf i).toNat)
 case atStart=>exact ⟨0,by omega,by omega,rfl,HB.out,KB.out⟩
 case round =>
  clear HB KB
  obtain ⟨j,hj,hjk,rfl,HH⟩:=hrel
  obtain ⟨HB,KB⟩:=HH.out
  replace HB:=Lib.hid HB
  replace KB:=Lib.hid KB
  clear HH
  by_cases hlt:j<8
  ·have hcj:wr.cell? ⟨w1.heap.size,j,none⟩=some (errV E j):=by
    rw [KB.out.cell]
    have:j=0∨j=1∨j=2∨j=3∨j=4∨j=5∨j=6∨j=7:=by omega
    rcases this with rfl|rfl|rfl|rfl|rfl|rfl|rfl|rfl <;> rfl
   have HEw:=Lib.hid (HEE.out.next HB.out)
   obtain ⟨ca,ta,hca⟩:=HEw.out.row k hk9
   obtain ⟨cb,tb,hcb⟩:=HEw.out.row j (by omega)
   have HI:=Lib.hid (errorsIs_any (E k) (E j) ca cb ta tb wr hca hcb)
   clear hca hcb
   go_wp2_with fail
   refine HI.out.mono ?_
   rintro e w' ⟨rfl,rfl⟩
   by_cases hjk2:k=j
   ·subst hjk2
    rw [decide_eq_true (rfl:E k=E k)]
    go_wp2_with fail
    go_ret
    exact ⟨ret_int (by rw [HV.out];omega),HB.out⟩
   ·rw [decide_eq_false (HEw.out.ne k j hk9 (by omega) hjk2)]
    go_wp2_with fail
    exact ⟨⟨j+1,by omega,by omega,by go_num,HB.out,KB.out⟩,by simp [intOf];omega⟩
  ·have hk8:k=8:=by omega
   subst hk8
   go_wp2_with fail
   go_ret
   exact ⟨ret_int (by rw [HV.out];omega),HB.out⟩
end Go.Proofs.YtpcjdalgebgofaaGreatDoorY
namespace Go.Proofs.YtpcjdalgebgofaaGreatDoorY
open Go.RowKit Go.Sort
structure Fine (l:Lvl) (key:Int) (r:Rep):Prop where
 rep:repOk r=true
 lvl:levelOk l=true
 id:l.id=r.lv
 ky:inR key 1 9999=true
 tag:tagW key (listW r)=r.tag
 legal:legalW l r.ins<0
 ov:(runW l r.ins r.ins.length).ov=false
 hashes:hashesW l r.ins=r.hs
 dn:(runW l r.ins r.ins.length).dn=true
 tick:(runW l r.ins r.ins.length).tick=(r.ins.length:Int)
 sc:(r.ins.length:Int)=r.sc
theorem fine_of {l:Lvl} {key:Int} {r:Rep} {V:Int} (h:Verd l key r V) (h0:V=0):Fine l key r:=by
 cases h with
 | text=>omega
 | level=>omega
 | key=>omega
 | tag=>omega
 | input=>omega
 | run h1 h2 h3 h4 h5 h6 =>
  unfold runV at h0
  simp only at h0
  split at h0
  ·omega
  ·rename_i a1
   split at h0
   ·omega
   ·rename_i a2
    split at h0
    ·omega
    ·rename_i a3
     split at h0
     ·omega
     ·rename_i a4
      have b1:(runW l r.ins r.ins.length).dn=true:=by
       cases hd:(runW l r.ins r.ins.length).dn
       ·exact absurd (.inl hd) a3
       ·rfl
      have b2:(runW l r.ins r.ins.length).tick=(r.ins.length:Int):=Classical.byContradiction fun e=>a3 (.inr e)
      have b3:(runW l r.ins r.ins.length).tick=r.sc:=Classical.byContradiction fun e=>a4 e
      exact ⟨h1,h2,h3,h4,h5,h6,by simpa using a1,divW_same (by omega),b1,b2,by rw [← b2];exact b3⟩
theorem Fine.ok {l:Lvl} {key:Int} {r:Rep} (h:Fine l key r):okW l r.ins=true:=by
 unfold okW
 rw [h.lvl,decide_eq_true h.legal]
 rfl
theorem divW_self (a:List Int):divW a a<0:=by
 have key:∀ (f i:Nat),i+f≤a.length→divGo a a f i<0:=by
  intro f
  induction f with
  | zero=>intro i _;simp [divGo]
  | succ f ih =>
   intro i h
   rw [divGo]
   have:differW a a i=false:=by simp [differW];omega
   rw [this,if_neg (by simp)]
   exact ih (i+1) (by omega)
 unfold divW
 exact key _ 0 (by omega)
theorem Fine.noTick {l:Lvl} {key:Int} {r:Rep} (h:Fine l key r):tickW l r = -1:=by
 have hl:=h.legal
 unfold tickW repW
 rw [h.rep,h.lvl,h.ok,h.hashes,if_neg (by simp),if_neg (by simp [h.id]),if_neg (by omega),decide_eq_false (by have:=divW_self r.hs;omega)]
 rfl
theorem runV_vals (l:Lvl) (r:Rep):runV l r=0∨runV l r=6∨runV l r=7∨runV l r=8∨runV l r=9:=by
 unfold runV
 simp only
 repeat' split
 all_goals omega
theorem verd_vals {l:Lvl} {key:Int} {r:Rep} {V:Int} (h:Verd l key r V):0≤V∧V≤9:=by
 cases h with
 | run=>have:=runV_vals l r;omega
 | _=>omega
theorem repOk_sc {r:Rep} (h:repOk r=true) {s:Int} (h0:0≤s) (h1:s≤60):repOk { r with sc:=s }=true:=by
 simp only [repOk,Bool.and_eq_true] at h ⊢
 exact ⟨⟨⟨⟨⟨⟨h.1.1.1.1.1.1,h.1.1.1.1.1.2⟩,h.1.1.1.1.2⟩,by simp [inR];omega⟩,h.1.1.2⟩,h.1.2⟩,h.2⟩
theorem listW_sc (r:Rep):listW r=[r.lv,r.pl] ++ r.sc :: ([(r.ins.length:Int)] ++ r.ins.map codeW ++ r.hs):=by simp [listW]
theorem Fine.reTag {l:Lvl} {key:Int} {r:Rep} (h:Fine l key r) {s:Int} (h0:0≤s) (h1:s≤60) (hne:s≠r.sc):verdW l key { r with sc:=s }=4:=by
 have hf:=repOk_facts h.rep
 have ht:tagW key (listW { r with sc:=s })≠tagW key (listW r):=by
  rw [listW_sc r]
  show tagW key ([r.lv,r.pl] ++ s :: ([(r.ins.length:Int)] ++ r.ins.map codeW ++ r.hs))≠_
  exact tagW_ne _ _ h0 (by omega) (by omega) (by omega) hne
 rw [h.tag] at ht
 unfold verdW
 rw [repOk_sc h.rep h0 h1,if_neg (by simp),if_neg (by rw [h.lvl];simpa using h.id),if_neg (by rw [h.ky];simp),if_pos ht]
theorem repOk_hs {r:Rep} (h:repOk r=true) {k:Nat} {z t:Int} (hk:k<r.hs.length) (h0:0≤z) (h1:z≤1000002) (t0:0≤t) (t1:t≤1000002):repOk { r with hs:=r.hs.set k z,tag:=t }=true:=by
 simp only [repOk,Bool.and_eq_true] at h ⊢
 refine ⟨⟨⟨⟨⟨⟨?_,h.1.1.1.1.1.2⟩,h.1.1.1.1.2⟩,h.1.1.1.2⟩,h.1.1.2⟩,by simpa using h.1.2⟩,by simp [hashOk,inR];omega⟩
 rw [List.all_eq_true]
 intro x hx
 rcases List.mem_or_eq_of_mem_set hx with hx|rfl
 ·exact List.all_eq_true.1 h.1.1.1.1.1.1 x hx
 ·simp [hashOk,inR];omega
theorem Fine.reHash {l:Lvl} {key:Int} {r:Rep} (h:Fine l key r) {k:Nat} {z:Int} (hk:k<r.hs.length) (h0:0≤z) (h1:z≤1000002) (hne:r.hs[k]?≠some z) :
  verdW l key { r with hs:=r.hs.set k z,tag:=tagW key (listW { r with hs:=r.hs.set k z }) }=7∧tickW l { r with hs:=r.hs.set k z,tag:=tagW key (listW { r with hs:=r.hs.set k z }) }=(k:Int) * 5:=by
 have hl:=h.legal
 obtain ⟨t0,t1⟩:=tagW_ok key (listW { r with hs:=r.hs.set k z })
 have hr:=repOk_hs h.rep (z:=z) (t:=tagW key (listW { r with hs:=r.hs.set k z })) hk h0 h1 t0 t1
 have hd:divW (hashesW l r.ins) (r.hs.set k z)=k:=by rw [h.hashes];exact divW_set hk hne
 refine ⟨?_,?_⟩
 ·unfold verdW
  rw [hr,if_neg (by simp),if_neg (by rw [h.lvl];simpa using h.id),if_neg (by rw [h.ky];simp),if_neg (fun hc=>hc rfl),if_neg (by show ¬ 0≤legalW l r.ins;omega)]
  unfold runV
  simp only
  rw [h.ov,hd,if_neg (by simp),if_pos (by omega)]
 ·unfold tickW repW
  rw [hr,if_neg (by simp),if_neg (by rw [h.lvl];simpa using h.id),if_neg (by show ¬ 0≤legalW l r.ins;omega)]
  simp only
  rw [h.ok,hd,decide_eq_true (show (0:Int)≤(k:Int) by omega)]
  rfl
inductive Verd2 (l:Lvl) (key:Int) (r:Rep):Int→Prop
 | text:repOk r=false→Verd2 l key r 1
 | level:repOk r=true→(levelOk l=false∨l.id≠r.lv)→Verd2 l key r 2
 | key:repOk r=true→levelOk l=true→l.id=r.lv→inR key 1 9999=false→Verd2 l key r 3
 | late (V:Int):repOk r=true→levelOk l=true→l.id=r.lv→inR key 1 9999=true→((tagW key (listW r)≠r.tag∧V=4)∨(tagW key (listW r)=r.tag∧0≤legalW l r.ins∧V=5)∨(tagW key (listW r)=r.tag∧legalW l r.ins<0∧V=runV l r))→Verd2 l key r V
theorem verd2 {l:Lvl} {key:Int} {r:Rep} {V:Int} (h:Verd l key r V):Verd2 l key r V:=by
 cases h with
 | text h=>exact .text h
 | level h1 h2=>exact .level h1 h2
 | key h1 h2 h3 h4=>exact .key h1 h2 h3 h4
 | tag h1 h2 h3 h4 h5=>exact .late _ h1 h2 h3 h4 (.inl ⟨h5,rfl⟩)
 | input h1 h2 h3 h4 h5 h6=>exact .late _ h1 h2 h3 h4 (.inr (.inl ⟨h5,h6,rfl⟩))
 | run h1 h2 h3 h4 h5 h6=>exact .late _ h1 h2 h3 h4 (.inr (.inr ⟨h5,h6,rfl⟩))
end Go.Proofs.YtpcjdalgebgofaaGreatDoorY

/-
  Lemmas and contracts: Ui Uj Uk Ul. No condition.
-/
import Derived.Test.YtpcjdalgebgofaaGreatDoorKa8
set_option linter.unusedSimpArgs false
set_option linter.unusedVariables false
set_option linter.unusedSectionVars false
namespace Go.Proofs.YtpcjdalgebgofaaGreatDoor
open Go Go.Conc Go.ConcX Go.RowKit Go.Conc.Lib Go.ConcX.Gen
noncomputable def ops7D:Array Oper:=match loopD with|.seq _ (.seq (.block _ (.seq _ (.region _ ops _))) _)=>ops|_=>#[]
noncomputable def restD:Code:=match loopD with|.seq _ (.seq _ r)=>r|_=>.skip
noncomputable def ops10D:Array Oper:=match tailD with|.seq (.region _ ops _) _=>ops|_=>#[]
noncomputable def tail11D:Code:=match tailD with|.seq _ r=>r|_=>.skip
def outD (W:World) (n:Nat):Value:=.slice (some ⟨W.heap.size+2,0,none⟩) n n
def DoneD (W:World) (A:Option Addr) (la ca:Nat) (B:Option Addr) (lb cb n:Nat) (x:Option Int) (vals:List Value) (kd:CallKind) (cs:List Frame) (g:Goroutine) (w:World):Prop :=
 (∃ T,g=G { (bK kd).at ⟨T,[]⟩ [.code .ret] with mode:=.returning } cs∧T[4]?=some (outD W n))∧FJD W A la ca B lb cb n x w∧WgAt 138 (W.heap.size+4) w 0 0∧Full (W.heap.size+2) vals w
section
variable {W:World} {A B:Option Addr} {la ca lb cb n:Nat} [Shy (W.heap.size+4) (W.heap.size+2)] [ShyD W.heap.size (min la lb) A B] {cs:List Frame} {kd:CallKind} {vals:List Value} {x:Option Int}
theorem fdj_rely {w w₁:World} (h:FJD W A la ca B lb cb n x w∧WgAt 138 (W.heap.size+4) w 0 0∧Full (W.heap.size+2) vals w) (r:AtRel w w₁):FJD W A la ca B lb cb n x w₁∧WgAt 138 (W.heap.size+4) w₁ 0 0∧Full (W.heap.size+2) vals w₁:=by
 obtain ⟨d,rfl⟩:=r
 exact ⟨h.1.aside2 ⟨rfl,rfl,rfl,rfl,fun _ _ _=>rfl⟩,h.2⟩
theorem fjd2:∀ w w':World,Aside2 (W.heap.size+2) (W.heap.size+4) w w'→FJD W A la ca B lb cb n x w→FJD W A la ca B lb cb n x w':=fun _ _ h1 h2=>h2.aside2 h1
set_option maxRecDepth 100000 in
theorem afterD (hk:(bK kd).kind≠.early) (hstop:∀ g w,DoneD W A la ca B lb cb n x vals kd cs g w→Shy.stop (W.heap.size+4) (W.heap.size+2) g w) (y0 y1 y2 y3 y4 y6 y7 y8 y9 y10 y11 y12 y13 y14 y15 y16 y17 y18 y19 y20 y21 y22 y23 y24:Value) (w:World) (h1:FJD W A la ca B lb cb n x w) (h2:WgAt 138 (W.heap.size+4) w 0 0) (h3:Full (W.heap.size+2) vals w) :
  Goes Tryz.prog true AtRel (DPj (MineD W.heap.size) (W.heap.size+4) (W.heap.size+2) (W.heap.size+6)) (AtRetJ Tryz.prog (W.heap.size+4) (W.heap.size+2) (MineD W.heap.size) (fun _ _=>True)) 12
   (G ((bK kd).at ((⟨#[y0,y1,y2,y3,y4,ptr (W.heap.size+3),y6,y7,y8,y9,y10,y11,y12,y13,y14,y15,y16,y17,y18,y19,y20,y21,y22,y23,y24],[]⟩:Act).put ((ops10D[0]?).bind (·.dst)) (.tuple #[])) (.inRegion ops10D [] :: [.code tail11D])) cs) w:=by
 have hF:FJD W A la ca B lb cb n x w∧WgAt 138 (W.heap.size+4) w 0 0∧Full (W.heap.size+2) vals w:=⟨h1,h2,h3⟩
 clear h1 h2 h3
 simp only [ptr,ops10D,tail11D,tailD,bodyD,Tryz.f54,Option.getD_some]
 walk_nrm
 u_c stepG_region_end fdj_rely hF
 u_c stepG_seq fdj_rely hF
 u_reg fdj_rely hF
 u_in fdj_rely hF
 refine goes_oper_k rfl rfl hk (fun K hK=>?_)
 have hfact:=hF.1.outv
 go_simp
 refine hK _ _ ⟨⟨(fun _ _=>rfl),fun e he=>?_⟩,?_⟩
 ·have hm:=mem_listed he
  simp [go_sem, *] at hm
  try (subst hm;exact (evDJ_read _ _ (by simp) (by simp) (‹ShyD _ _ _ _›.own _ _ (by simp <;> omega) (by simp <;> omega) (by simp))))
 clear hK K hfact
 u_op fdj_rely hF
 u_c stepG_region_end fdj_rely hF
 u_c stepG_ret' fdj_rely hF
 exact Goes.stop (fun w₂ r₂=>⟨rfl,hstop _ _ ⟨⟨_,rfl,rfl⟩,fdj_rely hF r₂⟩⟩)
noncomputable def cWD (kd:CallKind) (T:Array Value):Frame:=(bK kd).at ⟨T,[]⟩ (.inRegion ops10D (0 :: []) :: [.code tail11D])
abbrev AnD (x:Option Int) (W:World) (A:Option Addr) (la ca:Nat) (B:Option Addr) (lb cb n:Nat) [Shy (W.heap.size+4) (W.heap.size+2)] (vals:List Value) (kd:CallKind) (T:Array Value) (cs:List Frame):Goroutine→World→Prop:=AnchW7 wgL (FJD W A la ca B lb cb n x) (W.heap.size+4) (W.heap.size+2) vals (cWD kd T) cs
set_option maxRecDepth 100000 in
set_option maxHeartbeats 4000000 in
theorem intoWait (hk:(bK kd).kind≠.early) (y0 y1 y2 y3 y4 y5 y7 y8 y9 y10 y11 y12 y13 y14 y15 y16 y17 y18 y19 y20 y21 y22 y23 y24:Value) (w:World) (hF:FJD W A la ca B lb cb n x w∧KPa 138 (W.heap.size+4) (W.heap.size+2) vals w) :
  Goes Tryz.prog true (RPa 138 (W.heap.size+4) (W.heap.size+2) vals) (DPi (MineD W.heap.size) (W.heap.size+4) (W.heap.size+2) (W.heap.size+6)) (AtKd Tryz.prog 138 (W.heap.size+4) (W.heap.size+2) (W.heap.size+6) vals (MineD W.heap.size) (AnD x W A la ca B lb cb n vals kd #[y0,y1,y2,y3,y4,y5,ptr (W.heap.size+4),y7,y8,y9,y10,y11,y12,y13,y14,y15,y16,y17,y18,y19,y20,y21,y22,y23,y24] cs)) 7
   (G ((bK kd).at ⟨#[y0,y1,y2,y3,y4,y5,ptr (W.heap.size+4),y7,y8,y9,y10,y11,y12,y13,y14,y15,y16,y17,y18,y19,y20,y21,y22,y23,y24],[]⟩ [.code tailD]) cs) w:=by
 have hA:=waitStart (L:=wgL) (P:=Tryz.prog) wgLib (Mine:=MineD W.heap.size) (Wg:=W.heap.size+4) (C:=W.heap.size+2) (Low:=W.heap.size+6) (vals:=vals) (F:=FJD W A la ca B lb cb n x) (b₀:=bK kd) (a₀:=⟨#[y0,y1,y2,y3,y4,y5,ptr (W.heap.size+4),y7,y8,y9,y10,y11,y12,y13,y14,y15,y16,y17,y18,y19,y20,y21,y22,y23,y24],[]⟩) (ops₀:=ops10D) (i₀:=0) (rest₀:=[]) (k₀:=[.code tail11D]) (cs:=cs) fjd2
 simp only [AnD,cWD,ptr,ops10D,tail11D,tailD,bodyD,body_wait,Tryz.f54,waitFn,Option.getD_some] at hA ⊢
 u_c stepG_seq (fa_rely (L:=wgL) fjd2) hF
 u_reg (fa_rely (L:=wgL) fjd2) hF
 u_in (fa_rely (L:=wgL) fjd2) hF
 refine goes_call rfl rfl hk rfl Tryz.func97 (nm_wait wgL) rfl ⟨by u_nil,?_⟩
 walk_nrmf Tryz.f97
 exact (hA _ hF).mono (by omega)
end
end Go.Proofs.YtpcjdalgebgofaaGreatDoor
namespace Go.Proofs.YtpcjdalgebgofaaGreatDoor
open Go Go.Conc Go.ConcX Go.RowKit Go.Conc.Lib Go.ConcX.Gen
section
variable {W:World} {A B:Option Addr} {la ca lb cb n:Nat} [Shy (W.heap.size+4) (W.heap.size+2)] [ShyD W.heap.size (min la lb) A B] {cs:List Frame} {kd:CallKind} {vals:List Value} {zs ws:List Int}
theorem ckP (hn:n=max la lb) (hb:∀ ad,0<min la lb→(A=some ad∨B=some ad)→ad.block<W.heap.size) (hA:∀ i ad,i<la→i<lb→A=some ad→W.cell? (ad.add i)=some (.int .i64 (zs.getD i 0))) (hB:∀ i ad,i<la→i<lb→B=some ad→W.cell? (ad.add i)=some (.int .i64 (ws.getD i 0))) :
  CKD W.heap.size A B la ca lb cb n zs ws 0 ((wP W A B la ca lb cb n).setCell (stA (W.heap.size+4)) (.int .u64 KK)):=by
 have h:=fjP W A B la ca lb cb n
 have hs:=aside_setCell (wP W A B la ca lb cb n) (stA (W.heap.size+4)) (.int .u64 KK)
 have hbl:∀ b,b≠W.heap.size+4→((wP W A B la ca lb cb n).setCell (stA (W.heap.size+4)) (.int .u64 KK)).heap[b]?=(wP W A B la ca lb cb n).heap[b]?:=fun b hb=>hs.block b hb
 have old:∀ (ad:Addr) i,ad.block<W.heap.size→((wP W A B la ca lb cb n).setCell (stA (W.heap.size+4)) (.int .u64 KK)).cell? (ad.add i)=W.cell? (ad.add i):=fun ad i hlt=>by
  have e:(ad.add i).block=ad.block:=add_block ad i
  exact World.cell?_of_block ((hbl _ (by rw [e];omega)).trans (h.below.block _ (by rw [e];exact hlt)))
 refine ⟨?_,?_,?_,?_,fun i ad h1 h2 ha=>?_,fun i ad h1 h2 ha=>?_,.inl ((wgP W A B la ca lb cb n).setSt KK),madeCells #[.bool false] n,(hbl _ (by omega)).trans (rowP W A B la ca lb cb n),size_madeCells _ _,fun i hi=>absurd hi (Nat.not_lt_zero _)⟩
 ·simp [World.cell?,hbl _ (show W.heap.size≠W.heap.size+4 by omega),h.b0]
 ·simp [World.cell?,hbl _ (show W.heap.size+1≠W.heap.size+4 by omega),h.b1]
 ·simp [World.cell?,hbl _ (show W.heap.size+3≠W.heap.size+4 by omega),h.b3]
 ·simp [World.cell?,hbl _ (show W.heap.size+5≠W.heap.size+4 by omega),h.b5]
 ·rw [old ad i (hb ad (by omega) (.inl ha))];exact hA i ad h1 h2 ha
 ·rw [old ad i (hb ad (by omega) (.inr ha))];exact hB i ad h1 h2 ha
theorem evL_of_EvS {Shun:Loc→Prop} {Bd Wg C:Nat} [Shy Wg C] (hok:∀ act,Shy.ok Wg C act→okF Shun Bd Wg act) {e:Event} (h:EvS Wg C e):EvL Shun Bd e:=by
 obtain ⟨_,_,_,h4,h5,h6⟩:=h
 have k:=hok _ h6
 refine ⟨fun x hx hs=>(k.1 x hx).1 hs,fun hl=>?_,fun hl=>?_,k.2.1⟩
 ·obtain ⟨loc,wr,sy⟩:=e
  cases hl
  exact h4 (by simp [MemAct.ofEvent])
 ·obtain ⟨loc,wr,sy⟩:=e
  cases hl
  exact h5 (by simp [MemAct.ofEvent])
set_option maxRecDepth 100000 in
set_option maxHeartbeats 4000000 in
theorem entryNone (hk:(bK kd).kind≠.early) (hl:la=0) (hl2:lb=0) (x2 x3 x4 x5 x6 x7 x8 x9 x10 x11 x12 x13 x14 x15 x16 x17 x18 x19 x20 x21 x22 x23 x24:Value) :
  Goes Tryz.prog true AtRel (DE (EvS (W.heap.size+4) (W.heap.size+2))) (fun g w=>g.status=.running∧(∃ d,w=(wP W A B la ca lb cb 0).at d)∧∃ y0 y1 y2 y3 y4 y7 y8 y9 y10 y11 y12 y13 y14 y15 y16 y17 y18 y19 y20 y21 y22 y23 y24,g=G ((bK kd).at ⟨#[y0,y1,y2,y3,y4,ptr (W.heap.size+3),ptr (W.heap.size+4),y7,y8,y9,y10,y11,y12,y13,y14,y15,y16,y17,y18,y19,y20,y21,y22,y23,y24],[]⟩ [.code tailD]) cs) (30+40)
   (G ((bK kd).at ⟨#[.slice A la ca,.slice B lb cb,x2,x3,x4,x5,x6,x7,x8,x9,x10,x11,x12,x13,x14,x15,x16,x17,x18,x19,x20,x21,x22,x23,x24],[]⟩ [.code bodyD]) cs) W:=by
 refine prefixD (n:=0) hk (by omega) (by omega) (by omega) x2 x3 x4 x5 x6 x7 x8 x9 x10 x11 x12 x13 x14 x15 x16 x17 x18 x19 x20 x21 x22 x23 x24 ?_
 have hfj:=fjP W A B la ca lb cb 0
 have hout:∀ d,((wP W A B la ca lb cb 0).at d).cell? ⟨W.heap.size+3,0,none⟩=some (.slice (some ⟨W.heap.size+2,0,none⟩) 0 0):=fun d=>hfj.outv
 have hfrom:∀ d,((wP W A B la ca lb cb 0).at d).cell? ⟨W.heap.size+5,0,none⟩=some (.int .i64 0):=fun d=>hfj.fromv
 generalize wP W A B la ca lb cb 0=wp at *
 simp only [loopD,bodyD,ptr,Tryz.f54,Option.getD_some]
 l_c stepG_seq
 l_c stepG_seq
 l_reg
 l_in
 refine goes_oper_k rfl rfl hk (fun K hK=>?_)
 go_simp
 refine hK _ _ ⟨fun e he=>?_,?_⟩
 ·have hm:=mem_listed he
  simp [go_sem,storedEv, *] at hm
  try (subst hm;exact evS_cell _ _ _ (by simp <;> omega) (by simp <;> omega) (‹ShyD _ _ _ _›.own _ _ (by simp <;> omega) (by simp <;> omega) (by simp <;> omega)))
 clear hK K
 l_in
 refine goes_oper_k rfl rfl hk (fun K hK=>?_)
 go_simp
 refine hK _ _ ⟨fun e he=>?_,?_⟩
 ·have hm:=mem_listed he
  simp [go_sem,storedEv, *] at hm
  try (subst hm;exact evS_cell _ _ _ (by simp <;> omega) (by simp <;> omega) (‹ShyD _ _ _ _›.own _ _ (by simp <;> omega) (by simp <;> omega) (by simp <;> omega)))
 clear hK K
 l_in
 refine goes_oper_k rfl rfl hk (fun K hK=>?_)
 go_simp
 refine hK _ _ ⟨fun e he=>?_,?_⟩
 ·have hm:=mem_listed he
  simp [go_sem,storedEv, *] at hm
  try (subst hm;exact evS_cell _ _ _ (by simp <;> omega) (by simp <;> omega) (‹ShyD _ _ _ _›.own _ _ (by simp <;> omega) (by simp <;> omega) (by simp <;> omega)))
 clear hK K
 l_in
 refine goes_oper_k rfl rfl hk (fun K hK=>?_)
 go_simp
 refine hK _ _ ⟨fun e he=>?_,?_⟩
 ·have hm:=mem_listed he
  simp [go_sem,storedEv, *] at hm
  try (subst hm;exact evS_cell _ _ _ (by simp <;> omega) (by simp <;> omega) (‹ShyD _ _ _ _›.own _ _ (by simp <;> omega) (by simp <;> omega) (by simp <;> omega)))
 clear hK K
 l_c stepG_region_end
 l_cond false
 l_in
 refine goes_exit rfl ?_
 refine ⟨by u_nil,?_⟩
 refine Goes.stop (fun w₁ h₁=>?_)
 obtain ⟨dd,hdd⟩:=h₁
 subst hdd
 exact ⟨rfl,⟨_,rfl⟩,_,_,_,_,_,_,_,_,_,_,_,_,_,_,_,_,_,_,_,_,_,_,_,rfl⟩
set_option maxRecDepth 100000 in
set_option maxHeartbeats 4000000 in
theorem goneD [ShyE W.heap.size] (hk:(bK kd).kind≠.early) (h64:n≤64) (y0 y1 y2 y3 y4 y8 y9 y10 y11 y12 y13 y14 y15 y16 y17 y18 y19 y20 y21 y22 y23 y24:Value) (w:World) (hF:FJD W A la ca B lb cb n none w∧KPa 138 (W.heap.size+4) (W.heap.size+2) vals w) :
  Goes Tryz.prog true (RPa 138 (W.heap.size+4) (W.heap.size+2) vals) (DPi (MineD W.heap.size) (W.heap.size+4) (W.heap.size+2) (W.heap.size+6)) (AtKd Tryz.prog 138 (W.heap.size+4) (W.heap.size+2) (W.heap.size+6) vals (MineD W.heap.size) (AnD (some 64) W A la ca B lb cb n vals kd #[y0,y1,y2,y3,y4,ptr (W.heap.size+3),ptr (W.heap.size+4),ptr (W.heap.size+6),y8,y9,y10,y11,y12,y13,.int .i64 64,outD W n,.int .i64 n,.bool false,.int .i64 0,.int .i64 64,y20,y21,.int .i64 0,y23,y24] cs)) 60
   (G ((bK kd).at ⟨#[y0,y1,y2,y3,y4,ptr (W.heap.size+3),ptr (W.heap.size+4),ptr (W.heap.size+5),y8,y9,y10,y11,y12,y13,y14,y15,y16,y17,y18,y19,y20,y21,y22,y23,y24],[]⟩ [.inRegion ops7D [],.inBlock 1,.code restD,.inLoop loopD,.inBlock 0,.code tailD]) cs) w:=by
 have hnl:¬ ((64:Int)<(n:Int)):=by omega
 simp only [ops7D,restD,loopD,bodyD,ptr,Tryz.f54,Option.getD_some]
 u_c stepG_region_end (fa_rely (L:=wgL) fjd2) hF
 u_c stepG_inBlock (fa_rely (L:=wgL) fjd2) hF
 u_c stepG_seq (fa_rely (L:=wgL) fjd2) hF
 u_c stepG_seq (fa_rely (L:=wgL) fjd2) hF
 u_reg (fa_rely (L:=wgL) fjd2) hF
 u_in (fa_rely (L:=wgL) fjd2) hF
 refine goes_oper_k rfl rfl hk (fun K hK=>?_)
 have hfact:=hF.1.fromv
 go_simp
 refine hK _ _ ⟨⟨(fun _ _=>rfl),fun e he=>?_⟩,?_⟩
 ·have hm:=mem_listed he
  simp [go_sem, *] at hm
  try (subst hm;exact (evD_read0 _ _ (by simp <;> omega) (by simp <;> omega) (‹ShyD _ _ _ _›.own _ _ (by simp <;> omega) (by simp <;> omega) (by simp <;> omega))))
 clear hK K hfact
 u_c stepG_region_end (fa_rely (L:=wgL) fjd2) hF
 u_reg (fa_rely (L:=wgL) fjd2) hF
 refine Goes.step rfl (fun wx h₁=>?_)
 replace hF:=fa_rely (L:=wgL) fjd2 hF h₁
 clear h₁
 refine goes_oper_k rfl rfl hk (fun K hK=>?_)
 have hs:wx.heap.size=W.heap.size+6:=hF.1.tail
 go_simp
 refine hK _ _ ⟨⟨fun b hb=>Below.heap_alloc _ _ _ (by omega),fun e he=>?_⟩,?_⟩
 ·have hm:=mem_listed he
  simp [go_sem, *] at hm
 clear hK K
 try simp only [hs]
 replace hF:FJD W A la ca B lb cb n (some 0) (wx.alloc (.cells #[.int .i64 0] 3))∧KPa 138 (W.heap.size+4) (W.heap.size+2) vals (wx.alloc (.cells #[.int .i64 0] 3)) :=
  ⟨hF.1.alloc,kpa_low (Low:=W.heap.size+6) (by omega) (by omega) hF.2 fun b hb=>Below.heap_alloc _ _ _ (by omega)⟩
 generalize wx.alloc (.cells #[.int .i64 0] 3)=wy at hF ⊢
 clear hs wx
 refine Goes.step rfl (fun wx h₁=>?_)
 replace hF:=fa_rely (L:=wgL) fjd2 hF h₁
 clear h₁
 refine goes_oper_k rfl rfl hk (fun K hK=>?_)
 have hcell:=hF.1.nextv
 have hfz:wx.frozen? ⟨W.heap.size+6,0,none⟩=false:=by simp [World.frozen?,hF.1.tail.2]
 go_simp
 refine hK _ _ ⟨⟨fun b hb=>(aside_setCell wx ⟨W.heap.size+6,0,none⟩ _).block b (by simp;omega),fun e he=>?_⟩,?_⟩
 ·have hm:=mem_listed he
  simp [go_sem,storedEv, *] at hm
  subst hm
  exact evD_write0 _ _ (by simp <;> omega) (‹ShyE _›.own6 _ _ (by simp))
 clear hK K hcell hfz
 replace hF:FJD W A la ca B lb cb n (some 0) (wx.setCell ⟨W.heap.size+6,0,none⟩ (.int .i64 0))∧KPa 138 (W.heap.size+4) (W.heap.size+2) vals (wx.setCell ⟨W.heap.size+6,0,none⟩ (.int .i64 0)) :=
  ⟨hF.1.set,kpa_low (Low:=W.heap.size+6) (by omega) (by omega) hF.2 fun b hb=>(aside_setCell wx ⟨W.heap.size+6,0,none⟩ _).block b (by simp;omega)⟩
 generalize wx.setCell ⟨W.heap.size+6,0,none⟩ (.int .i64 0)=wy at hF ⊢
 clear wx
 u_c stepG_region_end (fa_rely (L:=wgL) fjd2) hF
 u_reg (fa_rely (L:=wgL) fjd2) hF
 u_in (fa_rely (L:=wgL) fjd2) hF
 refine goes_oper_k rfl rfl hk (fun K hK=>?_)
 have hfact:=hF.1.nextv
 go_simp
 refine hK _ _ ⟨⟨(fun _ _=>rfl),fun e he=>?_⟩,?_⟩
 ·have hm:=mem_listed he
  simp [go_sem, *] at hm
  try (subst hm;exact (evD_read0 _ _ (by simp <;> omega) (by simp <;> omega) (‹ShyE _›.own6 _ _ (by simp))))
 clear hK K hfact
 u_op (fa_rely (L:=wgL) fjd2) hF
 try simp only [w64]
 refine Goes.step rfl (fun wx h₁=>?_)
 replace hF:=fa_rely (L:=wgL) fjd2 hF h₁
 clear h₁
 refine goes_oper_k rfl rfl hk (fun K hK=>?_)
 have hcell:=hF.1.nextv
 have hfz:wx.frozen? ⟨W.heap.size+6,0,none⟩=false:=by simp [World.frozen?,hF.1.tail.2]
 go_simp
 refine hK _ _ ⟨⟨fun b hb=>(aside_setCell wx ⟨W.heap.size+6,0,none⟩ _).block b (by simp;omega),fun e he=>?_⟩,?_⟩
 ·have hm:=mem_listed he
  simp [go_sem,storedEv, *] at hm
  subst hm
  exact evD_write0 _ _ (by simp <;> omega) (‹ShyE _›.own6 _ _ (by simp))
 clear hK K hcell hfz
 replace hF:FJD W A la ca B lb cb n (some 64) (wx.setCell ⟨W.heap.size+6,0,none⟩ (.int .i64 64))∧KPa 138 (W.heap.size+4) (W.heap.size+2) vals (wx.setCell ⟨W.heap.size+6,0,none⟩ (.int .i64 64)) :=
  ⟨hF.1.set,kpa_low (Low:=W.heap.size+6) (by omega) (by omega) hF.2 fun b hb=>(aside_setCell wx ⟨W.heap.size+6,0,none⟩ _).block b (by simp;omega)⟩
 generalize wx.setCell ⟨W.heap.size+6,0,none⟩ (.int .i64 64)=wy at hF ⊢
 clear wx
 u_c stepG_region_end (fa_rely (L:=wgL) fjd2) hF
 u_c stepG_inLoop (fa_rely (L:=wgL) fjd2) hF
 u_c stepG_seq (fa_rely (L:=wgL) fjd2) hF
 u_c stepG_seq (fa_rely (L:=wgL) fjd2) hF
 u_reg (fa_rely (L:=wgL) fjd2) hF
 u_in (fa_rely (L:=wgL) fjd2) hF
 refine goes_oper_k rfl rfl hk (fun K hK=>?_)
 have hfact:=hF.1.nextv
 go_simp
 refine hK _ _ ⟨⟨(fun _ _=>rfl),fun e he=>?_⟩,?_⟩
 ·have hm:=mem_listed he
  simp [go_sem, *] at hm
  try (subst hm;exact (evD_read0 _ _ (by simp <;> omega) (by simp <;> omega) (‹ShyE _›.own6 _ _ (by simp))))
 clear hK K hfact
 u_in (fa_rely (L:=wgL) fjd2) hF
 refine goes_oper_k rfl rfl hk (fun K hK=>?_)
 have hfact:=hF.1.outv
 go_simp
 refine hK _ _ ⟨⟨(fun _ _=>rfl),fun e he=>?_⟩,?_⟩
 ·have hm:=mem_listed he
  simp [go_sem, *] at hm
  try (subst hm;exact (evD_read0 _ _ (by simp <;> omega) (by simp <;> omega) (‹ShyD _ _ _ _›.own _ _ (by simp <;> omega) (by simp <;> omega) (by simp <;> omega))))
 clear hK K hfact
 u_op (fa_rely (L:=wgL) fjd2) hF
 u_op (fa_rely (L:=wgL) fjd2) hF
 u_c stepG_region_end (fa_rely (L:=wgL) fjd2) hF
 try simp only [hnl,decide_false]
 u_cond false (fa_rely (L:=wgL) fjd2) hF
 u_exit (fa_rely (L:=wgL) fjd2) hF
 exact (intoWait (x:=some 64) hk y0 y1 y2 y3 y4 _ _ y8 y9 y10 y11 y12 y13 _ _ _ _ _ _ y20 y21 _ y23 y24 _ hF).mono (by omega)
end
end Go.Proofs.YtpcjdalgebgofaaGreatDoor
namespace Go.Proofs.YtpcjdalgebgofaaGreatDoor
open Go Go.Conc Go.ConcX Go.RowKit Go.Conc.Lib Go.ConcX.Gen
section
variable {W:World} {A B:Option Addr} {la ca lb cb n:Nat} [Shy (W.heap.size+4) (W.heap.size+2)] [ShyD W.heap.size (min la lb) A B] {cs:List Frame} {kd:CallKind} {zs ws:List Int}
set_option maxRecDepth 100000 in
set_option maxHeartbeats 4000000 in
theorem loneD [ShyE W.heap.size] (hk:(bK kd).kind≠.early) (h1:la≤64) (h2:lb≤64) (hn:n=max la lb) (h0:0<n) (hb:∀ ad,0<min la lb→(A=some ad∨B=some ad)→ad.block<W.heap.size) (hp:0<min la lb→∃ ad bd,A=some ad∧B=some bd)
  (hA:∀ i ad,i<la→i<lb→A=some ad→W.cell? (ad.add i)=some (.int .i64 (zs.getD i 0))) (hB:∀ i ad,i<la→i<lb→B=some ad→W.cell? (ad.add i)=some (.int .i64 (ws.getD i 0)))
  (x2 x3 x4 x5 x6 x7 x8 x9 x10 x11 x12 x13 x14 x15 x16 x17 x18 x19 x20 x21 x22 x23 x24:Value) :
  LoneR Tryz.prog 138 (W.heap.size+4) (W.heap.size+2) (W.heap.size+6) (difs la lb zs ws 0 n) (MineD W.heap.size)
   (AnD (some 64) W A la ca B lb cb n (difs la lb zs ws 0 n) kd #[.slice A la ca,.slice B lb cb,ptr W.heap.size,ptr (W.heap.size+1),.slice none 0 0,ptr (W.heap.size+3),ptr (W.heap.size+4),ptr (W.heap.size+6),.slice A la ca,.int .i64 la,.slice B lb cb,.int .i64 lb,.int .i64 n,.slice (some ⟨W.heap.size+2,0,none⟩) n n,.int .i64 64,outD W n,.int .i64 n,.bool false,.int .i64 0,.int .i64 64,.tuple #[],.func (.func 95) #[] #[ptr (W.heap.size+4),ptr (W.heap.size+5),ptr (W.heap.size+3),ptr W.heap.size,ptr (W.heap.size+1)],.int .i64 0,x23,x24] cs)
   (G ((bK kd).at ⟨#[.slice A la ca,.slice B lb cb,x2,x3,x4,x5,x6,x7,x8,x9,x10,x11,x12,x13,x14,x15,x16,x17,x18,x19,x20,x21,x22,x23,x24],[]⟩ [.code bodyD]) cs) W:=by
 refine ⟨60+40,prefixD hk h1 h2 hn x2 x3 x4 x5 x6 x7 x8 x9 x10 x11 x12 x13 x14 x15 x16 x17 x18 x19 x20 x21 x22 x23 x24 ?_⟩
 have hfj:=fjP W A B la ca lb cb n
 have hwg:∀ d,WgAt 138 (W.heap.size+4) ((wP W A B la ca lb cb n).at d) 0 0:=fun d=>wgP W A B la ca lb cb n
 have hck:=ckP (zs:=zs) (ws:=ws) (ca:=ca) (cb:=cb) hn hb hA hB
 have hfj5:∀ d,FJD W A la ca B lb cb n none (((wP W A B la ca lb cb n).setCell (stA (W.heap.size+4)) (.int .u64 KK)).at d):=fun d=>(hfj.aside2 (Aside2.of_Wg (aside_setCell (wP W A B la ca lb cb n) (stA (W.heap.size+4)) (.int .u64 KK)))).aside2 ⟨rfl,rfl,rfl,rfl,fun _ _ _=>rfl⟩
 have hwg5:∀ d,WgAt 138 (W.heap.size+4) (((wP W A B la ca lb cb n).setCell (stA (W.heap.size+4)) (.int .u64 KK)).at d) KK 0:=fun d=>(wgP W A B la ca lb cb n).setSt KK
 have hout:∀ d,((wP W A B la ca lb cb n).at d).cell? ⟨W.heap.size+3,0,none⟩=some (.slice (some ⟨W.heap.size+2,0,none⟩) n n):=fun d=>hfj.outv
 have hfrom:∀ d,((wP W A B la ca lb cb n).at d).cell? ⟨W.heap.size+5,0,none⟩=some (.int .i64 0):=fun d=>hfj.fromv
 have hlt:(0:Int)<(n:Int):=by omega
 have hn64:n≤64:=by omega
 clear hn hfj
 generalize wP W A B la ca lb cb n=wp at *
 have hAd:=@addPos wgL (W.heap.size+4) (W.heap.size+2)
 simp only [loopD,tailD,bodyD,ptr,body_add,Tryz.f54,addFn,Option.getD_some] at hAd ⊢
 l_c stepG_seq
 l_c stepG_seq
 l_reg
 l_in
 refine goes_oper_k rfl rfl hk (fun K hK=>?_)
 go_simp
 refine hK _ _ ⟨fun e he=>?_,?_⟩
 ·have hm:=mem_listed he
  simp [go_sem,storedEv, *] at hm
  try (subst hm;exact evS_cell _ _ _ (by simp <;> omega) (by simp <;> omega) (‹ShyD _ _ _ _›.own _ _ (by simp <;> omega) (by simp <;> omega) (by simp <;> omega)))
 clear hK K
 l_in
 refine goes_oper_k rfl rfl hk (fun K hK=>?_)
 go_simp
 refine hK _ _ ⟨fun e he=>?_,?_⟩
 ·have hm:=mem_listed he
  simp [go_sem,storedEv, *] at hm
  try (subst hm;exact evS_cell _ _ _ (by simp <;> omega) (by simp <;> omega) (‹ShyD _ _ _ _›.own _ _ (by simp <;> omega) (by simp <;> omega) (by simp <;> omega)))
 clear hK K
 l_in
 refine goes_oper_k rfl rfl hk (fun K hK=>?_)
 go_simp
 refine hK _ _ ⟨fun e he=>?_,?_⟩
 ·have hm:=mem_listed he
  simp [go_sem,storedEv, *] at hm
  try (subst hm;exact evS_cell _ _ _ (by simp <;> omega) (by simp <;> omega) (‹ShyD _ _ _ _›.own _ _ (by simp <;> omega) (by simp <;> omega) (by simp <;> omega)))
 clear hK K
 l_in
 refine goes_oper_k rfl rfl hk (fun K hK=>?_)
 go_simp
 refine hK _ _ ⟨fun e he=>?_,?_⟩
 ·have hm:=mem_listed he
  simp [go_sem,storedEv, *] at hm
  try (subst hm;exact evS_cell _ _ _ (by simp <;> omega) (by simp <;> omega) (‹ShyD _ _ _ _›.own _ _ (by simp <;> omega) (by simp <;> omega) (by simp <;> omega)))
 clear hK K
 l_c stepG_region_end
 try simp only [hlt,decide_true]
 l_cond true
 l_c stepG_skip
 l_c stepG_seq
 l_c stepG_block
 l_c stepG_seq
 l_reg
 l_in
 refine goes_call rfl rfl hk rfl Tryz.func94 (nm_add wgL) rfl ⟨by u_nil,?_⟩
 walk_nrmf Tryz.f94
 refine Goes.mono (hAd (mT:=7) wgLib _ (hwg _) ?_) (by omega)
 clear hAd
 walk_nrm
 l_c stepG_region_end
 l_reg
 l_in
 refine goes_oper_k rfl rfl hk (fun K hK=>?_)
 go_simp
 refine hK _ _ ⟨fun e he=>?_,?_⟩
 ·have hm:=mem_listed he
  simp [go_sem,storedEv, *] at hm
  try (subst hm;exact evS_cell _ _ _ (by simp <;> omega) (by simp <;> omega) (‹ShyD _ _ _ _›.own _ _ (by simp <;> omega) (by simp <;> omega) (by simp <;> omega)))
 clear hK K
 refine Goes.stop (fun w₁ h₁=>?_)
 obtain ⟨d,hd⟩:=h₁
 subst hd
 simp only [alloc_at,setCell_at,at_at]
 have hg:=goneD (vals:=difs la lb zs ws 0 n) (cs:=cs) hk hn64 (.slice A la ca) (.slice B lb cb) (ptr W.heap.size) (ptr (W.heap.size+1)) (.slice none 0 0) (.slice A la ca) (.int .i64 la) (.slice B lb cb) (.int .i64 lb) (.int .i64 n) (.slice (some ⟨W.heap.size+2,0,none⟩) n n) (.int .i64 0) (.slice (some ⟨W.heap.size+2,0,none⟩) n n) (.int .i64 n) (.bool true) x18 x19 (.tuple #[]) (.func (.func 95) #[] #[ptr (W.heap.size+4),ptr (W.heap.size+5),ptr (W.heap.size+3),ptr W.heap.size,ptr (W.heap.size+1)]) x22 x23 x24 _ ⟨hfj5 d,.inl (hwg5 d)⟩
 simp only [ops7D,restD,loopD,tailD,bodyD,ptr,Tryz.f54,Option.getD_some] at hg
 refine ⟨rfl,_,born Tryz.prog (callC W.heap.size),(wp.setCell (stA (W.heap.size+4)) (.int .u64 KK)).at d,#[],?_,by simp,hwg5 d,(fun e=>by cases e),⟨_,hg⟩,worksCAll hn64 hb hp _ (CKD.rely hb hck (RCa.at _ d))⟩
 rw [stepG_spawn (d:=callC W.heap.size) (w':=(wp.setCell (stA (W.heap.size+4)) (.int .u64 KK)).at d) (f:=.func 95) (c:=#[ptr (W.heap.size+4),ptr (W.heap.size+5),ptr (W.heap.size+3),ptr W.heap.size,ptr (W.heap.size+1)]) rfl rfl hk (by simp [go_sem,callC,Deferred.ofValue,ptr,alloc_at,setCell_at]) rfl]
 simp [listed,go_sem,seen,Deferred.ofValue]
 rfl
end
end Go.Proofs.YtpcjdalgebgofaaGreatDoor
namespace Go.Proofs.YtpcjdalgebgofaaGreatDoor
open Go Go.Conc Go.ConcX Go.RowKit Go.Conc.Lib Go.ConcX.Gen
theorem past_shun {Shun Shun':Loc→Prop} {Bd:Nat} {t:Trace} (h:Past Shun Bd t) (hs:∀ l,Shun l→Shun' l):Past Shun' Bd t:=⟨h.clean,fun i a ha hm=>(h.known i a ha hm).imp id fun k=>⟨hs _ k.1,k.2⟩,h.over,h.hears,h.seen⟩
section
variable {W:World} {A B:Option Addr} {la ca lb cb n:Nat} {cs:List Frame} {kd:CallKind} {zs ws:List Int} {Shun:Loc→Prop}
set_option maxRecDepth 100000 in
theorem phase_none (hk:(bK kd).kind≠.early) (h1:la≤64) (h2:lb≤64) (hn:n=max la lb) (hb:∀ ad,0<min la lb→(A=some ad∨B=some ad)→ad.block<W.heap.size) (hp:0<min la lb→∃ ad bd,A=some ad∧B=some bd)
  (hA:∀ i ad,i<la→i<lb→A=some ad→W.cell? (ad.add i)=some (.int .i64 (zs.getD i 0))) (hB:∀ i ad,i<la→i<lb→B=some ad→W.cell? (ad.add i)=some (.int .i64 (ws.getD i 0)))
  (hSh:∀ a:Addr,Shun (.cell a)→a.block<W.heap.size∧(0<min la lb→∀ ad,(A=some ad∨B=some ad)→a.block≠ad.block))
  (x2 x3 x4 x5 x6 x7 x8 x9 x10 x11 x12 x13 x14 x15 x16 x17 x18 x19 x20 x21 x22 x23 x24:Value)
  {gs:Array Goroutine} {sl:Option (Nat × Nat)} {t:Trace} {q:Nat→Nat} (h0:gs[0]?=some (G ((bK kd).at ⟨#[.slice A la ca,.slice B lb cb,x2,x3,x4,x5,x6,x7,x8,x9,x10,x11,x12,x13,x14,x15,x16,x17,x18,x19,x20,x21,x22,x23,x24],[]⟩ [.code bodyD]) cs)) (hL:Leavers Tryz.prog t gs q) (hP:Past Shun W.heap.size t) (h00:n=0) :
  ∃ (N:Nat) (gs':Array Goroutine) (a':Goroutine) (w':World) (sl':Option (Nat × Nat)) (t':Trace) (q':Nat→Nat),runNT Tryz.prog N (crowd gs W sl) t=(.next (crowd gs' w' sl'),t')∧gs'[0]?=some a' ∧
   DoneD W A la ca B lb cb n none (difs la lb zs ws 0 n) kd cs a' w'∧Leavers Tryz.prog t' gs' q'∧Past (fun l=>Shun l∨OfWg (W.heap.size+4) l) w'.heap.size t':=by
 subst h00
 letI:Shy (W.heap.size+4) (W.heap.size+2):=shyOf Shun (W.heap.size+6) (W.heap.size+4) (W.heap.size+2) (DoneD W A la ca B lb cb 0 none (difs la lb zs ws 0 0) kd cs) (by omega) (by omega) (fun a ha hs=>by have:=(hSh a hs).1;omega)
 haveI:ShyD W.heap.size (min la lb) A B:=⟨fun a wr b1 b2 b3=>okF_plain a wr (fun hs=>by have:=(hSh a hs).1;omega) (by omega),fun ad j hm hab=>okF_plain (ad.add j) false (fun hs=>(hSh _ hs).2 hm ad hab (add_block ad j)) (by rw [add_block];have:=hb ad hm hab;omega)⟩
 have hE:=entryNone (W:=W) (A:=A) (B:=B) (la:=la) (ca:=ca) (lb:=lb) (cb:=cb) (cs:=cs) hk (by omega) (by omega) x2 x3 x4 x5 x6 x7 x8 x9 x10 x11 x12 x13 x14 x15 x16 x17 x18 x19 x20 x21 x22 x23 x24
 obtain ⟨N1,gs1,a1,w1,sl1,t1,q1,r1,z1,h01,⟨_,⟨d,rfl⟩,y0,y1,y2,y3,y4,y7,y8,y9,y10,y11,y12,y13,y14,y15,y16,y17,y18,y19,y20,y21,y22,y23,y24,rfl⟩,L1,P1⟩ :=
  walk_beside (P:=Tryz.prog) (Shun:=Shun) (B:=W.heap.size+6) (fun _ _ es h e he=>evL_of_EvS (fun _ k=>k) (h e he)) _ _ gs _ W sl t q (Nat.le_refl _) h0 hL (hP.mono (by omega)) hE
 have hfj:FJD W A la ca B lb cb 0 none ((wP W A B la ca lb cb 0).at d):=(fjP W A B la ca lb cb 0).aside2 ⟨rfl,rfl,rfl,rfl,fun _ _ _=>rfl⟩
 have hwg:WgAt 138 (W.heap.size+4) ((wP W A B la ca lb cb 0).at d) 0 0:=wgP W A B la ca lb cb 0
 have hfull:Full (W.heap.size+2) (difs la lb zs ws 0 0) ((wP W A B la ca lb cb 0).at d):=fun _=>(rowP W A B la ca lb cb 0).trans (by have e0:madeCells #[Value.bool false] 0=#[]:=Array.size_eq_zero_iff.1 (size_madeCells _ _);rw [e0];rfl)
 obtain ⟨N2,gs2,a2,w2,sl2,t2,q2,r2,z2,h02,_,s2,L2,P2⟩:=wait_none (Low:=W.heap.size+6) (Post:=fun _ _=>True) (by omega) (by omega) (fun _ k=>k) (fun g w ⟨_,hg,_⟩=>by rw [hg];rfl)
  (waitRound wgLib (by omega) fjd2 (afterD (x:=none) hk (fun _ _ h=>h) y0 y1 y2 y3 y4 (ptr (W.heap.size+4)) y7 y8 y9 y10 y11 y12 y13 y14 y15 y16 y17 y18 y19 y20 y21 y22 y23 y24)) (sl:=sl1) h01 L1 P1 ⟨hwg,hfull⟩
  (intoWait (x:=none) (vals:=difs la lb zs ws 0 0) hk y0 y1 y2 y3 y4 (ptr (W.heap.size+3)) y7 y8 y9 y10 y11 y12 y13 y14 y15 y16 y17 y18 y19 y20 y21 y22 y23 y24 _ ⟨hfj,.inr ⟨hwg,hfull⟩⟩)
 have hs2:w2.heap.size=W.heap.size+6:=s2.2.1.tail
 exact ⟨_,gs2,a2,w2,sl2,t2,q2,runNT_trans r1 r2,h02,s2,L2,by rw [hs2];exact past_shun P2 fun _=>.inl⟩
set_option maxRecDepth 100000 in
theorem phase_some (hk:(bK kd).kind≠.early) (h1:la≤64) (h2:lb≤64) (hn:n=max la lb) (hb:∀ ad,0<min la lb→(A=some ad∨B=some ad)→ad.block<W.heap.size) (hp:0<min la lb→∃ ad bd,A=some ad∧B=some bd)
  (hA:∀ i ad,i<la→i<lb→A=some ad→W.cell? (ad.add i)=some (.int .i64 (zs.getD i 0))) (hB:∀ i ad,i<la→i<lb→B=some ad→W.cell? (ad.add i)=some (.int .i64 (ws.getD i 0)))
  (hSh:∀ a:Addr,Shun (.cell a)→a.block<W.heap.size∧(0<min la lb→∀ ad,(A=some ad∨B=some ad)→a.block≠ad.block))
  (x2 x3 x4 x5 x6 x7 x8 x9 x10 x11 x12 x13 x14 x15 x16 x17 x18 x19 x20 x21 x22 x23 x24:Value)
  {gs:Array Goroutine} {sl:Option (Nat × Nat)} {t:Trace} {q:Nat→Nat} (h0:gs[0]?=some (G ((bK kd).at ⟨#[.slice A la ca,.slice B lb cb,x2,x3,x4,x5,x6,x7,x8,x9,x10,x11,x12,x13,x14,x15,x16,x17,x18,x19,x20,x21,x22,x23,x24],[]⟩ [.code bodyD]) cs)) (hL:Leavers Tryz.prog t gs q) (hP:Past Shun W.heap.size t) (h00:0<n) :
  ∃ (N:Nat) (gs':Array Goroutine) (a':Goroutine) (w':World) (sl':Option (Nat × Nat)) (t':Trace) (q':Nat→Nat),runNT Tryz.prog N (crowd gs W sl) t=(.next (crowd gs' w' sl'),t')∧gs'[0]?=some a' ∧
   DoneD W A la ca B lb cb n (some 64) (difs la lb zs ws 0 n) kd cs a' w'∧Leavers Tryz.prog t' gs' q'∧Past (fun l=>Shun l∨OfWg (W.heap.size+4) l) w'.heap.size t':=by
 letI:Shy (W.heap.size+4) (W.heap.size+2):=shyOf Shun (W.heap.size+7) (W.heap.size+4) (W.heap.size+2) (DoneD W A la ca B lb cb n (some 64) (difs la lb zs ws 0 n) kd cs) (by omega) (by omega) (fun a ha hs=>by have:=(hSh a hs).1;omega)
 haveI:ShyD W.heap.size (min la lb) A B:=⟨fun a wr b1 b2 b3=>okF_plain a wr (fun hs=>by have:=(hSh a hs).1;omega) (by omega),fun ad j hm hab=>okF_plain (ad.add j) false (fun hs=>(hSh _ hs).2 hm ad hab (add_block ad j)) (by rw [add_block];have:=hb ad hm hab;omega)⟩
 haveI:ShyE W.heap.size:=⟨fun a wr b1=>okF_plain a wr (fun hs=>by have:=(hSh a hs).1;omega) (by omega)⟩
 obtain ⟨N,gs',a',w',sl',t',q',r,z,h0',_,s,L,P⟩:=phase (P:=Tryz.prog) (Post:=fun _ _=>True) (Low:=W.heap.size+6) (B':=W.heap.size+7) (by omega) (by omega) (by omega) (fun g w ⟨_,hg,_⟩=>by rw [hg];rfl)
  (waitRound wgLib (by omega) fjd2 (afterD (x:=some 64) hk (fun _ _ h=>h) _ _ _ _ _ _ _ _ _ _ _ _ _ _ _ _ _ _ _ _ _ _ _ _)) (fun _ k=>k) (by omega) (sl:=sl) h0 hL hP (loneD (zs:=zs) (ws:=ws) hk h1 h2 hn h00 hb hp hA hB x2 x3 x4 x5 x6 x7 x8 x9 x10 x11 x12 x13 x14 x15 x16 x17 x18 x19 x20 x21 x22 x23 x24)
 have hs:w'.heap.size=W.heap.size+7:=s.2.1.tail.1
 exact ⟨N,gs',a',w',sl',t',q',r,h0',s,L,by rw [hs];exact P⟩
end
end Go.Proofs.YtpcjdalgebgofaaGreatDoor

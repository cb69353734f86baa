/-
  Lemmas and contracts: L1 InE It. No condition.
-/
import Derived.Test.YtkgfmgajhgfgjaaGreatDoorKa4
import Derived.Test.YtkgfmgajhgfgjaaGreatDoorKa8
import Derived.Test.YtkgfmgajhgfgjaaGreatDoorKa16
import Derived.Test.YtkgfmgajhgfgjaaGreatDoorKa17
import Derived.Test.YtkgfmgajhgfgjaaGreatDoorKa21
set_option linter.unusedSimpArgs false
set_option linter.unusedVariables false
set_option linter.unusedSectionVars false
namespace Go.Proofs.YtkgfmgajhgfgjaaGreatDoor
open Go.RowKit Go.Sort

structure L1 (o:Nat) (t:Sl) (i:Nat) (l:Lvl) (ws gs:Sl) (N:Nat) (wr:World) (D:Nat→Bool) (s35 s36 s37 s38 s39 s40 s41 s42 s43:Value) (a1 b1:Sl) (q:Nat) (w:World):Prop where
  bel:Below wr.heap.size wr w
  hN:N=wr.heap.size
  f0:D 0=true→s35=.pointer (some ⟨o,0,none⟩)
  f1:D 1=true→s36=.slice t.a t.n t.c
  f2:D 2=true→s37=.int .i64 i
  f3:D 3=true→s38=.agg #[.int .i64 l.id,.int .i64 l.ticks,.int .i64 l.sx,.int .i64 l.sy,.slice ws.a ws.n ws.c,.slice gs.a gs.n gs.c,.int .i64 l.f.1,.int .i64 l.f.2.1,.int .i64 l.f.2.2.1,.int .i64 l.f.2.2.2,.int .i64 l.bans]
  f4:D 4=true→s39=.agg #[.int .i64 l.id,.int .i64 l.ticks,.int .i64 l.sx,.int .i64 l.sy,.slice a1.a a1.n a1.c,.slice b1.a b1.n b1.c,.int .i64 l.f.1,.int .i64 l.f.2.1,.int .i64 l.f.2.2.1,.int .i64 l.f.2.2.2,.int .i64 l.bans]∧OwL N w.heap.size w l a1 b1∧(blkOf a1 ++ blkOf b1).Nodup
  f5:D 5=true→D 4=true∧s40=.agg #[.int .i64 l.id,.int .i64 l.ticks,.int .i64 l.sx,.int .i64 l.sy,.slice a1.a a1.n a1.c,.slice b1.a b1.n b1.c,.int .i64 l.f.1,.int .i64 l.f.2.1,.int .i64 l.f.2.2.1,.int .i64 l.f.2.2.2,.int .i64 l.bans,.slice none 0 0]
  f6:D 6=true→D 5=true∧s41=.slice (some ⟨q,0,none⟩) 1 1∧N≤q∧Blk w q 65 #[.int .i64 l.id,.int .i64 l.ticks,.int .i64 l.sx,.int .i64 l.sy,.slice a1.a a1.n a1.c,.slice b1.a b1.n b1.c,.int .i64 l.f.1,.int .i64 l.f.2.1,.int .i64 l.f.2.2.1,.int .i64 l.f.2.2.2,.int .i64 l.bans,.slice none 0 0]
  f8:D 8=true→s43=.pointer (some ⟨o,0,none⟩)
section
variable {o:Nat} {t:Sl} {i:Nat} {l:Lvl} {ws gs:Sl} {N:Nat} {wr:World} {D:Nat→Bool} {s35 s36 s37 s38 s39 s40 s41 s42 s43:Value} {a1 b1:Sl} {q:Nat} {w w':World}
end
structure L2 (o:Nat) (P1:Value→World→Prop) (P2:World→Prop) (D:Nat→Bool) (s42 s43:Value) (w:World):Prop where
  all:∀ j,j<8→D j=true
  f8:D 8=true→s43=.pointer (some ⟨o,0,none⟩)
  old:D 9=false→P1 s42 w
  fin:D 9=true→P2 w
def LvP (w0:World) (B o n:Nat) (k g:Sl) (S:Svc) (A:Option Addr) (c:Nat) (c0:Value) (X:World):Prop :=
  OwS B X.heap.size X ⟨A,n,c⟩ k g S∧Below w0.heap.size w0 X∧Blk X (w0.heap.size+2) 42 #[.slice none 0 0,.slice none 0 0,.slice none 0 0]∧Blk X o 42 #[c0,.slice k.a k.n k.c,.slice g.a g.n g.c]
theorem LvP.store {w0 X:World} {B o n:Nat} {k g:Sl} {S:Svc} {A:Option Addr} {c:Nat} {c0:Value} (h:LvP w0 B o n k g S A c c0 X) (ho:w0.heap.size+2<o) (c1:Value):LvP w0 B o n k g S A c c1 (X.setCell ⟨o,0,none⟩ c1):=by
  obtain ⟨⟨⟨xs,h1,h2⟩,h3,h4,h5⟩,hb,hr,hk⟩:=h
  have hg:X.grownBy (X.setCell ⟨o,0,none⟩ c1) (ownB (some ⟨o,0,none⟩) 1):=by
    rw [ownB_some (by decide)]
    exact Only.set_ (p:=⟨o,0,none⟩) (Only.refl o X) (.inl rfl) _
  have hO:Ow 0 X 42 3 (some ⟨o,0,none⟩) 1 1 [c0,.slice k.a k.n k.c,.slice g.a g.n g.c]:=Ow.of_blk hk rfl (by decide) (Nat.zero_le _)
  have hsz:X.heap.size≤(X.setCell ⟨o,0,none⟩ c1).heap.size:=hg.size
  refine ⟨OwS.mono (lo:=B) (hi:=X.heap.size) ⟨⟨xs,h1,⟨h2.1.apart hO (by decide) hg,fun x hx=>?_,h2.2.2⟩⟩,h3.apart hO (by decide) hg,h4.apart hO (by decide) hg,h5⟩ (Nat.le_refl _) hsz,hb.setCell (by simp;omega) _,hr.far (by simp;omega) _,hk.set_ 0 _⟩
  obtain ⟨⟨q1,q2,q3⟩,q4,q5⟩:=h2.2.1 x hx
  exact ⟨⟨q1.apart hO (by decide) hg,q2.apart hO (by decide) hg,q3⟩,q4.apart hO (by decide) hg,q5⟩
theorem lv_insert {w0 W W':World} {B m hi o i c c' n:Nat} {A A' Ab:Option Addr} {k g a b:Sl} {S:Svc} {xs:List Row} {l:Lvl} {c0:Value} (hx:xs.map (·.2)=S.ts) (hT:OwTs B m W ⟨A,n,c⟩ xs) (hK:OwZ B m W k S.keys) (hG:OwZ B m W g S.tags) (hnd:(blkOf k ++ blkOf g).Nodup∧k.n≤1048576∧g.n≤1048576)
    (hL:OwL m hi W l a b) (hn:(blkOf a ++ blkOf b).Nodup) (hBm:B≤m) (hmh:m≤hi) (hiW:hi≤W.heap.size) (hO:Ow B W' 65 12 A' (n+1) c' ((cellsT xs).take (i * 12) ++ encT (((⟨a,b,⟨Ab,0,0⟩⟩,⟨l,[]⟩):Row)) ++ (cellsT xs).drop (i * 12)))
    (hbl:Below B W W') (hg:W.grownBy W' (ownB A c)) (hn4:n≤4) (hw0:Below w0.heap.size w0 W) (hB0:w0.heap.size≤B) (hr:Blk W (w0.heap.size+2) 42 #[.slice none 0 0,.slice none 0 0,.slice none 0 0]) (ho:Blk W o 42 #[c0,.slice k.a k.n k.c,.slice g.a g.n g.c]) :
    LvP w0 B o (n+1) k g ⟨S.ts.take i ++ ⟨l,[]⟩ :: S.ts.drop i,S.keys,S.tags⟩ A' c' c0 W':=by
  have hs:W.heap.size≤W'.heap.size:=hg.size
  have hmW:m≤W'.heap.size:=by omega
  have hy:OwT m hi W ((⟨a,b,⟨Ab,0,0⟩⟩,⟨l,[]⟩):Row):=⟨hL,OwI.bare _ _ _ _ _ _,by show (0:Nat)≤1048576;omega⟩
  refine ⟨⟨⟨xs.take i ++ ((⟨a,b,⟨Ab,0,0⟩⟩,⟨l,[]⟩):Row) :: xs.drop i,?_,OwTs.insert hT hy hn hBm hmh (by omega) (OwI.of hO).2 hO hg (by omega)⟩,(hK.apart hT.1.ow (by decide) hg).mono (Nat.le_refl _) hmW,(hG.apart hT.1.ow (by decide) hg).mono (Nat.le_refl _) hmW,hnd⟩,hw0.trans (hbl.mono hB0),blk_apart' hr hT.1.ow (by decide) hg,blk_apart' ho hT.1.ow (by decide) hg⟩
  simp [← hx,List.map_take,List.map_drop]
structure LS (o:Nat) (t:Sl) (i:Nat) (y:Row) (xs:List Row) (N:Nat) (wr:World) (D:Nat→Bool) (s55 s56 s57 s58 s59 s60 s61 s62 s63 s64 s65 s66 s67 s69:Value) (q:Nat) (A5:Option Addr) (c5:Nat) (A8:Option Addr) (c8:Nat) (w:World):Prop where
  bel:Below wr.heap.size wr w
  hN:N=wr.heap.size
  f0:D 0=true→∃ A,s55=.slice A 0 0
  f1:D 1=true→s56=.pointer (some ⟨o,0,none⟩)
  f2:D 2=true→s57=.slice t.a t.n t.c
  f3:D 3=true→s58=.int .i64 i
  f4:D 4=true→s59=.slice t.a i t.c
  f5:D 5=true→s60=.slice A5 i c5∧(D 8=false→Ow N w 65 12 A5 i c5 ((cellsT xs).take (i * 12)))
  f6:D 6=true→s61=.agg #[.int .i64 y.2.l.id,.int .i64 y.2.l.ticks,.int .i64 y.2.l.sx,.int .i64 y.2.l.sy,.slice y.1.w.a y.1.w.n y.1.w.c,.slice y.1.g.a y.1.g.n y.1.g.c,.int .i64 y.2.l.f.1,.int .i64 y.2.l.f.2.1,.int .i64 y.2.l.f.2.2.1,.int .i64 y.2.l.f.2.2.2,.int .i64 y.2.l.bans,.slice y.1.b.a y.1.b.n y.1.b.c]
  f7:D 7=true→s62=.slice (some ⟨q,0,none⟩) 1 1∧(D 8=false→Blk w q 65 #[.int .i64 y.2.l.id,.int .i64 y.2.l.ticks,.int .i64 y.2.l.sx,.int .i64 y.2.l.sy,.slice y.1.w.a y.1.w.n y.1.w.c,.slice y.1.g.a y.1.g.n y.1.g.c,.int .i64 y.2.l.f.1,.int .i64 y.2.l.f.2.1,.int .i64 y.2.l.f.2.2.1,.int .i64 y.2.l.f.2.2.2,.int .i64 y.2.l.bans,.slice y.1.b.a y.1.b.n y.1.b.c])
  f8:D 8=true→s63=.slice A8 (i+1) c8∧Ow N w 65 12 A8 (i+1) c8 (((cellsT xs).take (i * 12)) ++ encT y)
  f9:D 9=true→s64=.pointer (some ⟨o,0,none⟩)
  f10:D 10=true→s65=.slice t.a t.n t.c
  f11:D 11=true→s66=.int .i64 i
  f12:D 12=true→∃ A c,s67=.slice A (t.n - i) c∧∀ W,Below wr.heap.size wr W→Src W 12 A (t.n - i) ((cellsT xs).drop (i * 12))
  f14:D 14=true→s69=.pointer (some ⟨o,0,none⟩)
section
variable {o:Nat} {t:Sl} {i:Nat} {y:Row} {xs:List Row} {N:Nat} {wr:World} {D:Nat→Bool} {s55 s56 s57 s58 s59 s60 s61 s62 s63 s64 s65 s66 s67 s69:Value} {q:Nat} {A5:Option Addr} {c5:Nat} {A8:Option Addr} {c8:Nat} {w w':World}
theorem LS.next (h:LS o t i y xs N wr D s55 s56 s57 s58 s59 s60 s61 s62 s63 s64 s65 s66 s67 s69 q A5 c5 A8 c8 w) (hb:Below w.heap.size w w'):LS o t i y xs N wr D s55 s56 s57 s58 s59 s60 s61 s62 s63 s64 s65 s66 s67 s69 q A5 c5 A8 c8 w' :=
  { h with
    bel:=below_next h.bel hb
    f5:=fun q'=>by obtain ⟨e,h1⟩:=h.f5 q';exact ⟨e,fun q8=>(h1 q8).next hb⟩
    f7:=fun q'=>by obtain ⟨e,h1⟩:=h.f7 q';exact ⟨e,fun q8=>(h1 q8).next hb⟩
    f8:=fun q'=>by obtain ⟨e,h1⟩:=h.f8 q';exact ⟨e,h1.next hb⟩ }

theorem LS.u0 (h:LS o t i y xs N wr D s55 s56 s57 s58 s59 s60 s61 s62 s63 s64 s65 s66 s67 s69 q A5 c5 A8 c8 w) (hi:D 0=false) (A:Option Addr):LS o t i y xs N wr (upd D 0) (.slice A 0 0) s56 s57 s58 s59 s60 s61 s62 s63 s64 s65 s66 s67 s69 q A5 c5 A8 c8 w :=
  { bel:=h.bel
    hN:=h.hN
    f0:=fun _=>⟨A,rfl⟩
    f1:=fun q'=>h.f1 (by rw [upd_ne _ (by decide)] at q';exact q')
    f2:=fun q'=>h.f2 (by rw [upd_ne _ (by decide)] at q';exact q')
    f3:=fun q'=>h.f3 (by rw [upd_ne _ (by decide)] at q';exact q')
    f4:=fun q'=>h.f4 (by rw [upd_ne _ (by decide)] at q';exact q')
    f5:=fun q'=>⟨(h.f5 (by rw [upd_ne _ (by decide)] at q';exact q')).1,fun q8=>(h.f5 (by rw [upd_ne _ (by decide)] at q';exact q')).2 (by rw [upd_ne _ (by decide)] at q8;exact q8)⟩
    f6:=fun q'=>h.f6 (by rw [upd_ne _ (by decide)] at q';exact q')
    f7:=fun q'=>⟨(h.f7 (by rw [upd_ne _ (by decide)] at q';exact q')).1,fun q8=>(h.f7 (by rw [upd_ne _ (by decide)] at q';exact q')).2 (by rw [upd_ne _ (by decide)] at q8;exact q8)⟩
    f8:=fun q'=>h.f8 (by rw [upd_ne _ (by decide)] at q';exact q')
    f9:=fun q'=>h.f9 (by rw [upd_ne _ (by decide)] at q';exact q')
    f10:=fun q'=>h.f10 (by rw [upd_ne _ (by decide)] at q';exact q')
    f11:=fun q'=>h.f11 (by rw [upd_ne _ (by decide)] at q';exact q')
    f12:=fun q'=>h.f12 (by rw [upd_ne _ (by decide)] at q';exact q')
    f14:=fun q'=>h.f14 (by rw [upd_ne _ (by decide)] at q';exact q') }
theorem LS.u1 (h:LS o t i y xs N wr D s55 s56 s57 s58 s59 s60 s61 s62 s63 s64 s65 s66 s67 s69 q A5 c5 A8 c8 w) (hi:D 1=false)  : LS o t i y xs N wr (upd D 1) s55 (.pointer (some ⟨o,0,none⟩)) s57 s58 s59 s60 s61 s62 s63 s64 s65 s66 s67 s69 q A5 c5 A8 c8 w :=
  { bel:=h.bel
    hN:=h.hN
    f0:=fun q'=>h.f0 (by rw [upd_ne _ (by decide)] at q';exact q')
    f1:=fun _=>rfl
    f2:=fun q'=>h.f2 (by rw [upd_ne _ (by decide)] at q';exact q')
    f3:=fun q'=>h.f3 (by rw [upd_ne _ (by decide)] at q';exact q')
    f4:=fun q'=>h.f4 (by rw [upd_ne _ (by decide)] at q';exact q')
    f5:=fun q'=>⟨(h.f5 (by rw [upd_ne _ (by decide)] at q';exact q')).1,fun q8=>(h.f5 (by rw [upd_ne _ (by decide)] at q';exact q')).2 (by rw [upd_ne _ (by decide)] at q8;exact q8)⟩
    f6:=fun q'=>h.f6 (by rw [upd_ne _ (by decide)] at q';exact q')
    f7:=fun q'=>⟨(h.f7 (by rw [upd_ne _ (by decide)] at q';exact q')).1,fun q8=>(h.f7 (by rw [upd_ne _ (by decide)] at q';exact q')).2 (by rw [upd_ne _ (by decide)] at q8;exact q8)⟩
    f8:=fun q'=>h.f8 (by rw [upd_ne _ (by decide)] at q';exact q')
    f9:=fun q'=>h.f9 (by rw [upd_ne _ (by decide)] at q';exact q')
    f10:=fun q'=>h.f10 (by rw [upd_ne _ (by decide)] at q';exact q')
    f11:=fun q'=>h.f11 (by rw [upd_ne _ (by decide)] at q';exact q')
    f12:=fun q'=>h.f12 (by rw [upd_ne _ (by decide)] at q';exact q')
    f14:=fun q'=>h.f14 (by rw [upd_ne _ (by decide)] at q';exact q') }
theorem LS.u2 (h:LS o t i y xs N wr D s55 s56 s57 s58 s59 s60 s61 s62 s63 s64 s65 s66 s67 s69 q A5 c5 A8 c8 w) (hi:D 2=false)  : LS o t i y xs N wr (upd D 2) s55 s56 (.slice t.a t.n t.c) s58 s59 s60 s61 s62 s63 s64 s65 s66 s67 s69 q A5 c5 A8 c8 w :=
  { bel:=h.bel
    hN:=h.hN
    f0:=fun q'=>h.f0 (by rw [upd_ne _ (by decide)] at q';exact q')
    f1:=fun q'=>h.f1 (by rw [upd_ne _ (by decide)] at q';exact q')
    f2:=fun _=>rfl
    f3:=fun q'=>h.f3 (by rw [upd_ne _ (by decide)] at q';exact q')
    f4:=fun q'=>h.f4 (by rw [upd_ne _ (by decide)] at q';exact q')
    f5:=fun q'=>⟨(h.f5 (by rw [upd_ne _ (by decide)] at q';exact q')).1,fun q8=>(h.f5 (by rw [upd_ne _ (by decide)] at q';exact q')).2 (by rw [upd_ne _ (by decide)] at q8;exact q8)⟩
    f6:=fun q'=>h.f6 (by rw [upd_ne _ (by decide)] at q';exact q')
    f7:=fun q'=>⟨(h.f7 (by rw [upd_ne _ (by decide)] at q';exact q')).1,fun q8=>(h.f7 (by rw [upd_ne _ (by decide)] at q';exact q')).2 (by rw [upd_ne _ (by decide)] at q8;exact q8)⟩
    f8:=fun q'=>h.f8 (by rw [upd_ne _ (by decide)] at q';exact q')
    f9:=fun q'=>h.f9 (by rw [upd_ne _ (by decide)] at q';exact q')
    f10:=fun q'=>h.f10 (by rw [upd_ne _ (by decide)] at q';exact q')
    f11:=fun q'=>h.f11 (by rw [upd_ne _ (by decide)] at q';exact q')
    f12:=fun q'=>h.f12 (by rw [upd_ne _ (by decide)] at q';exact q')
    f14:=fun q'=>h.f14 (by rw [upd_ne _ (by decide)] at q';exact q') }
theorem LS.u3 (h:LS o t i y xs N wr D s55 s56 s57 s58 s59 s60 s61 s62 s63 s64 s65 s66 s67 s69 q A5 c5 A8 c8 w) (hi:D 3=false)  : LS o t i y xs N wr (upd D 3) s55 s56 s57 (.int .i64 i) s59 s60 s61 s62 s63 s64 s65 s66 s67 s69 q A5 c5 A8 c8 w :=
  { bel:=h.bel
    hN:=h.hN
    f0:=fun q'=>h.f0 (by rw [upd_ne _ (by decide)] at q';exact q')
    f1:=fun q'=>h.f1 (by rw [upd_ne _ (by decide)] at q';exact q')
    f2:=fun q'=>h.f2 (by rw [upd_ne _ (by decide)] at q';exact q')
    f3:=fun _=>rfl
    f4:=fun q'=>h.f4 (by rw [upd_ne _ (by decide)] at q';exact q')
    f5:=fun q'=>⟨(h.f5 (by rw [upd_ne _ (by decide)] at q';exact q')).1,fun q8=>(h.f5 (by rw [upd_ne _ (by decide)] at q';exact q')).2 (by rw [upd_ne _ (by decide)] at q8;exact q8)⟩
    f6:=fun q'=>h.f6 (by rw [upd_ne _ (by decide)] at q';exact q')
    f7:=fun q'=>⟨(h.f7 (by rw [upd_ne _ (by decide)] at q';exact q')).1,fun q8=>(h.f7 (by rw [upd_ne _ (by decide)] at q';exact q')).2 (by rw [upd_ne _ (by decide)] at q8;exact q8)⟩
    f8:=fun q'=>h.f8 (by rw [upd_ne _ (by decide)] at q';exact q')
    f9:=fun q'=>h.f9 (by rw [upd_ne _ (by decide)] at q';exact q')
    f10:=fun q'=>h.f10 (by rw [upd_ne _ (by decide)] at q';exact q')
    f11:=fun q'=>h.f11 (by rw [upd_ne _ (by decide)] at q';exact q')
    f12:=fun q'=>h.f12 (by rw [upd_ne _ (by decide)] at q';exact q')
    f14:=fun q'=>h.f14 (by rw [upd_ne _ (by decide)] at q';exact q') }
theorem LS.u4 (h:LS o t i y xs N wr D s55 s56 s57 s58 s59 s60 s61 s62 s63 s64 s65 s66 s67 s69 q A5 c5 A8 c8 w) (hi:D 4=false)  : LS o t i y xs N wr (upd D 4) s55 s56 s57 s58 (.slice t.a i t.c) s60 s61 s62 s63 s64 s65 s66 s67 s69 q A5 c5 A8 c8 w :=
  { bel:=h.bel
    hN:=h.hN
    f0:=fun q'=>h.f0 (by rw [upd_ne _ (by decide)] at q';exact q')
    f1:=fun q'=>h.f1 (by rw [upd_ne _ (by decide)] at q';exact q')
    f2:=fun q'=>h.f2 (by rw [upd_ne _ (by decide)] at q';exact q')
    f3:=fun q'=>h.f3 (by rw [upd_ne _ (by decide)] at q';exact q')
    f4:=fun _=>rfl
    f5:=fun q'=>⟨(h.f5 (by rw [upd_ne _ (by decide)] at q';exact q')).1,fun q8=>(h.f5 (by rw [upd_ne _ (by decide)] at q';exact q')).2 (by rw [upd_ne _ (by decide)] at q8;exact q8)⟩
    f6:=fun q'=>h.f6 (by rw [upd_ne _ (by decide)] at q';exact q')
    f7:=fun q'=>⟨(h.f7 (by rw [upd_ne _ (by decide)] at q';exact q')).1,fun q8=>(h.f7 (by rw [upd_ne _ (by decide)] at q';exact q')).2 (by rw [upd_ne _ (by decide)] at q8;exact q8)⟩
    f8:=fun q'=>h.f8 (by rw [upd_ne _ (by decide)] at q';exact q')
    f9:=fun q'=>h.f9 (by rw [upd_ne _ (by decide)] at q';exact q')
    f10:=fun q'=>h.f10 (by rw [upd_ne _ (by decide)] at q';exact q')
    f11:=fun q'=>h.f11 (by rw [upd_ne _ (by decide)] at q';exact q')
    f12:=fun q'=>h.f12 (by rw [upd_ne _ (by decide)] at q';exact q')
    f14:=fun q'=>h.f14 (by rw [upd_ne _ (by decide)] at q';exact q') }
theorem LS.u5 (h:LS o t i y xs N wr D s55 s56 s57 s58 s59 s60 s61 s62 s63 s64 s65 s66 s67 s69 q A5 c5 A8 c8 w) (hi:D 5=false) (A:Option Addr) (c:Nat) (ho:Ow N w 65 12 A i c ((cellsT xs).take (i * 12))):LS o t i y xs N wr (upd D 5) s55 s56 s57 s58 s59 (.slice A i c) s61 s62 s63 s64 s65 s66 s67 s69 q A c A8 c8 w :=
  { bel:=h.bel
    hN:=h.hN
    f0:=fun q'=>h.f0 (by rw [upd_ne _ (by decide)] at q';exact q')
    f1:=fun q'=>h.f1 (by rw [upd_ne _ (by decide)] at q';exact q')
    f2:=fun q'=>h.f2 (by rw [upd_ne _ (by decide)] at q';exact q')
    f3:=fun q'=>h.f3 (by rw [upd_ne _ (by decide)] at q';exact q')
    f4:=fun q'=>h.f4 (by rw [upd_ne _ (by decide)] at q';exact q')
    f5:=fun _=>⟨rfl,fun _=>ho⟩
    f6:=fun q'=>h.f6 (by rw [upd_ne _ (by decide)] at q';exact q')
    f7:=fun q'=>⟨(h.f7 (by rw [upd_ne _ (by decide)] at q';exact q')).1,fun q8=>(h.f7 (by rw [upd_ne _ (by decide)] at q';exact q')).2 (by rw [upd_ne _ (by decide)] at q8;exact q8)⟩
    f8:=fun q'=>h.f8 (by rw [upd_ne _ (by decide)] at q';exact q')
    f9:=fun q'=>h.f9 (by rw [upd_ne _ (by decide)] at q';exact q')
    f10:=fun q'=>h.f10 (by rw [upd_ne _ (by decide)] at q';exact q')
    f11:=fun q'=>h.f11 (by rw [upd_ne _ (by decide)] at q';exact q')
    f12:=fun q'=>h.f12 (by rw [upd_ne _ (by decide)] at q';exact q')
    f14:=fun q'=>h.f14 (by rw [upd_ne _ (by decide)] at q';exact q') }
theorem LS.u6 (h:LS o t i y xs N wr D s55 s56 s57 s58 s59 s60 s61 s62 s63 s64 s65 s66 s67 s69 q A5 c5 A8 c8 w) (hi:D 6=false)  : LS o t i y xs N wr (upd D 6) s55 s56 s57 s58 s59 s60 (.agg #[.int .i64 y.2.l.id,.int .i64 y.2.l.ticks,.int .i64 y.2.l.sx,.int .i64 y.2.l.sy,.slice y.1.w.a y.1.w.n y.1.w.c,.slice y.1.g.a y.1.g.n y.1.g.c,.int .i64 y.2.l.f.1,.int .i64 y.2.l.f.2.1,.int .i64 y.2.l.f.2.2.1,.int .i64 y.2.l.f.2.2.2,.int .i64 y.2.l.bans,.slice y.1.b.a y.1.b.n y.1.b.c]) s62 s63 s64 s65 s66 s67 s69 q A5 c5 A8 c8 w :=
  { bel:=h.bel
    hN:=h.hN
    f0:=fun q'=>h.f0 (by rw [upd_ne _ (by decide)] at q';exact q')
    f1:=fun q'=>h.f1 (by rw [upd_ne _ (by decide)] at q';exact q')
    f2:=fun q'=>h.f2 (by rw [upd_ne _ (by decide)] at q';exact q')
    f3:=fun q'=>h.f3 (by rw [upd_ne _ (by decide)] at q';exact q')
    f4:=fun q'=>h.f4 (by rw [upd_ne _ (by decide)] at q';exact q')
    f5:=fun q'=>⟨(h.f5 (by rw [upd_ne _ (by decide)] at q';exact q')).1,fun q8=>(h.f5 (by rw [upd_ne _ (by decide)] at q';exact q')).2 (by rw [upd_ne _ (by decide)] at q8;exact q8)⟩
    f6:=fun _=>rfl
    f7:=fun q'=>⟨(h.f7 (by rw [upd_ne _ (by decide)] at q';exact q')).1,fun q8=>(h.f7 (by rw [upd_ne _ (by decide)] at q';exact q')).2 (by rw [upd_ne _ (by decide)] at q8;exact q8)⟩
    f8:=fun q'=>h.f8 (by rw [upd_ne _ (by decide)] at q';exact q')
    f9:=fun q'=>h.f9 (by rw [upd_ne _ (by decide)] at q';exact q')
    f10:=fun q'=>h.f10 (by rw [upd_ne _ (by decide)] at q';exact q')
    f11:=fun q'=>h.f11 (by rw [upd_ne _ (by decide)] at q';exact q')
    f12:=fun q'=>h.f12 (by rw [upd_ne _ (by decide)] at q';exact q')
    f14:=fun q'=>h.f14 (by rw [upd_ne _ (by decide)] at q';exact q') }
theorem LS.u7 (h:LS o t i y xs N wr D s55 s56 s57 s58 s59 s60 s61 s62 s63 s64 s65 s66 s67 s69 q A5 c5 A8 c8 w) (hi:D 7=false) (q2:Nat) (hb:Blk w q2 65 #[.int .i64 y.2.l.id,.int .i64 y.2.l.ticks,.int .i64 y.2.l.sx,.int .i64 y.2.l.sy,.slice y.1.w.a y.1.w.n y.1.w.c,.slice y.1.g.a y.1.g.n y.1.g.c,.int .i64 y.2.l.f.1,.int .i64 y.2.l.f.2.1,.int .i64 y.2.l.f.2.2.1,.int .i64 y.2.l.f.2.2.2,.int .i64 y.2.l.bans,.slice y.1.b.a y.1.b.n y.1.b.c]):LS o t i y xs N wr (upd D 7) s55 s56 s57 s58 s59 s60 s61 (.slice (some ⟨q2,0,none⟩) 1 1) s63 s64 s65 s66 s67 s69 q2 A5 c5 A8 c8 w :=
  { bel:=h.bel
    hN:=h.hN
    f0:=fun q'=>h.f0 (by rw [upd_ne _ (by decide)] at q';exact q')
    f1:=fun q'=>h.f1 (by rw [upd_ne _ (by decide)] at q';exact q')
    f2:=fun q'=>h.f2 (by rw [upd_ne _ (by decide)] at q';exact q')
    f3:=fun q'=>h.f3 (by rw [upd_ne _ (by decide)] at q';exact q')
    f4:=fun q'=>h.f4 (by rw [upd_ne _ (by decide)] at q';exact q')
    f5:=fun q'=>⟨(h.f5 (by rw [upd_ne _ (by decide)] at q';exact q')).1,fun q8=>(h.f5 (by rw [upd_ne _ (by decide)] at q';exact q')).2 (by rw [upd_ne _ (by decide)] at q8;exact q8)⟩
    f6:=fun q'=>h.f6 (by rw [upd_ne _ (by decide)] at q';exact q')
    f7:=fun _=>⟨rfl,fun _=>hb⟩
    f8:=fun q'=>h.f8 (by rw [upd_ne _ (by decide)] at q';exact q')
    f9:=fun q'=>h.f9 (by rw [upd_ne _ (by decide)] at q';exact q')
    f10:=fun q'=>h.f10 (by rw [upd_ne _ (by decide)] at q';exact q')
    f11:=fun q'=>h.f11 (by rw [upd_ne _ (by decide)] at q';exact q')
    f12:=fun q'=>h.f12 (by rw [upd_ne _ (by decide)] at q';exact q')
    f14:=fun q'=>h.f14 (by rw [upd_ne _ (by decide)] at q';exact q') }
theorem LS.u8 (h:LS o t i y xs N wr D s55 s56 s57 s58 s59 s60 s61 s62 s63 s64 s65 s66 s67 s69 q A5 c5 A8 c8 w) (hi:D 8=false) (A:Option Addr) (c:Nat) (hb:Below wr.heap.size wr w') (ho:Ow N w' 65 12 A (i+1) c (((cellsT xs).take (i * 12)) ++ encT y)):LS o t i y xs N wr (upd D 8) s55 s56 s57 s58 s59 s60 s61 s62 (.slice A (i+1) c) s64 s65 s66 s67 s69 q A5 c5 A c w' :=
  { bel:=hb
    hN:=h.hN
    f0:=fun q'=>h.f0 (by rw [upd_ne _ (by decide)] at q';exact q')
    f1:=fun q'=>h.f1 (by rw [upd_ne _ (by decide)] at q';exact q')
    f2:=fun q'=>h.f2 (by rw [upd_ne _ (by decide)] at q';exact q')
    f3:=fun q'=>h.f3 (by rw [upd_ne _ (by decide)] at q';exact q')
    f4:=fun q'=>h.f4 (by rw [upd_ne _ (by decide)] at q';exact q')
    f5:=fun q'=>⟨(h.f5 (by rw [upd_ne _ (by decide)] at q';exact q')).1,fun q8=>by rw [upd_self] at q8;cases q8⟩
    f6:=fun q'=>h.f6 (by rw [upd_ne _ (by decide)] at q';exact q')
    f7:=fun q'=>⟨(h.f7 (by rw [upd_ne _ (by decide)] at q';exact q')).1,fun q8=>by rw [upd_self] at q8;cases q8⟩
    f8:=fun _=>⟨rfl,ho⟩
    f9:=fun q'=>h.f9 (by rw [upd_ne _ (by decide)] at q';exact q')
    f10:=fun q'=>h.f10 (by rw [upd_ne _ (by decide)] at q';exact q')
    f11:=fun q'=>h.f11 (by rw [upd_ne _ (by decide)] at q';exact q')
    f12:=fun q'=>h.f12 (by rw [upd_ne _ (by decide)] at q';exact q')
    f14:=fun q'=>h.f14 (by rw [upd_ne _ (by decide)] at q';exact q') }
theorem LS.u9 (h:LS o t i y xs N wr D s55 s56 s57 s58 s59 s60 s61 s62 s63 s64 s65 s66 s67 s69 q A5 c5 A8 c8 w) (hi:D 9=false)  : LS o t i y xs N wr (upd D 9) s55 s56 s57 s58 s59 s60 s61 s62 s63 (.pointer (some ⟨o,0,none⟩)) s65 s66 s67 s69 q A5 c5 A8 c8 w :=
  { bel:=h.bel
    hN:=h.hN
    f0:=fun q'=>h.f0 (by rw [upd_ne _ (by decide)] at q';exact q')
    f1:=fun q'=>h.f1 (by rw [upd_ne _ (by decide)] at q';exact q')
    f2:=fun q'=>h.f2 (by rw [upd_ne _ (by decide)] at q';exact q')
    f3:=fun q'=>h.f3 (by rw [upd_ne _ (by decide)] at q';exact q')
    f4:=fun q'=>h.f4 (by rw [upd_ne _ (by decide)] at q';exact q')
    f5:=fun q'=>⟨(h.f5 (by rw [upd_ne _ (by decide)] at q';exact q')).1,fun q8=>(h.f5 (by rw [upd_ne _ (by decide)] at q';exact q')).2 (by rw [upd_ne _ (by decide)] at q8;exact q8)⟩
    f6:=fun q'=>h.f6 (by rw [upd_ne _ (by decide)] at q';exact q')
    f7:=fun q'=>⟨(h.f7 (by rw [upd_ne _ (by decide)] at q';exact q')).1,fun q8=>(h.f7 (by rw [upd_ne _ (by decide)] at q';exact q')).2 (by rw [upd_ne _ (by decide)] at q8;exact q8)⟩
    f8:=fun q'=>h.f8 (by rw [upd_ne _ (by decide)] at q';exact q')
    f9:=fun _=>rfl
    f10:=fun q'=>h.f10 (by rw [upd_ne _ (by decide)] at q';exact q')
    f11:=fun q'=>h.f11 (by rw [upd_ne _ (by decide)] at q';exact q')
    f12:=fun q'=>h.f12 (by rw [upd_ne _ (by decide)] at q';exact q')
    f14:=fun q'=>h.f14 (by rw [upd_ne _ (by decide)] at q';exact q') }
theorem LS.u10 (h:LS o t i y xs N wr D s55 s56 s57 s58 s59 s60 s61 s62 s63 s64 s65 s66 s67 s69 q A5 c5 A8 c8 w) (hi:D 10=false)  : LS o t i y xs N wr (upd D 10) s55 s56 s57 s58 s59 s60 s61 s62 s63 s64 (.slice t.a t.n t.c) s66 s67 s69 q A5 c5 A8 c8 w :=
  { bel:=h.bel
    hN:=h.hN
    f0:=fun q'=>h.f0 (by rw [upd_ne _ (by decide)] at q';exact q')
    f1:=fun q'=>h.f1 (by rw [upd_ne _ (by decide)] at q';exact q')
    f2:=fun q'=>h.f2 (by rw [upd_ne _ (by decide)] at q';exact q')
    f3:=fun q'=>h.f3 (by rw [upd_ne _ (by decide)] at q';exact q')
    f4:=fun q'=>h.f4 (by rw [upd_ne _ (by decide)] at q';exact q')
    f5:=fun q'=>⟨(h.f5 (by rw [upd_ne _ (by decide)] at q';exact q')).1,fun q8=>(h.f5 (by rw [upd_ne _ (by decide)] at q';exact q')).2 (by rw [upd_ne _ (by decide)] at q8;exact q8)⟩
    f6:=fun q'=>h.f6 (by rw [upd_ne _ (by decide)] at q';exact q')
    f7:=fun q'=>⟨(h.f7 (by rw [upd_ne _ (by decide)] at q';exact q')).1,fun q8=>(h.f7 (by rw [upd_ne _ (by decide)] at q';exact q')).2 (by rw [upd_ne _ (by decide)] at q8;exact q8)⟩
    f8:=fun q'=>h.f8 (by rw [upd_ne _ (by decide)] at q';exact q')
    f9:=fun q'=>h.f9 (by rw [upd_ne _ (by decide)] at q';exact q')
    f10:=fun _=>rfl
    f11:=fun q'=>h.f11 (by rw [upd_ne _ (by decide)] at q';exact q')
    f12:=fun q'=>h.f12 (by rw [upd_ne _ (by decide)] at q';exact q')
    f14:=fun q'=>h.f14 (by rw [upd_ne _ (by decide)] at q';exact q') }
theorem LS.u11 (h:LS o t i y xs N wr D s55 s56 s57 s58 s59 s60 s61 s62 s63 s64 s65 s66 s67 s69 q A5 c5 A8 c8 w) (hi:D 11=false)  : LS o t i y xs N wr (upd D 11) s55 s56 s57 s58 s59 s60 s61 s62 s63 s64 s65 (.int .i64 i) s67 s69 q A5 c5 A8 c8 w :=
  { bel:=h.bel
    hN:=h.hN
    f0:=fun q'=>h.f0 (by rw [upd_ne _ (by decide)] at q';exact q')
    f1:=fun q'=>h.f1 (by rw [upd_ne _ (by decide)] at q';exact q')
    f2:=fun q'=>h.f2 (by rw [upd_ne _ (by decide)] at q';exact q')
    f3:=fun q'=>h.f3 (by rw [upd_ne _ (by decide)] at q';exact q')
    f4:=fun q'=>h.f4 (by rw [upd_ne _ (by decide)] at q';exact q')
    f5:=fun q'=>⟨(h.f5 (by rw [upd_ne _ (by decide)] at q';exact q')).1,fun q8=>(h.f5 (by rw [upd_ne _ (by decide)] at q';exact q')).2 (by rw [upd_ne _ (by decide)] at q8;exact q8)⟩
    f6:=fun q'=>h.f6 (by rw [upd_ne _ (by decide)] at q';exact q')
    f7:=fun q'=>⟨(h.f7 (by rw [upd_ne _ (by decide)] at q';exact q')).1,fun q8=>(h.f7 (by rw [upd_ne _ (by decide)] at q';exact q')).2 (by rw [upd_ne _ (by decide)] at q8;exact q8)⟩
    f8:=fun q'=>h.f8 (by rw [upd_ne _ (by decide)] at q';exact q')
    f9:=fun q'=>h.f9 (by rw [upd_ne _ (by decide)] at q';exact q')
    f10:=fun q'=>h.f10 (by rw [upd_ne _ (by decide)] at q';exact q')
    f11:=fun _=>rfl
    f12:=fun q'=>h.f12 (by rw [upd_ne _ (by decide)] at q';exact q')
    f14:=fun q'=>h.f14 (by rw [upd_ne _ (by decide)] at q';exact q') }
theorem LS.u12 (h:LS o t i y xs N wr D s55 s56 s57 s58 s59 s60 s61 s62 s63 s64 s65 s66 s67 s69 q A5 c5 A8 c8 w) (hi:D 12=false) (A:Option Addr) (c:Nat) (hs:∀ W,Below wr.heap.size wr W→Src W 12 A (t.n - i) ((cellsT xs).drop (i * 12))):LS o t i y xs N wr (upd D 12) s55 s56 s57 s58 s59 s60 s61 s62 s63 s64 s65 s66 (.slice A (t.n - i) c) s69 q A5 c5 A8 c8 w :=
  { bel:=h.bel
    hN:=h.hN
    f0:=fun q'=>h.f0 (by rw [upd_ne _ (by decide)] at q';exact q')
    f1:=fun q'=>h.f1 (by rw [upd_ne _ (by decide)] at q';exact q')
    f2:=fun q'=>h.f2 (by rw [upd_ne _ (by decide)] at q';exact q')
    f3:=fun q'=>h.f3 (by rw [upd_ne _ (by decide)] at q';exact q')
    f4:=fun q'=>h.f4 (by rw [upd_ne _ (by decide)] at q';exact q')
    f5:=fun q'=>⟨(h.f5 (by rw [upd_ne _ (by decide)] at q';exact q')).1,fun q8=>(h.f5 (by rw [upd_ne _ (by decide)] at q';exact q')).2 (by rw [upd_ne _ (by decide)] at q8;exact q8)⟩
    f6:=fun q'=>h.f6 (by rw [upd_ne _ (by decide)] at q';exact q')
    f7:=fun q'=>⟨(h.f7 (by rw [upd_ne _ (by decide)] at q';exact q')).1,fun q8=>(h.f7 (by rw [upd_ne _ (by decide)] at q';exact q')).2 (by rw [upd_ne _ (by decide)] at q8;exact q8)⟩
    f8:=fun q'=>h.f8 (by rw [upd_ne _ (by decide)] at q';exact q')
    f9:=fun q'=>h.f9 (by rw [upd_ne _ (by decide)] at q';exact q')
    f10:=fun q'=>h.f10 (by rw [upd_ne _ (by decide)] at q';exact q')
    f11:=fun q'=>h.f11 (by rw [upd_ne _ (by decide)] at q';exact q')
    f12:=fun _=>⟨A,c,rfl,hs⟩
    f14:=fun q'=>h.f14 (by rw [upd_ne _ (by decide)] at q';exact q') }
theorem LS.u14 (h:LS o t i y xs N wr D s55 s56 s57 s58 s59 s60 s61 s62 s63 s64 s65 s66 s67 s69 q A5 c5 A8 c8 w) (hi:D 14=false)  : LS o t i y xs N wr (upd D 14) s55 s56 s57 s58 s59 s60 s61 s62 s63 s64 s65 s66 s67 (.pointer (some ⟨o,0,none⟩)) q A5 c5 A8 c8 w :=
  { bel:=h.bel
    hN:=h.hN
    f0:=fun q'=>h.f0 (by rw [upd_ne _ (by decide)] at q';exact q')
    f1:=fun q'=>h.f1 (by rw [upd_ne _ (by decide)] at q';exact q')
    f2:=fun q'=>h.f2 (by rw [upd_ne _ (by decide)] at q';exact q')
    f3:=fun q'=>h.f3 (by rw [upd_ne _ (by decide)] at q';exact q')
    f4:=fun q'=>h.f4 (by rw [upd_ne _ (by decide)] at q';exact q')
    f5:=fun q'=>⟨(h.f5 (by rw [upd_ne _ (by decide)] at q';exact q')).1,fun q8=>(h.f5 (by rw [upd_ne _ (by decide)] at q';exact q')).2 (by rw [upd_ne _ (by decide)] at q8;exact q8)⟩
    f6:=fun q'=>h.f6 (by rw [upd_ne _ (by decide)] at q';exact q')
    f7:=fun q'=>⟨(h.f7 (by rw [upd_ne _ (by decide)] at q';exact q')).1,fun q8=>(h.f7 (by rw [upd_ne _ (by decide)] at q';exact q')).2 (by rw [upd_ne _ (by decide)] at q8;exact q8)⟩
    f8:=fun q'=>h.f8 (by rw [upd_ne _ (by decide)] at q';exact q')
    f9:=fun q'=>h.f9 (by rw [upd_ne _ (by decide)] at q';exact q')
    f10:=fun q'=>h.f10 (by rw [upd_ne _ (by decide)] at q';exact q')
    f11:=fun q'=>h.f11 (by rw [upd_ne _ (by decide)] at q';exact q')
    f12:=fun q'=>h.f12 (by rw [upd_ne _ (by decide)] at q';exact q')
    f14:=fun _=>rfl }
end
structure LS2 (o:Nat) (P1:Value→World→Prop) (P2:World→Prop) (D:Nat→Bool) (s68 s69:Value) (w:World):Prop where
  all:∀ j,j<14→D j=true
  f14:D 14=true→s69=.pointer (some ⟨o,0,none⟩)
  old:D 15=false→P1 s68 w
  fin:D 15=true→P2 w
theorem cases16 {i:Nat} (h:i<16):i=0∨i=1∨i=2∨i=3∨i=4∨i=5∨i=6∨i=7∨i=8∨i=9∨i=10∨i=11∨i=12∨i=13∨i=14∨i=15:=by omega
end Go.Proofs.YtkgfmgajhgfgjaaGreatDoor
namespace Go.Proofs.YtkgfmgajhgfgjaaGreatDoor
open Go.RowKit Go.Sort
end Go.Proofs.YtkgfmgajhgfgjaaGreatDoor
namespace Go.Proofs.YtkgfmgajhgfgjaaGreatDoor
open Go.RowKit Go.Sort
theorem grown_of_below {w w':World} (h:Below w.heap.size w w') (o:Option Nat):w.grownBy w' o:=⟨h.os,h.tape,h.output,h.size,fun i hi _=>h.block i hi⟩
end Go.Proofs.YtkgfmgajhgfgjaaGreatDoor

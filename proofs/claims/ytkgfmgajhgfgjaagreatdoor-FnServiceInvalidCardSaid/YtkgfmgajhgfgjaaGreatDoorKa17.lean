/-
  Lemmas and contracts: C1. No condition.
-/
import Derived.Test.YtkgfmgajhgfgjaaGreatDoorKa7
import Derived.Test.YtkgfmgajhgfgjaaGreatDoorKa16
set_option linter.unusedSimpArgs false
set_option linter.unusedVariables false
set_option linter.unusedSectionVars false
namespace Go.Proofs.YtkgfmgajhgfgjaaGreatDoor
open Go.RowKit Go.Sort

def upd (D:Nat→Bool) (i:Nat):Nat→Bool:=fun j=>if j=i then true else D j
def Dl (listed:Array Bool):Nat→Bool:=fun j=>listed.getD j true
theorem Dl_set {listed:Array Bool} {i:Nat} (h:i<listed.size):Dl (listed.setIfInBounds i true)=upd (Dl listed) i:=by
  funext j
  unfold Dl upd
  by_cases e:j=i
  · subst e;rw [getD_set_self h,if_pos rfl]
  · rw [getD_set_other (fun h'=>e h'.symm),if_neg e]
theorem upd_self (D:Nat→Bool) (i:Nat):upd D i i=true:=by simp [upd]
theorem upd_ne (D:Nat→Bool) {i j:Nat} (h:j≠i):upd D i j=D j:=by simp [upd,h]

structure C1 (k g:Sl) (S:Svc) (W:World) (B:Nat) (D:Nat→Bool) (s3 s5 s6 s7 s8 s9 s10 s11 s12 s13 s14:Value) (w:World):Prop where
  bel:Below W.heap.size W w
  f0:D 0=true→∃ A,s5=.slice A 0 0
  f1:D 1=true→∃ A,s6=.slice A 0 0
  f2:D 2=true→s7=.pointer (some ⟨B,1,none⟩)
  f3:D 3=true→s8=.slice k.a k.n k.c
  f4:D 4=true→∃ A c,s9=.slice A k.n c∧OwZ W.heap.size w.heap.size w ⟨A,k.n,c⟩ S.keys
  f5:D 5=true→∃ A,s10=.slice A 0 0
  f6:D 6=true→s11=.pointer (some ⟨B,2,none⟩)
  f7:D 7=true→s12=.slice g.a g.n g.c
  f8:D 8=true→∃ A c,s13=.slice A g.n c∧OwZ W.heap.size w.heap.size w ⟨A,g.n,c⟩ S.tags
  f9:D 9=true→D 0=true∧D 4=true∧D 8=true∧s14=.agg #[s5,s9,s13]
  f10:D 10=true→∃ o,s3=.pointer (some ⟨o,0,none⟩)∧W.heap.size≤o∧o<w.heap.size∧(D 11=false→Blk w o 42 #[.slice none 0 0,.slice none 0 0,.slice none 0 0])
  f11:D 11=true→D 9=true∧D 10=true∧∃ o,s3=.pointer (some ⟨o,0,none⟩)∧Blk w o 42 #[s5,s9,s13]
  nd:D 4=true→D 8=true→∀ A c A' c',s9=.slice A k.n c→s13=.slice A' g.n c'→(blkOf ⟨A,k.n,c⟩ ++ blkOf ⟨A',g.n,c'⟩).Nodup
section
variable {k g:Sl} {S:Svc} {W w w':World} {B:Nat} {D:Nat→Bool} {s3 s5 s6 s7 s8 s9 s10 s11 s12 s13 s14:Value}
theorem C1.next (h:C1 k g S W B D s3 s5 s6 s7 s8 s9 s10 s11 s12 s13 s14 w) (hb:Below w.heap.size w w'):C1 k g S W B D s3 s5 s6 s7 s8 s9 s10 s11 s12 s13 s14 w' :=
  { bel:=below_next h.bel hb
    f0:=h.f0,f1:=h.f1,f2:=h.f2,f3:=h.f3,f5:=h.f5,f6:=h.f6,f7:=h.f7,f9:=h.f9,nd:=h.nd
    f4:=fun q=>by obtain ⟨A,c,e,ho⟩:=h.f4 q;exact ⟨A,c,e,(OwI.next ho hb).mono (Nat.le_refl _) hb.size⟩
    f8:=fun q=>by obtain ⟨A,c,e,ho⟩:=h.f8 q;exact ⟨A,c,e,(OwI.next ho hb).mono (Nat.le_refl _) hb.size⟩
    f10:=fun q=>by obtain ⟨o,e,h1,h2,h3⟩:=h.f10 q;exact ⟨o,e,h1,Nat.lt_of_lt_of_le h2 hb.size,fun q'=>(h3 q').next hb⟩
    f11:=fun q=>by obtain ⟨h1,h2,o,e,h3⟩:=h.f11 q;exact ⟨h1,h2,o,e,h3.next hb⟩ }

theorem C1.u0 (h:C1 k g S W B D s3 s5 s6 s7 s8 s9 s10 s11 s12 s13 s14 w) (hi:D 0=false) (A:Option Addr):C1 k g S W B (upd D 0) s3 (.slice A 0 0) s6 s7 s8 s9 s10 s11 s12 s13 s14 w :=
  { bel:=h.bel
    f0:=fun _=>⟨A,rfl⟩
    f1:=fun q=>h.f1 (by rw [upd_ne _ (by decide)] at q;exact q)
    f2:=fun q=>h.f2 (by rw [upd_ne _ (by decide)] at q;exact q)
    f3:=fun q=>h.f3 (by rw [upd_ne _ (by decide)] at q;exact q)
    f4:=fun q=>h.f4 (by rw [upd_ne _ (by decide)] at q;exact q)
    f5:=fun q=>h.f5 (by rw [upd_ne _ (by decide)] at q;exact q)
    f6:=fun q=>h.f6 (by rw [upd_ne _ (by decide)] at q;exact q)
    f7:=fun q=>h.f7 (by rw [upd_ne _ (by decide)] at q;exact q)
    f8:=fun q=>h.f8 (by rw [upd_ne _ (by decide)] at q;exact q)
    f9:=fun q=>absurd ((h.f9 (by rw [upd_ne _ (by decide)] at q;exact q)).1) (by rw [hi];exact Bool.false_ne_true)
    f10:=fun q=>by
      obtain ⟨o,a,b,c,d⟩:=h.f10 (by rw [upd_ne _ (by decide)] at q;exact q)
      exact ⟨o,a,b,c,fun q'=>d (by rw [upd_ne _ (by decide)] at q';exact q')⟩
    f11:=fun q=>absurd ((h.f9 (h.f11 (by rw [upd_ne _ (by decide)] at q;exact q)).1).1) (by rw [hi];exact Bool.false_ne_true)
    nd:=fun q q'=>h.nd (by rw [upd_ne _ (by decide)] at q;exact q) (by rw [upd_ne _ (by decide)] at q';exact q') }
theorem C1.u1 (h:C1 k g S W B D s3 s5 s6 s7 s8 s9 s10 s11 s12 s13 s14 w) (hi:D 1=false) (A:Option Addr):C1 k g S W B (upd D 1) s3 s5 (.slice A 0 0) s7 s8 s9 s10 s11 s12 s13 s14 w :=
  { bel:=h.bel
    f0:=fun q=>h.f0 (by rw [upd_ne _ (by decide)] at q;exact q)
    f1:=fun _=>⟨A,rfl⟩
    f2:=fun q=>h.f2 (by rw [upd_ne _ (by decide)] at q;exact q)
    f3:=fun q=>h.f3 (by rw [upd_ne _ (by decide)] at q;exact q)
    f4:=fun q=>h.f4 (by rw [upd_ne _ (by decide)] at q;exact q)
    f5:=fun q=>h.f5 (by rw [upd_ne _ (by decide)] at q;exact q)
    f6:=fun q=>h.f6 (by rw [upd_ne _ (by decide)] at q;exact q)
    f7:=fun q=>h.f7 (by rw [upd_ne _ (by decide)] at q;exact q)
    f8:=fun q=>h.f8 (by rw [upd_ne _ (by decide)] at q;exact q)
    f9:=fun q=>by
      obtain ⟨a,b,c,d⟩:=h.f9 (by rw [upd_ne _ (by decide)] at q;exact q)
      exact ⟨by rw [upd_ne _ (by decide)];exact a,by rw [upd_ne _ (by decide)];exact b,by rw [upd_ne _ (by decide)];exact c,d⟩
    f10:=fun q=>by
      obtain ⟨o,a,b,c,d⟩:=h.f10 (by rw [upd_ne _ (by decide)] at q;exact q)
      exact ⟨o,a,b,c,fun q'=>d (by rw [upd_ne _ (by decide)] at q';exact q')⟩
    f11:=fun q=>by
      obtain ⟨a,b,o,c,d⟩:=h.f11 (by rw [upd_ne _ (by decide)] at q;exact q)
      exact ⟨by rw [upd_ne _ (by decide)];exact a,by rw [upd_ne _ (by decide)];exact b,o,c,d⟩
    nd:=fun q q'=>h.nd (by rw [upd_ne _ (by decide)] at q;exact q) (by rw [upd_ne _ (by decide)] at q';exact q') }
theorem C1.u2 (h:C1 k g S W B D s3 s5 s6 s7 s8 s9 s10 s11 s12 s13 s14 w) (hi:D 2=false)  : C1 k g S W B (upd D 2) s3 s5 s6 (.pointer (some ⟨B,1,none⟩)) s8 s9 s10 s11 s12 s13 s14 w :=
  { bel:=h.bel
    f0:=fun q=>h.f0 (by rw [upd_ne _ (by decide)] at q;exact q)
    f1:=fun q=>h.f1 (by rw [upd_ne _ (by decide)] at q;exact q)
    f2:=fun _=>rfl
    f3:=fun q=>h.f3 (by rw [upd_ne _ (by decide)] at q;exact q)
    f4:=fun q=>h.f4 (by rw [upd_ne _ (by decide)] at q;exact q)
    f5:=fun q=>h.f5 (by rw [upd_ne _ (by decide)] at q;exact q)
    f6:=fun q=>h.f6 (by rw [upd_ne _ (by decide)] at q;exact q)
    f7:=fun q=>h.f7 (by rw [upd_ne _ (by decide)] at q;exact q)
    f8:=fun q=>h.f8 (by rw [upd_ne _ (by decide)] at q;exact q)
    f9:=fun q=>by
      obtain ⟨a,b,c,d⟩:=h.f9 (by rw [upd_ne _ (by decide)] at q;exact q)
      exact ⟨by rw [upd_ne _ (by decide)];exact a,by rw [upd_ne _ (by decide)];exact b,by rw [upd_ne _ (by decide)];exact c,d⟩
    f10:=fun q=>by
      obtain ⟨o,a,b,c,d⟩:=h.f10 (by rw [upd_ne _ (by decide)] at q;exact q)
      exact ⟨o,a,b,c,fun q'=>d (by rw [upd_ne _ (by decide)] at q';exact q')⟩
    f11:=fun q=>by
      obtain ⟨a,b,o,c,d⟩:=h.f11 (by rw [upd_ne _ (by decide)] at q;exact q)
      exact ⟨by rw [upd_ne _ (by decide)];exact a,by rw [upd_ne _ (by decide)];exact b,o,c,d⟩
    nd:=fun q q'=>h.nd (by rw [upd_ne _ (by decide)] at q;exact q) (by rw [upd_ne _ (by decide)] at q';exact q') }
theorem C1.u3 (h:C1 k g S W B D s3 s5 s6 s7 s8 s9 s10 s11 s12 s13 s14 w) (hi:D 3=false)  : C1 k g S W B (upd D 3) s3 s5 s6 s7 (.slice k.a k.n k.c) s9 s10 s11 s12 s13 s14 w :=
  { bel:=h.bel
    f0:=fun q=>h.f0 (by rw [upd_ne _ (by decide)] at q;exact q)
    f1:=fun q=>h.f1 (by rw [upd_ne _ (by decide)] at q;exact q)
    f2:=fun q=>h.f2 (by rw [upd_ne _ (by decide)] at q;exact q)
    f3:=fun _=>rfl
    f4:=fun q=>h.f4 (by rw [upd_ne _ (by decide)] at q;exact q)
    f5:=fun q=>h.f5 (by rw [upd_ne _ (by decide)] at q;exact q)
    f6:=fun q=>h.f6 (by rw [upd_ne _ (by decide)] at q;exact q)
    f7:=fun q=>h.f7 (by rw [upd_ne _ (by decide)] at q;exact q)
    f8:=fun q=>h.f8 (by rw [upd_ne _ (by decide)] at q;exact q)
    f9:=fun q=>by
      obtain ⟨a,b,c,d⟩:=h.f9 (by rw [upd_ne _ (by decide)] at q;exact q)
      exact ⟨by rw [upd_ne _ (by decide)];exact a,by rw [upd_ne _ (by decide)];exact b,by rw [upd_ne _ (by decide)];exact c,d⟩
    f10:=fun q=>by
      obtain ⟨o,a,b,c,d⟩:=h.f10 (by rw [upd_ne _ (by decide)] at q;exact q)
      exact ⟨o,a,b,c,fun q'=>d (by rw [upd_ne _ (by decide)] at q';exact q')⟩
    f11:=fun q=>by
      obtain ⟨a,b,o,c,d⟩:=h.f11 (by rw [upd_ne _ (by decide)] at q;exact q)
      exact ⟨by rw [upd_ne _ (by decide)];exact a,by rw [upd_ne _ (by decide)];exact b,o,c,d⟩
    nd:=fun q q'=>h.nd (by rw [upd_ne _ (by decide)] at q;exact q) (by rw [upd_ne _ (by decide)] at q';exact q') }
theorem C1.u4 (h:C1 k g S W B D s3 s5 s6 s7 s8 s9 s10 s11 s12 s13 s14 w) (hi:D 4=false) (A:Option Addr) (c:Nat) (ho:OwZ W.heap.size w.heap.size w ⟨A,k.n,c⟩ S.keys) (hnd:D 8=true→∀ A' c',s13=.slice A' g.n c'→(blkOf ⟨A,k.n,c⟩ ++ blkOf ⟨A',g.n,c'⟩).Nodup):C1 k g S W B (upd D 4) s3 s5 s6 s7 s8 (.slice A k.n c) s10 s11 s12 s13 s14 w :=
  { bel:=h.bel
    f0:=fun q=>h.f0 (by rw [upd_ne _ (by decide)] at q;exact q)
    f1:=fun q=>h.f1 (by rw [upd_ne _ (by decide)] at q;exact q)
    f2:=fun q=>h.f2 (by rw [upd_ne _ (by decide)] at q;exact q)
    f3:=fun q=>h.f3 (by rw [upd_ne _ (by decide)] at q;exact q)
    f4:=fun _=>⟨A,c,rfl,ho⟩
    f5:=fun q=>h.f5 (by rw [upd_ne _ (by decide)] at q;exact q)
    f6:=fun q=>h.f6 (by rw [upd_ne _ (by decide)] at q;exact q)
    f7:=fun q=>h.f7 (by rw [upd_ne _ (by decide)] at q;exact q)
    f8:=fun q=>h.f8 (by rw [upd_ne _ (by decide)] at q;exact q)
    f9:=fun q=>absurd ((h.f9 (by rw [upd_ne _ (by decide)] at q;exact q)).2.1) (by rw [hi];exact Bool.false_ne_true)
    f10:=fun q=>by
      obtain ⟨o,a,b,c,d⟩:=h.f10 (by rw [upd_ne _ (by decide)] at q;exact q)
      exact ⟨o,a,b,c,fun q'=>d (by rw [upd_ne _ (by decide)] at q';exact q')⟩
    f11:=fun q=>absurd ((h.f9 (h.f11 (by rw [upd_ne _ (by decide)] at q;exact q)).1).2.1) (by rw [hi];exact Bool.false_ne_true)
    nd:=fun _ q A1 c1 A' c' e e'=>by
      injection e with e1 _ e3
      subst e1 e3
      exact hnd (by rw [upd_ne _ (by decide)] at q;exact q) A' c' e' }
theorem C1.u5 (h:C1 k g S W B D s3 s5 s6 s7 s8 s9 s10 s11 s12 s13 s14 w) (hi:D 5=false) (A:Option Addr):C1 k g S W B (upd D 5) s3 s5 s6 s7 s8 s9 (.slice A 0 0) s11 s12 s13 s14 w :=
  { bel:=h.bel
    f0:=fun q=>h.f0 (by rw [upd_ne _ (by decide)] at q;exact q)
    f1:=fun q=>h.f1 (by rw [upd_ne _ (by decide)] at q;exact q)
    f2:=fun q=>h.f2 (by rw [upd_ne _ (by decide)] at q;exact q)
    f3:=fun q=>h.f3 (by rw [upd_ne _ (by decide)] at q;exact q)
    f4:=fun q=>h.f4 (by rw [upd_ne _ (by decide)] at q;exact q)
    f5:=fun _=>⟨A,rfl⟩
    f6:=fun q=>h.f6 (by rw [upd_ne _ (by decide)] at q;exact q)
    f7:=fun q=>h.f7 (by rw [upd_ne _ (by decide)] at q;exact q)
    f8:=fun q=>h.f8 (by rw [upd_ne _ (by decide)] at q;exact q)
    f9:=fun q=>by
      obtain ⟨a,b,c,d⟩:=h.f9 (by rw [upd_ne _ (by decide)] at q;exact q)
      exact ⟨by rw [upd_ne _ (by decide)];exact a,by rw [upd_ne _ (by decide)];exact b,by rw [upd_ne _ (by decide)];exact c,d⟩
    f10:=fun q=>by
      obtain ⟨o,a,b,c,d⟩:=h.f10 (by rw [upd_ne _ (by decide)] at q;exact q)
      exact ⟨o,a,b,c,fun q'=>d (by rw [upd_ne _ (by decide)] at q';exact q')⟩
    f11:=fun q=>by
      obtain ⟨a,b,o,c,d⟩:=h.f11 (by rw [upd_ne _ (by decide)] at q;exact q)
      exact ⟨by rw [upd_ne _ (by decide)];exact a,by rw [upd_ne _ (by decide)];exact b,o,c,d⟩
    nd:=fun q q'=>h.nd (by rw [upd_ne _ (by decide)] at q;exact q) (by rw [upd_ne _ (by decide)] at q';exact q') }
theorem C1.u6 (h:C1 k g S W B D s3 s5 s6 s7 s8 s9 s10 s11 s12 s13 s14 w) (hi:D 6=false)  : C1 k g S W B (upd D 6) s3 s5 s6 s7 s8 s9 s10 (.pointer (some ⟨B,2,none⟩)) s12 s13 s14 w :=
  { bel:=h.bel
    f0:=fun q=>h.f0 (by rw [upd_ne _ (by decide)] at q;exact q)
    f1:=fun q=>h.f1 (by rw [upd_ne _ (by decide)] at q;exact q)
    f2:=fun q=>h.f2 (by rw [upd_ne _ (by decide)] at q;exact q)
    f3:=fun q=>h.f3 (by rw [upd_ne _ (by decide)] at q;exact q)
    f4:=fun q=>h.f4 (by rw [upd_ne _ (by decide)] at q;exact q)
    f5:=fun q=>h.f5 (by rw [upd_ne _ (by decide)] at q;exact q)
    f6:=fun _=>rfl
    f7:=fun q=>h.f7 (by rw [upd_ne _ (by decide)] at q;exact q)
    f8:=fun q=>h.f8 (by rw [upd_ne _ (by decide)] at q;exact q)
    f9:=fun q=>by
      obtain ⟨a,b,c,d⟩:=h.f9 (by rw [upd_ne _ (by decide)] at q;exact q)
      exact ⟨by rw [upd_ne _ (by decide)];exact a,by rw [upd_ne _ (by decide)];exact b,by rw [upd_ne _ (by decide)];exact c,d⟩
    f10:=fun q=>by
      obtain ⟨o,a,b,c,d⟩:=h.f10 (by rw [upd_ne _ (by decide)] at q;exact q)
      exact ⟨o,a,b,c,fun q'=>d (by rw [upd_ne _ (by decide)] at q';exact q')⟩
    f11:=fun q=>by
      obtain ⟨a,b,o,c,d⟩:=h.f11 (by rw [upd_ne _ (by decide)] at q;exact q)
      exact ⟨by rw [upd_ne _ (by decide)];exact a,by rw [upd_ne _ (by decide)];exact b,o,c,d⟩
    nd:=fun q q'=>h.nd (by rw [upd_ne _ (by decide)] at q;exact q) (by rw [upd_ne _ (by decide)] at q';exact q') }
theorem C1.u7 (h:C1 k g S W B D s3 s5 s6 s7 s8 s9 s10 s11 s12 s13 s14 w) (hi:D 7=false)  : C1 k g S W B (upd D 7) s3 s5 s6 s7 s8 s9 s10 s11 (.slice g.a g.n g.c) s13 s14 w :=
  { bel:=h.bel
    f0:=fun q=>h.f0 (by rw [upd_ne _ (by decide)] at q;exact q)
    f1:=fun q=>h.f1 (by rw [upd_ne _ (by decide)] at q;exact q)
    f2:=fun q=>h.f2 (by rw [upd_ne _ (by decide)] at q;exact q)
    f3:=fun q=>h.f3 (by rw [upd_ne _ (by decide)] at q;exact q)
    f4:=fun q=>h.f4 (by rw [upd_ne _ (by decide)] at q;exact q)
    f5:=fun q=>h.f5 (by rw [upd_ne _ (by decide)] at q;exact q)
    f6:=fun q=>h.f6 (by rw [upd_ne _ (by decide)] at q;exact q)
    f7:=fun _=>rfl
    f8:=fun q=>h.f8 (by rw [upd_ne _ (by decide)] at q;exact q)
    f9:=fun q=>by
      obtain ⟨a,b,c,d⟩:=h.f9 (by rw [upd_ne _ (by decide)] at q;exact q)
      exact ⟨by rw [upd_ne _ (by decide)];exact a,by rw [upd_ne _ (by decide)];exact b,by rw [upd_ne _ (by decide)];exact c,d⟩
    f10:=fun q=>by
      obtain ⟨o,a,b,c,d⟩:=h.f10 (by rw [upd_ne _ (by decide)] at q;exact q)
      exact ⟨o,a,b,c,fun q'=>d (by rw [upd_ne _ (by decide)] at q';exact q')⟩
    f11:=fun q=>by
      obtain ⟨a,b,o,c,d⟩:=h.f11 (by rw [upd_ne _ (by decide)] at q;exact q)
      exact ⟨by rw [upd_ne _ (by decide)];exact a,by rw [upd_ne _ (by decide)];exact b,o,c,d⟩
    nd:=fun q q'=>h.nd (by rw [upd_ne _ (by decide)] at q;exact q) (by rw [upd_ne _ (by decide)] at q';exact q') }
theorem C1.u8 (h:C1 k g S W B D s3 s5 s6 s7 s8 s9 s10 s11 s12 s13 s14 w) (hi:D 8=false) (A:Option Addr) (c:Nat) (ho:OwZ W.heap.size w.heap.size w ⟨A,g.n,c⟩ S.tags) (hnd:D 4=true→∀ A' c',s9=.slice A' k.n c'→(blkOf ⟨A',k.n,c'⟩ ++ blkOf ⟨A,g.n,c⟩).Nodup):C1 k g S W B (upd D 8) s3 s5 s6 s7 s8 s9 s10 s11 s12 (.slice A g.n c) s14 w :=
  { bel:=h.bel
    f0:=fun q=>h.f0 (by rw [upd_ne _ (by decide)] at q;exact q)
    f1:=fun q=>h.f1 (by rw [upd_ne _ (by decide)] at q;exact q)
    f2:=fun q=>h.f2 (by rw [upd_ne _ (by decide)] at q;exact q)
    f3:=fun q=>h.f3 (by rw [upd_ne _ (by decide)] at q;exact q)
    f4:=fun q=>h.f4 (by rw [upd_ne _ (by decide)] at q;exact q)
    f5:=fun q=>h.f5 (by rw [upd_ne _ (by decide)] at q;exact q)
    f6:=fun q=>h.f6 (by rw [upd_ne _ (by decide)] at q;exact q)
    f7:=fun q=>h.f7 (by rw [upd_ne _ (by decide)] at q;exact q)
    f8:=fun _=>⟨A,c,rfl,ho⟩
    f9:=fun q=>absurd ((h.f9 (by rw [upd_ne _ (by decide)] at q;exact q)).2.2.1) (by rw [hi];exact Bool.false_ne_true)
    f10:=fun q=>by
      obtain ⟨o,a,b,c,d⟩:=h.f10 (by rw [upd_ne _ (by decide)] at q;exact q)
      exact ⟨o,a,b,c,fun q'=>d (by rw [upd_ne _ (by decide)] at q';exact q')⟩
    f11:=fun q=>absurd ((h.f9 (h.f11 (by rw [upd_ne _ (by decide)] at q;exact q)).1).2.2.1) (by rw [hi];exact Bool.false_ne_true)
    nd:=fun q _ A' c' A1 c1 e' e=>by
      injection e with e1 _ e3
      subst e1 e3
      exact hnd (by rw [upd_ne _ (by decide)] at q;exact q) A' c' e' }
theorem C1.u9 (h:C1 k g S W B D s3 s5 s6 s7 s8 s9 s10 s11 s12 s13 s14 w) (hi:D 9=false) (d0:D 0=true) (d4:D 4=true) (d8:D 8=true):C1 k g S W B (upd D 9) s3 s5 s6 s7 s8 s9 s10 s11 s12 s13 (.agg #[s5,s9,s13]) w :=
  { bel:=h.bel
    f0:=fun q=>h.f0 (by rw [upd_ne _ (by decide)] at q;exact q)
    f1:=fun q=>h.f1 (by rw [upd_ne _ (by decide)] at q;exact q)
    f2:=fun q=>h.f2 (by rw [upd_ne _ (by decide)] at q;exact q)
    f3:=fun q=>h.f3 (by rw [upd_ne _ (by decide)] at q;exact q)
    f4:=fun q=>h.f4 (by rw [upd_ne _ (by decide)] at q;exact q)
    f5:=fun q=>h.f5 (by rw [upd_ne _ (by decide)] at q;exact q)
    f6:=fun q=>h.f6 (by rw [upd_ne _ (by decide)] at q;exact q)
    f7:=fun q=>h.f7 (by rw [upd_ne _ (by decide)] at q;exact q)
    f8:=fun q=>h.f8 (by rw [upd_ne _ (by decide)] at q;exact q)
    f9:=fun _=>⟨by rw [upd_ne _ (by decide)];exact d0,by rw [upd_ne _ (by decide)];exact d4,by rw [upd_ne _ (by decide)];exact d8,rfl⟩
    f10:=fun q=>by
      obtain ⟨o,a,b,c,d⟩:=h.f10 (by rw [upd_ne _ (by decide)] at q;exact q)
      exact ⟨o,a,b,c,fun q'=>d (by rw [upd_ne _ (by decide)] at q';exact q')⟩
    f11:=fun q=>absurd (h.f11 (by rw [upd_ne _ (by decide)] at q;exact q)).1 (by rw [hi];exact Bool.false_ne_true)
    nd:=fun q q'=>h.nd (by rw [upd_ne _ (by decide)] at q;exact q) (by rw [upd_ne _ (by decide)] at q';exact q') }
theorem C1.u10 (h:C1 k g S W B D s3 s5 s6 s7 s8 s9 s10 s11 s12 s13 s14 w) (hi:D 10=false) (o:Nat) (h1:W.heap.size≤o) (h2:o<w.heap.size) (h3:Blk w o 42 #[.slice none 0 0,.slice none 0 0,.slice none 0 0]):C1 k g S W B (upd D 10) (.pointer (some ⟨o,0,none⟩)) s5 s6 s7 s8 s9 s10 s11 s12 s13 s14 w :=
  { bel:=h.bel
    f0:=fun q=>h.f0 (by rw [upd_ne _ (by decide)] at q;exact q)
    f1:=fun q=>h.f1 (by rw [upd_ne _ (by decide)] at q;exact q)
    f2:=fun q=>h.f2 (by rw [upd_ne _ (by decide)] at q;exact q)
    f3:=fun q=>h.f3 (by rw [upd_ne _ (by decide)] at q;exact q)
    f4:=fun q=>h.f4 (by rw [upd_ne _ (by decide)] at q;exact q)
    f5:=fun q=>h.f5 (by rw [upd_ne _ (by decide)] at q;exact q)
    f6:=fun q=>h.f6 (by rw [upd_ne _ (by decide)] at q;exact q)
    f7:=fun q=>h.f7 (by rw [upd_ne _ (by decide)] at q;exact q)
    f8:=fun q=>h.f8 (by rw [upd_ne _ (by decide)] at q;exact q)
    f9:=fun q=>by
      obtain ⟨a,b,c,d⟩:=h.f9 (by rw [upd_ne _ (by decide)] at q;exact q)
      exact ⟨by rw [upd_ne _ (by decide)];exact a,by rw [upd_ne _ (by decide)];exact b,by rw [upd_ne _ (by decide)];exact c,d⟩
    f10:=fun _=>⟨o,rfl,h1,h2,fun _=>h3⟩
    f11:=fun q=>absurd (h.f11 (by rw [upd_ne _ (by decide)] at q;exact q)).2.1 (by rw [hi];exact Bool.false_ne_true)
    nd:=fun q q'=>h.nd (by rw [upd_ne _ (by decide)] at q;exact q) (by rw [upd_ne _ (by decide)] at q';exact q') }
theorem C1.u11 (h:C1 k g S W B D s3 s5 s6 s7 s8 s9 s10 s11 s12 s13 s14 w) (hi:D 11=false) (d9:D 9=true) (d10:D 10=true) (o:Nat) (e3:s3=.pointer (some ⟨o,0,none⟩)) (ho:W.heap.size≤o) (hB:Blk w o 42 #[.slice none 0 0,.slice none 0 0,.slice none 0 0]):C1 k g S W B (upd D 11) s3 s5 s6 s7 s8 s9 s10 s11 s12 s13 s14 (((w.setCell ⟨o,0,none⟩ s5).setCell ⟨o,1,none⟩ s9).setCell ⟨o,2,none⟩ s13) :=
  have hk:KeepI w (((w.setCell ⟨o,0,none⟩ s5).setCell ⟨o,1,none⟩ s9).setCell ⟨o,2,none⟩ s13):=KeepI.only hB (by decide) (Only.set_ (p:=⟨o,2,none⟩) (Only.set_ (p:=⟨o,1,none⟩) (Only.set_ (p:=⟨o,0,none⟩) (Only.refl o w) (.inl rfl) s5) (.inl rfl) s9) (.inl rfl) s13)
  have hs:(((w.setCell ⟨o,0,none⟩ s5).setCell ⟨o,1,none⟩ s9).setCell ⟨o,2,none⟩ s13).heap.size=w.heap.size:=by simp [World.setCell]
  { bel:=((h.bel.setCell (p:=⟨o,0,none⟩) ho _).setCell (p:=⟨o,1,none⟩) ho _).setCell (p:=⟨o,2,none⟩) ho _
    f0:=fun q=>h.f0 (by rw [upd_ne _ (by decide)] at q;exact q),f1:=fun q=>h.f1 (by rw [upd_ne _ (by decide)] at q;exact q),f2:=fun q=>h.f2 (by rw [upd_ne _ (by decide)] at q;exact q),f3:=fun q=>h.f3 (by rw [upd_ne _ (by decide)] at q;exact q),f5:=fun q=>h.f5 (by rw [upd_ne _ (by decide)] at q;exact q),f6:=fun q=>h.f6 (by rw [upd_ne _ (by decide)] at q;exact q),f7:=fun q=>h.f7 (by rw [upd_ne _ (by decide)] at q;exact q)
    f4:=fun q=>by obtain ⟨A,c,e,ho⟩:=h.f4 (by rw [upd_ne _ (by decide)] at q;exact q);exact ⟨A,c,e,by rw [hs];exact keepZ ho hk⟩
    f8:=fun q=>by obtain ⟨A,c,e,ho⟩:=h.f8 (by rw [upd_ne _ (by decide)] at q;exact q);exact ⟨A,c,e,by rw [hs];exact keepZ ho hk⟩
    f9:=fun q=>by
      obtain ⟨a,b,c,d⟩:=h.f9 (by rw [upd_ne _ (by decide)] at q;exact q)
      exact ⟨by rw [upd_ne _ (by decide)];exact a,by rw [upd_ne _ (by decide)];exact b,by rw [upd_ne _ (by decide)];exact c,d⟩
    f10:=fun q=>by
      obtain ⟨o',a,b,c,d⟩:=h.f10 (by rw [upd_ne _ (by decide)] at q;exact q)
      exact ⟨o',a,b,by rw [hs];exact c,fun q'=>absurd q' (by rw [upd_self];decide)⟩
    f11:=fun _=>⟨by rw [upd_ne _ (by decide)];exact d9,by rw [upd_ne _ (by decide)];exact d10,o,e3,((hB.set_ 0 s5).set_ 1 s9).set_ 2 s13⟩
    nd:=fun q q'=>h.nd (by rw [upd_ne _ (by decide)] at q;exact q) (by rw [upd_ne _ (by decide)] at q';exact q') }
theorem nodup_comm {a b:List Nat} (h:(a ++ b).Nodup):(b ++ a).Nodup:=by
  obtain ⟨n1,n2,d⟩:=List.nodup_append.1 h
  exact List.nodup_append.2 ⟨n2,n1,fun x hx y hy e=>d y hy x hx e.symm⟩

end

structure C2 (o B p b off n c:Nat) (x:Row) (A':Option Addr) (c':Nat) (N:Nat) (wr:World) (D:Nat→Bool) (s22 s23 s24 s25 s26 s27 s28 s29 s30 s31 s32 s33 s34 s35 s36 s37 s38 s39 s40 s41 s42:Value) (a1 b1:Sl) (A3:Option Addr) (c3 q:Nat) (w:World):Prop where
  bel:Below wr.heap.size wr w
  hN:N=wr.heap.size
  f0:D 0=true→s22=.pointer (some ⟨o,0,none⟩)
  f1:D 1=true→s23=.slice A' p c'
  f2:D 2=true→s24=.pointer (some ⟨B,0,none⟩)
  f3:D 3=true→s25=.slice (some ⟨b,off,none⟩) n c
  f4:D 4=true→s26=.int .i64 p
  f5:D 5=true→s27=.pointer (some ⟨b,off+p * 12,none⟩)
  f6:D 6=true→s28=.pointer (some ⟨b,off+p * 12,none⟩)
  f7:D 7=true→s29=.agg #[.int .i64 x.2.l.id,.int .i64 x.2.l.ticks,.int .i64 x.2.l.sx,.int .i64 x.2.l.sy,.slice x.1.w.a x.1.w.n x.1.w.c,.slice x.1.g.a x.1.g.n x.1.g.c,.int .i64 x.2.l.f.1,.int .i64 x.2.l.f.2.1,.int .i64 x.2.l.f.2.2.1,.int .i64 x.2.l.f.2.2.2,.int .i64 x.2.l.bans]
  f8:D 8=true→s30=.agg #[.int .i64 x.2.l.id,.int .i64 x.2.l.ticks,.int .i64 x.2.l.sx,.int .i64 x.2.l.sy,.slice a1.a a1.n a1.c,.slice b1.a b1.n b1.c,.int .i64 x.2.l.f.1,.int .i64 x.2.l.f.2.1,.int .i64 x.2.l.f.2.2.1,.int .i64 x.2.l.f.2.2.2,.int .i64 x.2.l.bans]∧OwL N w.heap.size w x.2.l a1 b1∧(blkOf a1 ++ blkOf b1).Nodup
  f9:D 9=true→∃ A,s31=.slice A 0 0
  f10:D 10=true→s32=.pointer (some ⟨B,0,none⟩)
  f11:D 11=true→s33=.slice (some ⟨b,off,none⟩) n c
  f12:D 12=true→s34=.int .i64 p
  f13:D 13=true→s35=.pointer (some ⟨b,off+p * 12,none⟩)
  f14:D 14=true→s36=.pointer (some ⟨b,off+p * 12+11,none⟩)
  f15:D 15=true→s37=.slice x.1.b.a x.1.b.n x.1.b.c
  f16:D 16=true→s38=.slice A3 x.1.b.n c3∧OwEn N w.heap.size w ⟨A3,x.1.b.n,c3⟩ x.2.b
  f17:D 17=true→D 8=true∧D 16=true∧s39=.agg #[.int .i64 x.2.l.id,.int .i64 x.2.l.ticks,.int .i64 x.2.l.sx,.int .i64 x.2.l.sy,.slice a1.a a1.n a1.c,.slice b1.a b1.n b1.c,.int .i64 x.2.l.f.1,.int .i64 x.2.l.f.2.1,.int .i64 x.2.l.f.2.2.1,.int .i64 x.2.l.f.2.2.2,.int .i64 x.2.l.bans,.slice A3 x.1.b.n c3]
  f18:D 18=true→D 17=true∧s40=.slice (some ⟨q,0,none⟩) 1 1∧N≤q∧Blk w q 65 #[.int .i64 x.2.l.id,.int .i64 x.2.l.ticks,.int .i64 x.2.l.sx,.int .i64 x.2.l.sy,.slice a1.a a1.n a1.c,.slice b1.a b1.n b1.c,.int .i64 x.2.l.f.1,.int .i64 x.2.l.f.2.1,.int .i64 x.2.l.f.2.2.1,.int .i64 x.2.l.f.2.2.2,.int .i64 x.2.l.bans,.slice A3 x.1.b.n c3]
  f20:D 20=true→s42=.pointer (some ⟨o,0,none⟩)
section
variable {o B p b off n c:Nat} {x:Row} {A':Option Addr} {c':Nat} {N:Nat} {wr:World} {D:Nat→Bool} {s22 s23 s24 s25 s26 s27 s28 s29 s30 s31 s32 s33 s34 s35 s36 s37 s38 s39 s40 s41 s42:Value} {a1 b1:Sl} {A3:Option Addr} {c3 q:Nat} {w w':World}
theorem C2.next (h:C2 o B p b off n c x A' c' N wr D s22 s23 s24 s25 s26 s27 s28 s29 s30 s31 s32 s33 s34 s35 s36 s37 s38 s39 s40 s41 s42 a1 b1 A3 c3 q w) (hb:Below w.heap.size w w'):C2 o B p b off n c x A' c' N wr D s22 s23 s24 s25 s26 s27 s28 s29 s30 s31 s32 s33 s34 s35 s36 s37 s38 s39 s40 s41 s42 a1 b1 A3 c3 q w' :=
  { h with
    bel:=below_next h.bel hb
    f8:=fun q'=>by obtain ⟨e,h1,h2⟩:=h.f8 q';exact ⟨e,(h1.next hb).mono (Nat.le_refl _) hb.size,h2⟩
    f16:=fun q'=>by obtain ⟨e,h1⟩:=h.f16 q';exact ⟨e,(OwI.next h1 hb).mono (Nat.le_refl _) hb.size⟩
    f18:=fun q'=>by obtain ⟨e,h1,h2,h3⟩:=h.f18 q';exact ⟨e,h1,h2,h3.next hb⟩ }

theorem C2.u0 (h:C2 o B p b off n c x A' c' N wr D s22 s23 s24 s25 s26 s27 s28 s29 s30 s31 s32 s33 s34 s35 s36 s37 s38 s39 s40 s41 s42 a1 b1 A3 c3 q w) (hi:D 0=false)  : C2 o B p b off n c x A' c' N wr (upd D 0) (.pointer (some ⟨o,0,none⟩)) s23 s24 s25 s26 s27 s28 s29 s30 s31 s32 s33 s34 s35 s36 s37 s38 s39 s40 s41 s42 a1 b1 A3 c3 q w :=
  { bel:=h.bel
    hN:=h.hN
    f0:=fun _=>rfl
    f1:=fun q'=>h.f1 (by rw [upd_ne _ (by decide)] at q';exact q')
    f2:=fun q'=>h.f2 (by rw [upd_ne _ (by decide)] at q';exact q')
    f3:=fun q'=>h.f3 (by rw [upd_ne _ (by decide)] at q';exact q')
    f4:=fun q'=>h.f4 (by rw [upd_ne _ (by decide)] at q';exact q')
    f5:=fun q'=>h.f5 (by rw [upd_ne _ (by decide)] at q';exact q')
    f6:=fun q'=>h.f6 (by rw [upd_ne _ (by decide)] at q';exact q')
    f7:=fun q'=>h.f7 (by rw [upd_ne _ (by decide)] at q';exact q')
    f8:=fun q'=>h.f8 (by rw [upd_ne _ (by decide)] at q';exact q')
    f9:=fun q'=>h.f9 (by rw [upd_ne _ (by decide)] at q';exact q')
    f10:=fun q'=>h.f10 (by rw [upd_ne _ (by decide)] at q';exact q')
    f11:=fun q'=>h.f11 (by rw [upd_ne _ (by decide)] at q';exact q')
    f12:=fun q'=>h.f12 (by rw [upd_ne _ (by decide)] at q';exact q')
    f13:=fun q'=>h.f13 (by rw [upd_ne _ (by decide)] at q';exact q')
    f14:=fun q'=>h.f14 (by rw [upd_ne _ (by decide)] at q';exact q')
    f15:=fun q'=>h.f15 (by rw [upd_ne _ (by decide)] at q';exact q')
    f16:=fun q'=>h.f16 (by rw [upd_ne _ (by decide)] at q';exact q')
    f17:=fun q'=>by
      obtain ⟨a,b,c⟩:=h.f17 (by rw [upd_ne _ (by decide)] at q';exact q')
      exact ⟨by rw [upd_ne _ (by decide)];exact a,by rw [upd_ne _ (by decide)];exact b,c⟩
    f18:=fun q'=>by
      obtain ⟨a,b,c⟩:=h.f18 (by rw [upd_ne _ (by decide)] at q';exact q')
      exact ⟨by rw [upd_ne _ (by decide)];exact a,b,c⟩
    f20:=fun q'=>h.f20 (by rw [upd_ne _ (by decide)] at q';exact q') }
theorem C2.u1 (h:C2 o B p b off n c x A' c' N wr D s22 s23 s24 s25 s26 s27 s28 s29 s30 s31 s32 s33 s34 s35 s36 s37 s38 s39 s40 s41 s42 a1 b1 A3 c3 q w) (hi:D 1=false)  : C2 o B p b off n c x A' c' N wr (upd D 1) s22 (.slice A' p c') s24 s25 s26 s27 s28 s29 s30 s31 s32 s33 s34 s35 s36 s37 s38 s39 s40 s41 s42 a1 b1 A3 c3 q w :=
  { bel:=h.bel
    hN:=h.hN
    f0:=fun q'=>h.f0 (by rw [upd_ne _ (by decide)] at q';exact q')
    f1:=fun _=>rfl
    f2:=fun q'=>h.f2 (by rw [upd_ne _ (by decide)] at q';exact q')
    f3:=fun q'=>h.f3 (by rw [upd_ne _ (by decide)] at q';exact q')
    f4:=fun q'=>h.f4 (by rw [upd_ne _ (by decide)] at q';exact q')
    f5:=fun q'=>h.f5 (by rw [upd_ne _ (by decide)] at q';exact q')
    f6:=fun q'=>h.f6 (by rw [upd_ne _ (by decide)] at q';exact q')
    f7:=fun q'=>h.f7 (by rw [upd_ne _ (by decide)] at q';exact q')
    f8:=fun q'=>h.f8 (by rw [upd_ne _ (by decide)] at q';exact q')
    f9:=fun q'=>h.f9 (by rw [upd_ne _ (by decide)] at q';exact q')
    f10:=fun q'=>h.f10 (by rw [upd_ne _ (by decide)] at q';exact q')
    f11:=fun q'=>h.f11 (by rw [upd_ne _ (by decide)] at q';exact q')
    f12:=fun q'=>h.f12 (by rw [upd_ne _ (by decide)] at q';exact q')
    f13:=fun q'=>h.f13 (by rw [upd_ne _ (by decide)] at q';exact q')
    f14:=fun q'=>h.f14 (by rw [upd_ne _ (by decide)] at q';exact q')
    f15:=fun q'=>h.f15 (by rw [upd_ne _ (by decide)] at q';exact q')
    f16:=fun q'=>h.f16 (by rw [upd_ne _ (by decide)] at q';exact q')
    f17:=fun q'=>by
      obtain ⟨a,b,c⟩:=h.f17 (by rw [upd_ne _ (by decide)] at q';exact q')
      exact ⟨by rw [upd_ne _ (by decide)];exact a,by rw [upd_ne _ (by decide)];exact b,c⟩
    f18:=fun q'=>by
      obtain ⟨a,b,c⟩:=h.f18 (by rw [upd_ne _ (by decide)] at q';exact q')
      exact ⟨by rw [upd_ne _ (by decide)];exact a,b,c⟩
    f20:=fun q'=>h.f20 (by rw [upd_ne _ (by decide)] at q';exact q') }
theorem C2.u2 (h:C2 o B p b off n c x A' c' N wr D s22 s23 s24 s25 s26 s27 s28 s29 s30 s31 s32 s33 s34 s35 s36 s37 s38 s39 s40 s41 s42 a1 b1 A3 c3 q w) (hi:D 2=false)  : C2 o B p b off n c x A' c' N wr (upd D 2) s22 s23 (.pointer (some ⟨B,0,none⟩)) s25 s26 s27 s28 s29 s30 s31 s32 s33 s34 s35 s36 s37 s38 s39 s40 s41 s42 a1 b1 A3 c3 q w :=
  { bel:=h.bel
    hN:=h.hN
    f0:=fun q'=>h.f0 (by rw [upd_ne _ (by decide)] at q';exact q')
    f1:=fun q'=>h.f1 (by rw [upd_ne _ (by decide)] at q';exact q')
    f2:=fun _=>rfl
    f3:=fun q'=>h.f3 (by rw [upd_ne _ (by decide)] at q';exact q')
    f4:=fun q'=>h.f4 (by rw [upd_ne _ (by decide)] at q';exact q')
    f5:=fun q'=>h.f5 (by rw [upd_ne _ (by decide)] at q';exact q')
    f6:=fun q'=>h.f6 (by rw [upd_ne _ (by decide)] at q';exact q')
    f7:=fun q'=>h.f7 (by rw [upd_ne _ (by decide)] at q';exact q')
    f8:=fun q'=>h.f8 (by rw [upd_ne _ (by decide)] at q';exact q')
    f9:=fun q'=>h.f9 (by rw [upd_ne _ (by decide)] at q';exact q')
    f10:=fun q'=>h.f10 (by rw [upd_ne _ (by decide)] at q';exact q')
    f11:=fun q'=>h.f11 (by rw [upd_ne _ (by decide)] at q';exact q')
    f12:=fun q'=>h.f12 (by rw [upd_ne _ (by decide)] at q';exact q')
    f13:=fun q'=>h.f13 (by rw [upd_ne _ (by decide)] at q';exact q')
    f14:=fun q'=>h.f14 (by rw [upd_ne _ (by decide)] at q';exact q')
    f15:=fun q'=>h.f15 (by rw [upd_ne _ (by decide)] at q';exact q')
    f16:=fun q'=>h.f16 (by rw [upd_ne _ (by decide)] at q';exact q')
    f17:=fun q'=>by
      obtain ⟨a,b,c⟩:=h.f17 (by rw [upd_ne _ (by decide)] at q';exact q')
      exact ⟨by rw [upd_ne _ (by decide)];exact a,by rw [upd_ne _ (by decide)];exact b,c⟩
    f18:=fun q'=>by
      obtain ⟨a,b,c⟩:=h.f18 (by rw [upd_ne _ (by decide)] at q';exact q')
      exact ⟨by rw [upd_ne _ (by decide)];exact a,b,c⟩
    f20:=fun q'=>h.f20 (by rw [upd_ne _ (by decide)] at q';exact q') }
theorem C2.u3 (h:C2 o B p b off n c x A' c' N wr D s22 s23 s24 s25 s26 s27 s28 s29 s30 s31 s32 s33 s34 s35 s36 s37 s38 s39 s40 s41 s42 a1 b1 A3 c3 q w) (hi:D 3=false)  : C2 o B p b off n c x A' c' N wr (upd D 3) s22 s23 s24 (.slice (some ⟨b,off,none⟩) n c) s26 s27 s28 s29 s30 s31 s32 s33 s34 s35 s36 s37 s38 s39 s40 s41 s42 a1 b1 A3 c3 q w :=
  { bel:=h.bel
    hN:=h.hN
    f0:=fun q'=>h.f0 (by rw [upd_ne _ (by decide)] at q';exact q')
    f1:=fun q'=>h.f1 (by rw [upd_ne _ (by decide)] at q';exact q')
    f2:=fun q'=>h.f2 (by rw [upd_ne _ (by decide)] at q';exact q')
    f3:=fun _=>rfl
    f4:=fun q'=>h.f4 (by rw [upd_ne _ (by decide)] at q';exact q')
    f5:=fun q'=>h.f5 (by rw [upd_ne _ (by decide)] at q';exact q')
    f6:=fun q'=>h.f6 (by rw [upd_ne _ (by decide)] at q';exact q')
    f7:=fun q'=>h.f7 (by rw [upd_ne _ (by decide)] at q';exact q')
    f8:=fun q'=>h.f8 (by rw [upd_ne _ (by decide)] at q';exact q')
    f9:=fun q'=>h.f9 (by rw [upd_ne _ (by decide)] at q';exact q')
    f10:=fun q'=>h.f10 (by rw [upd_ne _ (by decide)] at q';exact q')
    f11:=fun q'=>h.f11 (by rw [upd_ne _ (by decide)] at q';exact q')
    f12:=fun q'=>h.f12 (by rw [upd_ne _ (by decide)] at q';exact q')
    f13:=fun q'=>h.f13 (by rw [upd_ne _ (by decide)] at q';exact q')
    f14:=fun q'=>h.f14 (by rw [upd_ne _ (by decide)] at q';exact q')
    f15:=fun q'=>h.f15 (by rw [upd_ne _ (by decide)] at q';exact q')
    f16:=fun q'=>h.f16 (by rw [upd_ne _ (by decide)] at q';exact q')
    f17:=fun q'=>by
      obtain ⟨a,b,c⟩:=h.f17 (by rw [upd_ne _ (by decide)] at q';exact q')
      exact ⟨by rw [upd_ne _ (by decide)];exact a,by rw [upd_ne _ (by decide)];exact b,c⟩
    f18:=fun q'=>by
      obtain ⟨a,b,c⟩:=h.f18 (by rw [upd_ne _ (by decide)] at q';exact q')
      exact ⟨by rw [upd_ne _ (by decide)];exact a,b,c⟩
    f20:=fun q'=>h.f20 (by rw [upd_ne _ (by decide)] at q';exact q') }
theorem C2.u4 (h:C2 o B p b off n c x A' c' N wr D s22 s23 s24 s25 s26 s27 s28 s29 s30 s31 s32 s33 s34 s35 s36 s37 s38 s39 s40 s41 s42 a1 b1 A3 c3 q w) (hi:D 4=false)  : C2 o B p b off n c x A' c' N wr (upd D 4) s22 s23 s24 s25 (.int .i64 p) s27 s28 s29 s30 s31 s32 s33 s34 s35 s36 s37 s38 s39 s40 s41 s42 a1 b1 A3 c3 q w :=
  { bel:=h.bel
    hN:=h.hN
    f0:=fun q'=>h.f0 (by rw [upd_ne _ (by decide)] at q';exact q')
    f1:=fun q'=>h.f1 (by rw [upd_ne _ (by decide)] at q';exact q')
    f2:=fun q'=>h.f2 (by rw [upd_ne _ (by decide)] at q';exact q')
    f3:=fun q'=>h.f3 (by rw [upd_ne _ (by decide)] at q';exact q')
    f4:=fun _=>rfl
    f5:=fun q'=>h.f5 (by rw [upd_ne _ (by decide)] at q';exact q')
    f6:=fun q'=>h.f6 (by rw [upd_ne _ (by decide)] at q';exact q')
    f7:=fun q'=>h.f7 (by rw [upd_ne _ (by decide)] at q';exact q')
    f8:=fun q'=>h.f8 (by rw [upd_ne _ (by decide)] at q';exact q')
    f9:=fun q'=>h.f9 (by rw [upd_ne _ (by decide)] at q';exact q')
    f10:=fun q'=>h.f10 (by rw [upd_ne _ (by decide)] at q';exact q')
    f11:=fun q'=>h.f11 (by rw [upd_ne _ (by decide)] at q';exact q')
    f12:=fun q'=>h.f12 (by rw [upd_ne _ (by decide)] at q';exact q')
    f13:=fun q'=>h.f13 (by rw [upd_ne _ (by decide)] at q';exact q')
    f14:=fun q'=>h.f14 (by rw [upd_ne _ (by decide)] at q';exact q')
    f15:=fun q'=>h.f15 (by rw [upd_ne _ (by decide)] at q';exact q')
    f16:=fun q'=>h.f16 (by rw [upd_ne _ (by decide)] at q';exact q')
    f17:=fun q'=>by
      obtain ⟨a,b,c⟩:=h.f17 (by rw [upd_ne _ (by decide)] at q';exact q')
      exact ⟨by rw [upd_ne _ (by decide)];exact a,by rw [upd_ne _ (by decide)];exact b,c⟩
    f18:=fun q'=>by
      obtain ⟨a,b,c⟩:=h.f18 (by rw [upd_ne _ (by decide)] at q';exact q')
      exact ⟨by rw [upd_ne _ (by decide)];exact a,b,c⟩
    f20:=fun q'=>h.f20 (by rw [upd_ne _ (by decide)] at q';exact q') }
theorem C2.u5 (h:C2 o B p b off n c x A' c' N wr D s22 s23 s24 s25 s26 s27 s28 s29 s30 s31 s32 s33 s34 s35 s36 s37 s38 s39 s40 s41 s42 a1 b1 A3 c3 q w) (hi:D 5=false)  : C2 o B p b off n c x A' c' N wr (upd D 5) s22 s23 s24 s25 s26 (.pointer (some ⟨b,off+p * 12,none⟩)) s28 s29 s30 s31 s32 s33 s34 s35 s36 s37 s38 s39 s40 s41 s42 a1 b1 A3 c3 q w :=
  { bel:=h.bel
    hN:=h.hN
    f0:=fun q'=>h.f0 (by rw [upd_ne _ (by decide)] at q';exact q')
    f1:=fun q'=>h.f1 (by rw [upd_ne _ (by decide)] at q';exact q')
    f2:=fun q'=>h.f2 (by rw [upd_ne _ (by decide)] at q';exact q')
    f3:=fun q'=>h.f3 (by rw [upd_ne _ (by decide)] at q';exact q')
    f4:=fun q'=>h.f4 (by rw [upd_ne _ (by decide)] at q';exact q')
    f5:=fun _=>rfl
    f6:=fun q'=>h.f6 (by rw [upd_ne _ (by decide)] at q';exact q')
    f7:=fun q'=>h.f7 (by rw [upd_ne _ (by decide)] at q';exact q')
    f8:=fun q'=>h.f8 (by rw [upd_ne _ (by decide)] at q';exact q')
    f9:=fun q'=>h.f9 (by rw [upd_ne _ (by decide)] at q';exact q')
    f10:=fun q'=>h.f10 (by rw [upd_ne _ (by decide)] at q';exact q')
    f11:=fun q'=>h.f11 (by rw [upd_ne _ (by decide)] at q';exact q')
    f12:=fun q'=>h.f12 (by rw [upd_ne _ (by decide)] at q';exact q')
    f13:=fun q'=>h.f13 (by rw [upd_ne _ (by decide)] at q';exact q')
    f14:=fun q'=>h.f14 (by rw [upd_ne _ (by decide)] at q';exact q')
    f15:=fun q'=>h.f15 (by rw [upd_ne _ (by decide)] at q';exact q')
    f16:=fun q'=>h.f16 (by rw [upd_ne _ (by decide)] at q';exact q')
    f17:=fun q'=>by
      obtain ⟨a,b,c⟩:=h.f17 (by rw [upd_ne _ (by decide)] at q';exact q')
      exact ⟨by rw [upd_ne _ (by decide)];exact a,by rw [upd_ne _ (by decide)];exact b,c⟩
    f18:=fun q'=>by
      obtain ⟨a,b,c⟩:=h.f18 (by rw [upd_ne _ (by decide)] at q';exact q')
      exact ⟨by rw [upd_ne _ (by decide)];exact a,b,c⟩
    f20:=fun q'=>h.f20 (by rw [upd_ne _ (by decide)] at q';exact q') }
theorem C2.u6 (h:C2 o B p b off n c x A' c' N wr D s22 s23 s24 s25 s26 s27 s28 s29 s30 s31 s32 s33 s34 s35 s36 s37 s38 s39 s40 s41 s42 a1 b1 A3 c3 q w) (hi:D 6=false)  : C2 o B p b off n c x A' c' N wr (upd D 6) s22 s23 s24 s25 s26 s27 (.pointer (some ⟨b,off+p * 12,none⟩)) s29 s30 s31 s32 s33 s34 s35 s36 s37 s38 s39 s40 s41 s42 a1 b1 A3 c3 q w :=
  { bel:=h.bel
    hN:=h.hN
    f0:=fun q'=>h.f0 (by rw [upd_ne _ (by decide)] at q';exact q')
    f1:=fun q'=>h.f1 (by rw [upd_ne _ (by decide)] at q';exact q')
    f2:=fun q'=>h.f2 (by rw [upd_ne _ (by decide)] at q';exact q')
    f3:=fun q'=>h.f3 (by rw [upd_ne _ (by decide)] at q';exact q')
    f4:=fun q'=>h.f4 (by rw [upd_ne _ (by decide)] at q';exact q')
    f5:=fun q'=>h.f5 (by rw [upd_ne _ (by decide)] at q';exact q')
    f6:=fun _=>rfl
    f7:=fun q'=>h.f7 (by rw [upd_ne _ (by decide)] at q';exact q')
    f8:=fun q'=>h.f8 (by rw [upd_ne _ (by decide)] at q';exact q')
    f9:=fun q'=>h.f9 (by rw [upd_ne _ (by decide)] at q';exact q')
    f10:=fun q'=>h.f10 (by rw [upd_ne _ (by decide)] at q';exact q')
    f11:=fun q'=>h.f11 (by rw [upd_ne _ (by decide)] at q';exact q')
    f12:=fun q'=>h.f12 (by rw [upd_ne _ (by decide)] at q';exact q')
    f13:=fun q'=>h.f13 (by rw [upd_ne _ (by decide)] at q';exact q')
    f14:=fun q'=>h.f14 (by rw [upd_ne _ (by decide)] at q';exact q')
    f15:=fun q'=>h.f15 (by rw [upd_ne _ (by decide)] at q';exact q')
    f16:=fun q'=>h.f16 (by rw [upd_ne _ (by decide)] at q';exact q')
    f17:=fun q'=>by
      obtain ⟨a,b,c⟩:=h.f17 (by rw [upd_ne _ (by decide)] at q';exact q')
      exact ⟨by rw [upd_ne _ (by decide)];exact a,by rw [upd_ne _ (by decide)];exact b,c⟩
    f18:=fun q'=>by
      obtain ⟨a,b,c⟩:=h.f18 (by rw [upd_ne _ (by decide)] at q';exact q')
      exact ⟨by rw [upd_ne _ (by decide)];exact a,b,c⟩
    f20:=fun q'=>h.f20 (by rw [upd_ne _ (by decide)] at q';exact q') }
theorem C2.u7 (h:C2 o B p b off n c x A' c' N wr D s22 s23 s24 s25 s26 s27 s28 s29 s30 s31 s32 s33 s34 s35 s36 s37 s38 s39 s40 s41 s42 a1 b1 A3 c3 q w) (hi:D 7=false)  : C2 o B p b off n c x A' c' N wr (upd D 7) s22 s23 s24 s25 s26 s27 s28 (.agg #[.int .i64 x.2.l.id,.int .i64 x.2.l.ticks,.int .i64 x.2.l.sx,.int .i64 x.2.l.sy,.slice x.1.w.a x.1.w.n x.1.w.c,.slice x.1.g.a x.1.g.n x.1.g.c,.int .i64 x.2.l.f.1,.int .i64 x.2.l.f.2.1,.int .i64 x.2.l.f.2.2.1,.int .i64 x.2.l.f.2.2.2,.int .i64 x.2.l.bans]) s30 s31 s32 s33 s34 s35 s36 s37 s38 s39 s40 s41 s42 a1 b1 A3 c3 q w :=
  { bel:=h.bel
    hN:=h.hN
    f0:=fun q'=>h.f0 (by rw [upd_ne _ (by decide)] at q';exact q')
    f1:=fun q'=>h.f1 (by rw [upd_ne _ (by decide)] at q';exact q')
    f2:=fun q'=>h.f2 (by rw [upd_ne _ (by decide)] at q';exact q')
    f3:=fun q'=>h.f3 (by rw [upd_ne _ (by decide)] at q';exact q')
    f4:=fun q'=>h.f4 (by rw [upd_ne _ (by decide)] at q';exact q')
    f5:=fun q'=>h.f5 (by rw [upd_ne _ (by decide)] at q';exact q')
    f6:=fun q'=>h.f6 (by rw [upd_ne _ (by decide)] at q';exact q')
    f7:=fun _=>rfl
    f8:=fun q'=>h.f8 (by rw [upd_ne _ (by decide)] at q';exact q')
    f9:=fun q'=>h.f9 (by rw [upd_ne _ (by decide)] at q';exact q')
    f10:=fun q'=>h.f10 (by rw [upd_ne _ (by decide)] at q';exact q')
    f11:=fun q'=>h.f11 (by rw [upd_ne _ (by decide)] at q';exact q')
    f12:=fun q'=>h.f12 (by rw [upd_ne _ (by decide)] at q';exact q')
    f13:=fun q'=>h.f13 (by rw [upd_ne _ (by decide)] at q';exact q')
    f14:=fun q'=>h.f14 (by rw [upd_ne _ (by decide)] at q';exact q')
    f15:=fun q'=>h.f15 (by rw [upd_ne _ (by decide)] at q';exact q')
    f16:=fun q'=>h.f16 (by rw [upd_ne _ (by decide)] at q';exact q')
    f17:=fun q'=>by
      obtain ⟨a,b,c⟩:=h.f17 (by rw [upd_ne _ (by decide)] at q';exact q')
      exact ⟨by rw [upd_ne _ (by decide)];exact a,by rw [upd_ne _ (by decide)];exact b,c⟩
    f18:=fun q'=>by
      obtain ⟨a,b,c⟩:=h.f18 (by rw [upd_ne _ (by decide)] at q';exact q')
      exact ⟨by rw [upd_ne _ (by decide)];exact a,b,c⟩
    f20:=fun q'=>h.f20 (by rw [upd_ne _ (by decide)] at q';exact q') }
theorem C2.u8 (h:C2 o B p b off n c x A' c' N wr D s22 s23 s24 s25 s26 s27 s28 s29 s30 s31 s32 s33 s34 s35 s36 s37 s38 s39 s40 s41 s42 a1 b1 A3 c3 q w) (hi:D 8=false) (a2 b2:Sl) (ho:OwL N w.heap.size w x.2.l a2 b2) (hd:(blkOf a2 ++ blkOf b2).Nodup):C2 o B p b off n c x A' c' N wr (upd D 8) s22 s23 s24 s25 s26 s27 s28 s29 (.agg #[.int .i64 x.2.l.id,.int .i64 x.2.l.ticks,.int .i64 x.2.l.sx,.int .i64 x.2.l.sy,.slice a2.a a2.n a2.c,.slice b2.a b2.n b2.c,.int .i64 x.2.l.f.1,.int .i64 x.2.l.f.2.1,.int .i64 x.2.l.f.2.2.1,.int .i64 x.2.l.f.2.2.2,.int .i64 x.2.l.bans]) s31 s32 s33 s34 s35 s36 s37 s38 s39 s40 s41 s42 a2 b2 A3 c3 q w :=
  { bel:=h.bel
    hN:=h.hN
    f0:=fun q'=>h.f0 (by rw [upd_ne _ (by decide)] at q';exact q')
    f1:=fun q'=>h.f1 (by rw [upd_ne _ (by decide)] at q';exact q')
    f2:=fun q'=>h.f2 (by rw [upd_ne _ (by decide)] at q';exact q')
    f3:=fun q'=>h.f3 (by rw [upd_ne _ (by decide)] at q';exact q')
    f4:=fun q'=>h.f4 (by rw [upd_ne _ (by decide)] at q';exact q')
    f5:=fun q'=>h.f5 (by rw [upd_ne _ (by decide)] at q';exact q')
    f6:=fun q'=>h.f6 (by rw [upd_ne _ (by decide)] at q';exact q')
    f7:=fun q'=>h.f7 (by rw [upd_ne _ (by decide)] at q';exact q')
    f8:=fun _=>⟨rfl,ho,hd⟩
    f9:=fun q'=>h.f9 (by rw [upd_ne _ (by decide)] at q';exact q')
    f10:=fun q'=>h.f10 (by rw [upd_ne _ (by decide)] at q';exact q')
    f11:=fun q'=>h.f11 (by rw [upd_ne _ (by decide)] at q';exact q')
    f12:=fun q'=>h.f12 (by rw [upd_ne _ (by decide)] at q';exact q')
    f13:=fun q'=>h.f13 (by rw [upd_ne _ (by decide)] at q';exact q')
    f14:=fun q'=>h.f14 (by rw [upd_ne _ (by decide)] at q';exact q')
    f15:=fun q'=>h.f15 (by rw [upd_ne _ (by decide)] at q';exact q')
    f16:=fun q'=>h.f16 (by rw [upd_ne _ (by decide)] at q';exact q')
    f17:=fun q'=>absurd ((h.f17 (by rw [upd_ne _ (by decide)] at q';exact q')).1) (by rw [hi];exact Bool.false_ne_true)
    f18:=fun q'=>absurd ((h.f17 (h.f18 (by rw [upd_ne _ (by decide)] at q';exact q')).1).1) (by rw [hi];exact Bool.false_ne_true)
    f20:=fun q'=>h.f20 (by rw [upd_ne _ (by decide)] at q';exact q') }
theorem C2.u9 (h:C2 o B p b off n c x A' c' N wr D s22 s23 s24 s25 s26 s27 s28 s29 s30 s31 s32 s33 s34 s35 s36 s37 s38 s39 s40 s41 s42 a1 b1 A3 c3 q w) (hi:D 9=false) (A:Option Addr):C2 o B p b off n c x A' c' N wr (upd D 9) s22 s23 s24 s25 s26 s27 s28 s29 s30 (.slice A 0 0) s32 s33 s34 s35 s36 s37 s38 s39 s40 s41 s42 a1 b1 A3 c3 q w :=
  { bel:=h.bel
    hN:=h.hN
    f0:=fun q'=>h.f0 (by rw [upd_ne _ (by decide)] at q';exact q')
    f1:=fun q'=>h.f1 (by rw [upd_ne _ (by decide)] at q';exact q')
    f2:=fun q'=>h.f2 (by rw [upd_ne _ (by decide)] at q';exact q')
    f3:=fun q'=>h.f3 (by rw [upd_ne _ (by decide)] at q';exact q')
    f4:=fun q'=>h.f4 (by rw [upd_ne _ (by decide)] at q';exact q')
    f5:=fun q'=>h.f5 (by rw [upd_ne _ (by decide)] at q';exact q')
    f6:=fun q'=>h.f6 (by rw [upd_ne _ (by decide)] at q';exact q')
    f7:=fun q'=>h.f7 (by rw [upd_ne _ (by decide)] at q';exact q')
    f8:=fun q'=>h.f8 (by rw [upd_ne _ (by decide)] at q';exact q')
    f9:=fun _=>⟨A,rfl⟩
    f10:=fun q'=>h.f10 (by rw [upd_ne _ (by decide)] at q';exact q')
    f11:=fun q'=>h.f11 (by rw [upd_ne _ (by decide)] at q';exact q')
    f12:=fun q'=>h.f12 (by rw [upd_ne _ (by decide)] at q';exact q')
    f13:=fun q'=>h.f13 (by rw [upd_ne _ (by decide)] at q';exact q')
    f14:=fun q'=>h.f14 (by rw [upd_ne _ (by decide)] at q';exact q')
    f15:=fun q'=>h.f15 (by rw [upd_ne _ (by decide)] at q';exact q')
    f16:=fun q'=>h.f16 (by rw [upd_ne _ (by decide)] at q';exact q')
    f17:=fun q'=>by
      obtain ⟨a,b,c⟩:=h.f17 (by rw [upd_ne _ (by decide)] at q';exact q')
      exact ⟨by rw [upd_ne _ (by decide)];exact a,by rw [upd_ne _ (by decide)];exact b,c⟩
    f18:=fun q'=>by
      obtain ⟨a,b,c⟩:=h.f18 (by rw [upd_ne _ (by decide)] at q';exact q')
      exact ⟨by rw [upd_ne _ (by decide)];exact a,b,c⟩
    f20:=fun q'=>h.f20 (by rw [upd_ne _ (by decide)] at q';exact q') }
theorem C2.u10 (h:C2 o B p b off n c x A' c' N wr D s22 s23 s24 s25 s26 s27 s28 s29 s30 s31 s32 s33 s34 s35 s36 s37 s38 s39 s40 s41 s42 a1 b1 A3 c3 q w) (hi:D 10=false)  : C2 o B p b off n c x A' c' N wr (upd D 10) s22 s23 s24 s25 s26 s27 s28 s29 s30 s31 (.pointer (some ⟨B,0,none⟩)) s33 s34 s35 s36 s37 s38 s39 s40 s41 s42 a1 b1 A3 c3 q w :=
  { bel:=h.bel
    hN:=h.hN
    f0:=fun q'=>h.f0 (by rw [upd_ne _ (by decide)] at q';exact q')
    f1:=fun q'=>h.f1 (by rw [upd_ne _ (by decide)] at q';exact q')
    f2:=fun q'=>h.f2 (by rw [upd_ne _ (by decide)] at q';exact q')
    f3:=fun q'=>h.f3 (by rw [upd_ne _ (by decide)] at q';exact q')
    f4:=fun q'=>h.f4 (by rw [upd_ne _ (by decide)] at q';exact q')
    f5:=fun q'=>h.f5 (by rw [upd_ne _ (by decide)] at q';exact q')
    f6:=fun q'=>h.f6 (by rw [upd_ne _ (by decide)] at q';exact q')
    f7:=fun q'=>h.f7 (by rw [upd_ne _ (by decide)] at q';exact q')
    f8:=fun q'=>h.f8 (by rw [upd_ne _ (by decide)] at q';exact q')
    f9:=fun q'=>h.f9 (by rw [upd_ne _ (by decide)] at q';exact q')
    f10:=fun _=>rfl
    f11:=fun q'=>h.f11 (by rw [upd_ne _ (by decide)] at q';exact q')
    f12:=fun q'=>h.f12 (by rw [upd_ne _ (by decide)] at q';exact q')
    f13:=fun q'=>h.f13 (by rw [upd_ne _ (by decide)] at q';exact q')
    f14:=fun q'=>h.f14 (by rw [upd_ne _ (by decide)] at q';exact q')
    f15:=fun q'=>h.f15 (by rw [upd_ne _ (by decide)] at q';exact q')
    f16:=fun q'=>h.f16 (by rw [upd_ne _ (by decide)] at q';exact q')
    f17:=fun q'=>by
      obtain ⟨a,b,c⟩:=h.f17 (by rw [upd_ne _ (by decide)] at q';exact q')
      exact ⟨by rw [upd_ne _ (by decide)];exact a,by rw [upd_ne _ (by decide)];exact b,c⟩
    f18:=fun q'=>by
      obtain ⟨a,b,c⟩:=h.f18 (by rw [upd_ne _ (by decide)] at q';exact q')
      exact ⟨by rw [upd_ne _ (by decide)];exact a,b,c⟩
    f20:=fun q'=>h.f20 (by rw [upd_ne _ (by decide)] at q';exact q') }
theorem C2.u11 (h:C2 o B p b off n c x A' c' N wr D s22 s23 s24 s25 s26 s27 s28 s29 s30 s31 s32 s33 s34 s35 s36 s37 s38 s39 s40 s41 s42 a1 b1 A3 c3 q w) (hi:D 11=false)  : C2 o B p b off n c x A' c' N wr (upd D 11) s22 s23 s24 s25 s26 s27 s28 s29 s30 s31 s32 (.slice (some ⟨b,off,none⟩) n c) s34 s35 s36 s37 s38 s39 s40 s41 s42 a1 b1 A3 c3 q w :=
  { bel:=h.bel
    hN:=h.hN
    f0:=fun q'=>h.f0 (by rw [upd_ne _ (by decide)] at q';exact q')
    f1:=fun q'=>h.f1 (by rw [upd_ne _ (by decide)] at q';exact q')
    f2:=fun q'=>h.f2 (by rw [upd_ne _ (by decide)] at q';exact q')
    f3:=fun q'=>h.f3 (by rw [upd_ne _ (by decide)] at q';exact q')
    f4:=fun q'=>h.f4 (by rw [upd_ne _ (by decide)] at q';exact q')
    f5:=fun q'=>h.f5 (by rw [upd_ne _ (by decide)] at q';exact q')
    f6:=fun q'=>h.f6 (by rw [upd_ne _ (by decide)] at q';exact q')
    f7:=fun q'=>h.f7 (by rw [upd_ne _ (by decide)] at q';exact q')
    f8:=fun q'=>h.f8 (by rw [upd_ne _ (by decide)] at q';exact q')
    f9:=fun q'=>h.f9 (by rw [upd_ne _ (by decide)] at q';exact q')
    f10:=fun q'=>h.f10 (by rw [upd_ne _ (by decide)] at q';exact q')
    f11:=fun _=>rfl
    f12:=fun q'=>h.f12 (by rw [upd_ne _ (by decide)] at q';exact q')
    f13:=fun q'=>h.f13 (by rw [upd_ne _ (by decide)] at q';exact q')
    f14:=fun q'=>h.f14 (by rw [upd_ne _ (by decide)] at q';exact q')
    f15:=fun q'=>h.f15 (by rw [upd_ne _ (by decide)] at q';exact q')
    f16:=fun q'=>h.f16 (by rw [upd_ne _ (by decide)] at q';exact q')
    f17:=fun q'=>by
      obtain ⟨a,b,c⟩:=h.f17 (by rw [upd_ne _ (by decide)] at q';exact q')
      exact ⟨by rw [upd_ne _ (by decide)];exact a,by rw [upd_ne _ (by decide)];exact b,c⟩
    f18:=fun q'=>by
      obtain ⟨a,b,c⟩:=h.f18 (by rw [upd_ne _ (by decide)] at q';exact q')
      exact ⟨by rw [upd_ne _ (by decide)];exact a,b,c⟩
    f20:=fun q'=>h.f20 (by rw [upd_ne _ (by decide)] at q';exact q') }
theorem C2.u12 (h:C2 o B p b off n c x A' c' N wr D s22 s23 s24 s25 s26 s27 s28 s29 s30 s31 s32 s33 s34 s35 s36 s37 s38 s39 s40 s41 s42 a1 b1 A3 c3 q w) (hi:D 12=false)  : C2 o B p b off n c x A' c' N wr (upd D 12) s22 s23 s24 s25 s26 s27 s28 s29 s30 s31 s32 s33 (.int .i64 p) s35 s36 s37 s38 s39 s40 s41 s42 a1 b1 A3 c3 q w :=
  { bel:=h.bel
    hN:=h.hN
    f0:=fun q'=>h.f0 (by rw [upd_ne _ (by decide)] at q';exact q')
    f1:=fun q'=>h.f1 (by rw [upd_ne _ (by decide)] at q';exact q')
    f2:=fun q'=>h.f2 (by rw [upd_ne _ (by decide)] at q';exact q')
    f3:=fun q'=>h.f3 (by rw [upd_ne _ (by decide)] at q';exact q')
    f4:=fun q'=>h.f4 (by rw [upd_ne _ (by decide)] at q';exact q')
    f5:=fun q'=>h.f5 (by rw [upd_ne _ (by decide)] at q';exact q')
    f6:=fun q'=>h.f6 (by rw [upd_ne _ (by decide)] at q';exact q')
    f7:=fun q'=>h.f7 (by rw [upd_ne _ (by decide)] at q';exact q')
    f8:=fun q'=>h.f8 (by rw [upd_ne _ (by decide)] at q';exact q')
    f9:=fun q'=>h.f9 (by rw [upd_ne _ (by decide)] at q';exact q')
    f10:=fun q'=>h.f10 (by rw [upd_ne _ (by decide)] at q';exact q')
    f11:=fun q'=>h.f11 (by rw [upd_ne _ (by decide)] at q';exact q')
    f12:=fun _=>rfl
    f13:=fun q'=>h.f13 (by rw [upd_ne _ (by decide)] at q';exact q')
    f14:=fun q'=>h.f14 (by rw [upd_ne _ (by decide)] at q';exact q')
    f15:=fun q'=>h.f15 (by rw [upd_ne _ (by decide)] at q';exact q')
    f16:=fun q'=>h.f16 (by rw [upd_ne _ (by decide)] at q';exact q')
    f17:=fun q'=>by
      obtain ⟨a,b,c⟩:=h.f17 (by rw [upd_ne _ (by decide)] at q';exact q')
      exact ⟨by rw [upd_ne _ (by decide)];exact a,by rw [upd_ne _ (by decide)];exact b,c⟩
    f18:=fun q'=>by
      obtain ⟨a,b,c⟩:=h.f18 (by rw [upd_ne _ (by decide)] at q';exact q')
      exact ⟨by rw [upd_ne _ (by decide)];exact a,b,c⟩
    f20:=fun q'=>h.f20 (by rw [upd_ne _ (by decide)] at q';exact q') }
theorem C2.u13 (h:C2 o B p b off n c x A' c' N wr D s22 s23 s24 s25 s26 s27 s28 s29 s30 s31 s32 s33 s34 s35 s36 s37 s38 s39 s40 s41 s42 a1 b1 A3 c3 q w) (hi:D 13=false)  : C2 o B p b off n c x A' c' N wr (upd D 13) s22 s23 s24 s25 s26 s27 s28 s29 s30 s31 s32 s33 s34 (.pointer (some ⟨b,off+p * 12,none⟩)) s36 s37 s38 s39 s40 s41 s42 a1 b1 A3 c3 q w :=
  { bel:=h.bel
    hN:=h.hN
    f0:=fun q'=>h.f0 (by rw [upd_ne _ (by decide)] at q';exact q')
    f1:=fun q'=>h.f1 (by rw [upd_ne _ (by decide)] at q';exact q')
    f2:=fun q'=>h.f2 (by rw [upd_ne _ (by decide)] at q';exact q')
    f3:=fun q'=>h.f3 (by rw [upd_ne _ (by decide)] at q';exact q')
    f4:=fun q'=>h.f4 (by rw [upd_ne _ (by decide)] at q';exact q')
    f5:=fun q'=>h.f5 (by rw [upd_ne _ (by decide)] at q';exact q')
    f6:=fun q'=>h.f6 (by rw [upd_ne _ (by decide)] at q';exact q')
    f7:=fun q'=>h.f7 (by rw [upd_ne _ (by decide)] at q';exact q')
    f8:=fun q'=>h.f8 (by rw [upd_ne _ (by decide)] at q';exact q')
    f9:=fun q'=>h.f9 (by rw [upd_ne _ (by decide)] at q';exact q')
    f10:=fun q'=>h.f10 (by rw [upd_ne _ (by decide)] at q';exact q')
    f11:=fun q'=>h.f11 (by rw [upd_ne _ (by decide)] at q';exact q')
    f12:=fun q'=>h.f12 (by rw [upd_ne _ (by decide)] at q';exact q')
    f13:=fun _=>rfl
    f14:=fun q'=>h.f14 (by rw [upd_ne _ (by decide)] at q';exact q')
    f15:=fun q'=>h.f15 (by rw [upd_ne _ (by decide)] at q';exact q')
    f16:=fun q'=>h.f16 (by rw [upd_ne _ (by decide)] at q';exact q')
    f17:=fun q'=>by
      obtain ⟨a,b,c⟩:=h.f17 (by rw [upd_ne _ (by decide)] at q';exact q')
      exact ⟨by rw [upd_ne _ (by decide)];exact a,by rw [upd_ne _ (by decide)];exact b,c⟩
    f18:=fun q'=>by
      obtain ⟨a,b,c⟩:=h.f18 (by rw [upd_ne _ (by decide)] at q';exact q')
      exact ⟨by rw [upd_ne _ (by decide)];exact a,b,c⟩
    f20:=fun q'=>h.f20 (by rw [upd_ne _ (by decide)] at q';exact q') }
theorem C2.u14 (h:C2 o B p b off n c x A' c' N wr D s22 s23 s24 s25 s26 s27 s28 s29 s30 s31 s32 s33 s34 s35 s36 s37 s38 s39 s40 s41 s42 a1 b1 A3 c3 q w) (hi:D 14=false)  : C2 o B p b off n c x A' c' N wr (upd D 14) s22 s23 s24 s25 s26 s27 s28 s29 s30 s31 s32 s33 s34 s35 (.pointer (some ⟨b,off+p * 12+11,none⟩)) s37 s38 s39 s40 s41 s42 a1 b1 A3 c3 q w :=
  { bel:=h.bel
    hN:=h.hN
    f0:=fun q'=>h.f0 (by rw [upd_ne _ (by decide)] at q';exact q')
    f1:=fun q'=>h.f1 (by rw [upd_ne _ (by decide)] at q';exact q')
    f2:=fun q'=>h.f2 (by rw [upd_ne _ (by decide)] at q';exact q')
    f3:=fun q'=>h.f3 (by rw [upd_ne _ (by decide)] at q';exact q')
    f4:=fun q'=>h.f4 (by rw [upd_ne _ (by decide)] at q';exact q')
    f5:=fun q'=>h.f5 (by rw [upd_ne _ (by decide)] at q';exact q')
    f6:=fun q'=>h.f6 (by rw [upd_ne _ (by decide)] at q';exact q')
    f7:=fun q'=>h.f7 (by rw [upd_ne _ (by decide)] at q';exact q')
    f8:=fun q'=>h.f8 (by rw [upd_ne _ (by decide)] at q';exact q')
    f9:=fun q'=>h.f9 (by rw [upd_ne _ (by decide)] at q';exact q')
    f10:=fun q'=>h.f10 (by rw [upd_ne _ (by decide)] at q';exact q')
    f11:=fun q'=>h.f11 (by rw [upd_ne _ (by decide)] at q';exact q')
    f12:=fun q'=>h.f12 (by rw [upd_ne _ (by decide)] at q';exact q')
    f13:=fun q'=>h.f13 (by rw [upd_ne _ (by decide)] at q';exact q')
    f14:=fun _=>rfl
    f15:=fun q'=>h.f15 (by rw [upd_ne _ (by decide)] at q';exact q')
    f16:=fun q'=>h.f16 (by rw [upd_ne _ (by decide)] at q';exact q')
    f17:=fun q'=>by
      obtain ⟨a,b,c⟩:=h.f17 (by rw [upd_ne _ (by decide)] at q';exact q')
      exact ⟨by rw [upd_ne _ (by decide)];exact a,by rw [upd_ne _ (by decide)];exact b,c⟩
    f18:=fun q'=>by
      obtain ⟨a,b,c⟩:=h.f18 (by rw [upd_ne _ (by decide)] at q';exact q')
      exact ⟨by rw [upd_ne _ (by decide)];exact a,b,c⟩
    f20:=fun q'=>h.f20 (by rw [upd_ne _ (by decide)] at q';exact q') }
theorem C2.u15 (h:C2 o B p b off n c x A' c' N wr D s22 s23 s24 s25 s26 s27 s28 s29 s30 s31 s32 s33 s34 s35 s36 s37 s38 s39 s40 s41 s42 a1 b1 A3 c3 q w) (hi:D 15=false)  : C2 o B p b off n c x A' c' N wr (upd D 15) s22 s23 s24 s25 s26 s27 s28 s29 s30 s31 s32 s33 s34 s35 s36 (.slice x.1.b.a x.1.b.n x.1.b.c) s38 s39 s40 s41 s42 a1 b1 A3 c3 q w :=
  { bel:=h.bel
    hN:=h.hN
    f0:=fun q'=>h.f0 (by rw [upd_ne _ (by decide)] at q';exact q')
    f1:=fun q'=>h.f1 (by rw [upd_ne _ (by decide)] at q';exact q')
    f2:=fun q'=>h.f2 (by rw [upd_ne _ (by decide)] at q';exact q')
    f3:=fun q'=>h.f3 (by rw [upd_ne _ (by decide)] at q';exact q')
    f4:=fun q'=>h.f4 (by rw [upd_ne _ (by decide)] at q';exact q')
    f5:=fun q'=>h.f5 (by rw [upd_ne _ (by decide)] at q';exact q')
    f6:=fun q'=>h.f6 (by rw [upd_ne _ (by decide)] at q';exact q')
    f7:=fun q'=>h.f7 (by rw [upd_ne _ (by decide)] at q';exact q')
    f8:=fun q'=>h.f8 (by rw [upd_ne _ (by decide)] at q';exact q')
    f9:=fun q'=>h.f9 (by rw [upd_ne _ (by decide)] at q';exact q')
    f10:=fun q'=>h.f10 (by rw [upd_ne _ (by decide)] at q';exact q')
    f11:=fun q'=>h.f11 (by rw [upd_ne _ (by decide)] at q';exact q')
    f12:=fun q'=>h.f12 (by rw [upd_ne _ (by decide)] at q';exact q')
    f13:=fun q'=>h.f13 (by rw [upd_ne _ (by decide)] at q';exact q')
    f14:=fun q'=>h.f14 (by rw [upd_ne _ (by decide)] at q';exact q')
    f15:=fun _=>rfl
    f16:=fun q'=>h.f16 (by rw [upd_ne _ (by decide)] at q';exact q')
    f17:=fun q'=>by
      obtain ⟨a,b,c⟩:=h.f17 (by rw [upd_ne _ (by decide)] at q';exact q')
      exact ⟨by rw [upd_ne _ (by decide)];exact a,by rw [upd_ne _ (by decide)];exact b,c⟩
    f18:=fun q'=>by
      obtain ⟨a,b,c⟩:=h.f18 (by rw [upd_ne _ (by decide)] at q';exact q')
      exact ⟨by rw [upd_ne _ (by decide)];exact a,b,c⟩
    f20:=fun q'=>h.f20 (by rw [upd_ne _ (by decide)] at q';exact q') }
theorem C2.u16 (h:C2 o B p b off n c x A' c' N wr D s22 s23 s24 s25 s26 s27 s28 s29 s30 s31 s32 s33 s34 s35 s36 s37 s38 s39 s40 s41 s42 a1 b1 A3 c3 q w) (hi:D 16=false) (A2:Option Addr) (c2:Nat) (ho:OwEn N w.heap.size w ⟨A2,x.1.b.n,c2⟩ x.2.b):C2 o B p b off n c x A' c' N wr (upd D 16) s22 s23 s24 s25 s26 s27 s28 s29 s30 s31 s32 s33 s34 s35 s36 s37 (.slice A2 x.1.b.n c2) s39 s40 s41 s42 a1 b1 A2 c2 q w :=
  { bel:=h.bel
    hN:=h.hN
    f0:=fun q'=>h.f0 (by rw [upd_ne _ (by decide)] at q';exact q')
    f1:=fun q'=>h.f1 (by rw [upd_ne _ (by decide)] at q';exact q')
    f2:=fun q'=>h.f2 (by rw [upd_ne _ (by decide)] at q';exact q')
    f3:=fun q'=>h.f3 (by rw [upd_ne _ (by decide)] at q';exact q')
    f4:=fun q'=>h.f4 (by rw [upd_ne _ (by decide)] at q';exact q')
    f5:=fun q'=>h.f5 (by rw [upd_ne _ (by decide)] at q';exact q')
    f6:=fun q'=>h.f6 (by rw [upd_ne _ (by decide)] at q';exact q')
    f7:=fun q'=>h.f7 (by rw [upd_ne _ (by decide)] at q';exact q')
    f8:=fun q'=>h.f8 (by rw [upd_ne _ (by decide)] at q';exact q')
    f9:=fun q'=>h.f9 (by rw [upd_ne _ (by decide)] at q';exact q')
    f10:=fun q'=>h.f10 (by rw [upd_ne _ (by decide)] at q';exact q')
    f11:=fun q'=>h.f11 (by rw [upd_ne _ (by decide)] at q';exact q')
    f12:=fun q'=>h.f12 (by rw [upd_ne _ (by decide)] at q';exact q')
    f13:=fun q'=>h.f13 (by rw [upd_ne _ (by decide)] at q';exact q')
    f14:=fun q'=>h.f14 (by rw [upd_ne _ (by decide)] at q';exact q')
    f15:=fun q'=>h.f15 (by rw [upd_ne _ (by decide)] at q';exact q')
    f16:=fun _=>⟨rfl,ho⟩
    f17:=fun q'=>absurd ((h.f17 (by rw [upd_ne _ (by decide)] at q';exact q')).2.1) (by rw [hi];exact Bool.false_ne_true)
    f18:=fun q'=>absurd ((h.f17 (h.f18 (by rw [upd_ne _ (by decide)] at q';exact q')).1).2.1) (by rw [hi];exact Bool.false_ne_true)
    f20:=fun q'=>h.f20 (by rw [upd_ne _ (by decide)] at q';exact q') }
theorem C2.u17 (h:C2 o B p b off n c x A' c' N wr D s22 s23 s24 s25 s26 s27 s28 s29 s30 s31 s32 s33 s34 s35 s36 s37 s38 s39 s40 s41 s42 a1 b1 A3 c3 q w) (hi:D 17=false) (d8:D 8=true) (d16:D 16=true):C2 o B p b off n c x A' c' N wr (upd D 17) s22 s23 s24 s25 s26 s27 s28 s29 s30 s31 s32 s33 s34 s35 s36 s37 s38 (.agg #[.int .i64 x.2.l.id,.int .i64 x.2.l.ticks,.int .i64 x.2.l.sx,.int .i64 x.2.l.sy,.slice a1.a a1.n a1.c,.slice b1.a b1.n b1.c,.int .i64 x.2.l.f.1,.int .i64 x.2.l.f.2.1,.int .i64 x.2.l.f.2.2.1,.int .i64 x.2.l.f.2.2.2,.int .i64 x.2.l.bans,.slice A3 x.1.b.n c3]) s40 s41 s42 a1 b1 A3 c3 q w :=
  { bel:=h.bel
    hN:=h.hN
    f0:=fun q'=>h.f0 (by rw [upd_ne _ (by decide)] at q';exact q')
    f1:=fun q'=>h.f1 (by rw [upd_ne _ (by decide)] at q';exact q')
    f2:=fun q'=>h.f2 (by rw [upd_ne _ (by decide)] at q';exact q')
    f3:=fun q'=>h.f3 (by rw [upd_ne _ (by decide)] at q';exact q')
    f4:=fun q'=>h.f4 (by rw [upd_ne _ (by decide)] at q';exact q')
    f5:=fun q'=>h.f5 (by rw [upd_ne _ (by decide)] at q';exact q')
    f6:=fun q'=>h.f6 (by rw [upd_ne _ (by decide)] at q';exact q')
    f7:=fun q'=>h.f7 (by rw [upd_ne _ (by decide)] at q';exact q')
    f8:=fun q'=>h.f8 (by rw [upd_ne _ (by decide)] at q';exact q')
    f9:=fun q'=>h.f9 (by rw [upd_ne _ (by decide)] at q';exact q')
    f10:=fun q'=>h.f10 (by rw [upd_ne _ (by decide)] at q';exact q')
    f11:=fun q'=>h.f11 (by rw [upd_ne _ (by decide)] at q';exact q')
    f12:=fun q'=>h.f12 (by rw [upd_ne _ (by decide)] at q';exact q')
    f13:=fun q'=>h.f13 (by rw [upd_ne _ (by decide)] at q';exact q')
    f14:=fun q'=>h.f14 (by rw [upd_ne _ (by decide)] at q';exact q')
    f15:=fun q'=>h.f15 (by rw [upd_ne _ (by decide)] at q';exact q')
    f16:=fun q'=>h.f16 (by rw [upd_ne _ (by decide)] at q';exact q')
    f17:=fun _=>⟨by rw [upd_ne _ (by decide)];exact d8,by rw [upd_ne _ (by decide)];exact d16,rfl⟩
    f18:=fun q'=>absurd ((h.f18 (by rw [upd_ne _ (by decide)] at q';exact q')).1) (by rw [hi];exact Bool.false_ne_true)
    f20:=fun q'=>h.f20 (by rw [upd_ne _ (by decide)] at q';exact q') }
theorem C2.u18 (h:C2 o B p b off n c x A' c' N wr D s22 s23 s24 s25 s26 s27 s28 s29 s30 s31 s32 s33 s34 s35 s36 s37 s38 s39 s40 s41 s42 a1 b1 A3 c3 q w) (hi:D 18=false) (d17:D 17=true) (q2:Nat) (hq:N≤q2) (hb:Blk w q2 65 #[.int .i64 x.2.l.id,.int .i64 x.2.l.ticks,.int .i64 x.2.l.sx,.int .i64 x.2.l.sy,.slice a1.a a1.n a1.c,.slice b1.a b1.n b1.c,.int .i64 x.2.l.f.1,.int .i64 x.2.l.f.2.1,.int .i64 x.2.l.f.2.2.1,.int .i64 x.2.l.f.2.2.2,.int .i64 x.2.l.bans,.slice A3 x.1.b.n c3]):C2 o B p b off n c x A' c' N wr (upd D 18) s22 s23 s24 s25 s26 s27 s28 s29 s30 s31 s32 s33 s34 s35 s36 s37 s38 s39 (.slice (some ⟨q2,0,none⟩) 1 1) s41 s42 a1 b1 A3 c3 q2 w :=
  { bel:=h.bel
    hN:=h.hN
    f0:=fun q'=>h.f0 (by rw [upd_ne _ (by decide)] at q';exact q')
    f1:=fun q'=>h.f1 (by rw [upd_ne _ (by decide)] at q';exact q')
    f2:=fun q'=>h.f2 (by rw [upd_ne _ (by decide)] at q';exact q')
    f3:=fun q'=>h.f3 (by rw [upd_ne _ (by decide)] at q';exact q')
    f4:=fun q'=>h.f4 (by rw [upd_ne _ (by decide)] at q';exact q')
    f5:=fun q'=>h.f5 (by rw [upd_ne _ (by decide)] at q';exact q')
    f6:=fun q'=>h.f6 (by rw [upd_ne _ (by decide)] at q';exact q')
    f7:=fun q'=>h.f7 (by rw [upd_ne _ (by decide)] at q';exact q')
    f8:=fun q'=>h.f8 (by rw [upd_ne _ (by decide)] at q';exact q')
    f9:=fun q'=>h.f9 (by rw [upd_ne _ (by decide)] at q';exact q')
    f10:=fun q'=>h.f10 (by rw [upd_ne _ (by decide)] at q';exact q')
    f11:=fun q'=>h.f11 (by rw [upd_ne _ (by decide)] at q';exact q')
    f12:=fun q'=>h.f12 (by rw [upd_ne _ (by decide)] at q';exact q')
    f13:=fun q'=>h.f13 (by rw [upd_ne _ (by decide)] at q';exact q')
    f14:=fun q'=>h.f14 (by rw [upd_ne _ (by decide)] at q';exact q')
    f15:=fun q'=>h.f15 (by rw [upd_ne _ (by decide)] at q';exact q')
    f16:=fun q'=>h.f16 (by rw [upd_ne _ (by decide)] at q';exact q')
    f17:=fun q'=>by
      obtain ⟨a,b,c⟩:=h.f17 (by rw [upd_ne _ (by decide)] at q';exact q')
      exact ⟨by rw [upd_ne _ (by decide)];exact a,by rw [upd_ne _ (by decide)];exact b,c⟩
    f18:=fun _=>⟨by rw [upd_ne _ (by decide)];exact d17,rfl,hq,hb⟩
    f20:=fun q'=>h.f20 (by rw [upd_ne _ (by decide)] at q';exact q') }
theorem C2.u20 (h:C2 o B p b off n c x A' c' N wr D s22 s23 s24 s25 s26 s27 s28 s29 s30 s31 s32 s33 s34 s35 s36 s37 s38 s39 s40 s41 s42 a1 b1 A3 c3 q w) (hi:D 20=false)  : C2 o B p b off n c x A' c' N wr (upd D 20) s22 s23 s24 s25 s26 s27 s28 s29 s30 s31 s32 s33 s34 s35 s36 s37 s38 s39 s40 s41 (.pointer (some ⟨o,0,none⟩)) a1 b1 A3 c3 q w :=
  { bel:=h.bel
    hN:=h.hN
    f0:=fun q'=>h.f0 (by rw [upd_ne _ (by decide)] at q';exact q')
    f1:=fun q'=>h.f1 (by rw [upd_ne _ (by decide)] at q';exact q')
    f2:=fun q'=>h.f2 (by rw [upd_ne _ (by decide)] at q';exact q')
    f3:=fun q'=>h.f3 (by rw [upd_ne _ (by decide)] at q';exact q')
    f4:=fun q'=>h.f4 (by rw [upd_ne _ (by decide)] at q';exact q')
    f5:=fun q'=>h.f5 (by rw [upd_ne _ (by decide)] at q';exact q')
    f6:=fun q'=>h.f6 (by rw [upd_ne _ (by decide)] at q';exact q')
    f7:=fun q'=>h.f7 (by rw [upd_ne _ (by decide)] at q';exact q')
    f8:=fun q'=>h.f8 (by rw [upd_ne _ (by decide)] at q';exact q')
    f9:=fun q'=>h.f9 (by rw [upd_ne _ (by decide)] at q';exact q')
    f10:=fun q'=>h.f10 (by rw [upd_ne _ (by decide)] at q';exact q')
    f11:=fun q'=>h.f11 (by rw [upd_ne _ (by decide)] at q';exact q')
    f12:=fun q'=>h.f12 (by rw [upd_ne _ (by decide)] at q';exact q')
    f13:=fun q'=>h.f13 (by rw [upd_ne _ (by decide)] at q';exact q')
    f14:=fun q'=>h.f14 (by rw [upd_ne _ (by decide)] at q';exact q')
    f15:=fun q'=>h.f15 (by rw [upd_ne _ (by decide)] at q';exact q')
    f16:=fun q'=>h.f16 (by rw [upd_ne _ (by decide)] at q';exact q')
    f17:=fun q'=>by
      obtain ⟨a,b,c⟩:=h.f17 (by rw [upd_ne _ (by decide)] at q';exact q')
      exact ⟨by rw [upd_ne _ (by decide)];exact a,by rw [upd_ne _ (by decide)];exact b,c⟩
    f18:=fun q'=>by
      obtain ⟨a,b,c⟩:=h.f18 (by rw [upd_ne _ (by decide)] at q';exact q')
      exact ⟨by rw [upd_ne _ (by decide)];exact a,b,c⟩
    f20:=fun _=>rfl }

theorem copy_round2 {o p c' c4 M:Nat} {A' A4:Option Addr} {ys:List Row} {y:Row} {wr xl w3 X:World} (ho:o<M) (hM:M≤wr.heap.size) (hp:p<1048576)
    (hT:OwTs M wr.heap.size wr ⟨A',p,c'⟩ ys) (hb:Below wr.heap.size wr xl)
    (hL:OwL wr.heap.size xl.heap.size xl y.2.l y.1.w y.1.g) (hnd:(blkOf y.1.w ++ blkOf y.1.g).Nodup) (hE:OwEn wr.heap.size xl.heap.size xl y.1.b y.2.b) (hEn:y.1.b.n≤1048576)
    (hO4:Ow M w3 65 12 A4 (p+1) c4 (cellsT ys ++ encT y)) (hg4:xl.grownBy w3 (ownB A' c')) (hX:Frm o (o+1) w3 X) :
    OwTs M X.heap.size X ⟨A4,p+1,c4⟩ (ys ++ [y]):=by
  have hk:Ow M xl 65 12 A' p c' (cellsT ys):=(hT.1.next hb).ow
  have r1:OwR M wr.heap.size X ys:=((hT.rows.next hb).apart hk hg4).frm hX (.inr ho)
  have ry:OwR wr.heap.size xl.heap.size xl [y]:=⟨fun z hz=>by
    obtain rfl:z=y:=List.mem_singleton.1 hz
    exact ⟨hL,hE,hEn⟩,by rw [boxBlks_one];exact hnd,by rw [entBlks_one];exact blkOf_nodup _⟩
  have r2:OwR wr.heap.size xl.heap.size X [y]:=(ry.apart hk hg4).frm hX (.inr (by omega))
  have s1:xl.heap.size≤X.heap.size:=Nat.le_trans hg4.size hX.size
  have hR:=(r1.app r2 hM hb.size).mono (lo':=M) (Nat.le_refl _) s1
  refine OwTs.mk_ ?_ hR (by show p+1≤1048576;omega)
  have h5:=(OwI.of hO4).frm hX (.inr ho)
  have h6:=h5.mono (lo':=M) (Nat.le_refl _) hX.size
  show OwI M _ _ _ 12 _ _ _ (cellsX encT (ys ++ [y]))
  rw [cellsX_append,cellsX_one]
  exact h6
theorem copy_frm2 {o M c':Nat} {A':Option Addr} {wr xl w3 X:World} {p:Nat} {vs:List Value} {wc:World} (hwc:wc.heap.size=M) (h0:Frm o (o+1) wc wr) (hT:OwI M wr.heap.size wr 65 12 A' p c' vs) (hb:Below wr.heap.size wr xl) (hg4:xl.grownBy w3 (ownB A' c')) (hX:Frm o (o+1) w3 X):Frm o (o+1) wc X:=by
  have h1:=h0.next hb
  refine Frm.trans ⟨hg4.os.trans h1.os,hg4.tape.trans h1.tape,hg4.output.trans h1.output,Nat.le_trans h1.size hg4.size,fun i hi ho=>?_⟩ hX
  rw [hg4.block i (Nat.lt_of_lt_of_le hi h1.size) ?_]
  · exact h1.block i hi ho
  · intro e
    unfold ownB at e
    split at e
    · cases e
    · have:=(hT.lt e.symm (by omega)).1
      omega
def Fin2 (o p M:Nat) (wc:World) (Vk Vg:Value) (xs:List Row) (w:World):Prop :=
  ∃ A4 c4 ys,Frm o (o+1) wc w∧Blk w o 42 #[.slice A4 (p+1) c4,Vk,Vg]∧ys.map (·.2)=(xs.take (p+1)).map (·.2)∧OwTs M w.heap.size w ⟨A4,p+1,c4⟩ ys
structure E2 (o p M:Nat) (wc:World) (Vk Vg:Value) (xs:List Row) (D:Nat→Bool) (s41 s42:Value) (w:World):Prop where
  all:∀ j,j<20→D j=true
  f20:D 20=true→s42=.pointer (some ⟨o,0,none⟩)
  old:D 21=false→∃ A4 c4 v,s41=.slice A4 (p+1) c4∧Blk w o 42 #[v,Vk,Vg]∧Fin2 o p M wc Vk Vg xs (w.setCell ⟨o,0,none⟩ (.slice A4 (p+1) c4))
  fin:D 21=true→Fin2 o p M wc Vk Vg xs w
end
end Go.Proofs.YtkgfmgajhgfgjaaGreatDoor

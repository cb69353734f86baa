/-
  Lemmas and contracts: Ee Ef. No condition.
-/
import Derived.Test.YtkgfmgajhgfgjaaGreatDoorKa11
set_option linter.unusedSimpArgs false
set_option linter.unusedVariables false
set_option linter.unusedSectionVars false
namespace Go.Proofs.YtkgfmgajhgfgjaaGreatDoor
open Go.RowKit Go.Sort
def encTx (b:ByteArray):List Value:=[.string b]
theorem encTx_len (x:ByteArray):(encTx x).length=1:=rfl
theorem encTx_one:∀ x,∀ u ∈ encTx x,u.oneCell'=true:=by
 intro b u hu
 simp [encTx] at hu
 rw [hu]
 rfl
theorem infoS:(Tryz.prog.info? 9).map (fun i=>(i.zero,i.size,i.bytes))=some (some (.string ByteArray.empty),1,16):=by kernel_rfl
def byteAt (s:ByteArray) (i:Nat):Int:=if h:i<s.size then ((s[i]).toNat:Int) else 0
theorem byteAt_get {s:ByteArray} {k:Nat} (h:k<s.size):byteAt s k=(s[k].toNat:Int):=by simp [byteAt,h]
def cutGo (s:ByteArray) (z:Int):Nat→Nat→Nat→List ByteArray
 | 0,fr,_=>[s.extract fr s.size]
 | f+1,fr,i=>if byteAt s i=z then s.extract fr i :: cutGo s z f (i+1) (i+1) else cutGo s z f fr (i+1)
def cutW (s:ByteArray) (z:Int):List ByteArray:=cutGo s z s.size 0 0
def StrsPost (B:Nat) (ps:List ByteArray) (w:World) (e:Ending) (w':World):Prop :=
 ∃ (A:Option Addr) (c:Nat),e=.returned (.slice A ps.length c)∧Ow B w' 9 1 A ps.length c (cellsX encTx ps)∧Below B w w'
set_option maxRecDepth 100000 in
set_option maxHeartbeats 4000000 in
theorem l23Cut_any (s:ByteArray) (z:Int) (w:World) (hn:s.size≤1048576) :
  Calls Tryz.prog 165 #[.string s,.int .u8 z] w (StrsPost w.heap.size (cutW s z) w):=by
 obtain ⟨i0,hi0,hy0,hy1,hy2⟩:=info_parts infoS
 have HI:=Lib.hid hi0
 have HZ:=Lib.hid hy0
 have HS:=Lib.hid hy1
 have HBY:=Lib.hid hy2
 clear hi0 hy0 hy1 hy2
 obtain ⟨N,hN⟩:∃ N,s.size=N:=⟨_,rfl⟩
 rw [hN] at hn
 go_enter Tryz.func165,Tryz.ntmps165
 go_wp2_with fail
 go_loopw [5,6,7] (fun out fr i wr=>∃ (k f m:Nat) (A':Option Addr) (c':Nat) (ps:List ByteArray),k≤N∧f≤k∧m≤k∧i=.int .i64 k∧fr=.int .i64 f∧out=.slice A' m c'∧Hid (Below w.heap.size w wr∧Ow w.heap.size wr 9 1 A' m c' (cellsX encTx ps)∧ps.length=m∧cutW s z=ps ++ cutGo s z (N - k) f k)) (fun _ _ i _=>N - (intOf i).toNat)
 case atStart=>exact ⟨0,0,0,_,0,[],Nat.zero_le _,Nat.zero_le _,Nat.zero_le _,rfl,rfl,rfl,ba (Below.refl _ _),Ow.bare _ _ _ _ _,rfl,by rw [List.nil_append,Nat.sub_zero,← hN];rfl⟩
 case round =>
  obtain ⟨k,f,m,A',c',ps,hk,hf,hm,rfl,rfl,rfl,HQ⟩:=hrel
  obtain ⟨HB,HOW,HPL,HCUT⟩:=HQ.out
  replace HB:=Lib.hid HB
  replace HOW:=Lib.hid HOW
  replace HPL:=Lib.hid HPL
  replace HCUT:=Lib.hid HCUT
  clear HQ
  have hzs:=HB.out.size
  by_cases hlt:k<N
  ·obtain ⟨q,hq⟩:∃ q,N - k=q+1:=⟨N - k - 1,by omega⟩
   have HQ:=Lib.hid hq
   have hks:k<s.size:=by omega
   have hby:=byteAt_get hks
   have HBY2:=Lib.hid hby
   by_cases hz:(s[k].toNat:Int)=z
   ·have hz':((s[k].toNat:Int) == z)=true:=by simpa using hz
    have HC2:=Lib.hid (show cutW s z=(ps ++ [s.extract f k]) ++ cutGo s z (N - (k+1)) (k+1) (k+1) by
     rw [HCUT.out,HQ.out,show N - (k+1)=q by omega,cutGo,HBY2.out,if_pos hz]
     simp)
    clear hz hq hby
    go_wp2_with (at_builtin;refine wpList_append_ow _ rfl (.tmp 20) (.tmp 25) _ rfl w.heap.size 9 i0 _ 1 16 Tryz.underlying138 HI.out HZ.out HS.out HBY.out rfl (by omega) _ m c' _ rfl (HOW.out.alloc _) _ 1 1 (cellsX encTx [s.extract f k]) rfl (Src.blk (Blk.new _ _ _) rfl) (cellsX_oneCell encTx_one _) (by unfold maxLen;omega) (by omega) (by simp;omega) ?_;intro A2 c2 w5 hown5 hg5 _;have HO5:=Lib.hid hown5;have HG5:=Lib.hid hg5;clear hown5 hg5)
    have hrow:=HOW.out.alloc (.cells #[.string (s.extract f k)] 9)
    refine ⟨⟨k+1,k+1,m+1,A2,c2,ps ++ [s.extract f k],by omega,by omega,by omega,by go_num,by go_num,rfl,hrow.grown HG5.out (HB.out.alloc HB.out.size _) (Nat.le_refl _) (by simp;omega),?_,by simp [HPL.out],HC2.out⟩,by simp [intOf];omega⟩
    rw [cellsX_append]
    exact HO5.out
   ·have hz':((s[k].toNat:Int) == z)=false:=by simpa using hz
    have HC2:=Lib.hid (show cutW s z=ps ++ cutGo s z (N - (k+1)) f (k+1) by
     rw [HCUT.out,HQ.out,show N - (k+1)=q by omega,cutGo,HBY2.out,if_neg hz])
    clear hz hq hby
    go_wp2_with fail
    exact ⟨⟨k+1,f,m,A',c',ps,by omega,by omega,by omega,by go_num,rfl,rfl,HB.out,HOW.out,HPL.out,HC2.out⟩,by simp [intOf];omega⟩
  ·have hkn:k=N:=by omega
   subst hkn
   have HC2:=Lib.hid (show cutW s z=ps ++ [s.extract f k] by rw [HCUT.out,Nat.sub_self,cutGo,hN])
   go_wp2_with (at_builtin;refine wpList_append_ow _ rfl (.tmp 29) (.tmp 33) _ rfl w.heap.size 9 i0 _ 1 16 Tryz.underlying138 HI.out HZ.out HS.out HBY.out rfl (by omega) _ m c' _ rfl (HOW.out.alloc _) _ 1 1 (cellsX encTx [s.extract f k]) rfl (Src.blk (Blk.new _ _ _) rfl) (cellsX_oneCell encTx_one _) (by unfold maxLen;omega) (by omega) (by simp;omega) ?_;intro A2 c2 w5 hown5 hg5 _;have HO5:=Lib.hid hown5;have HG5:=Lib.hid hg5;clear hown5 hg5)
   go_ret
   have hrow:=HOW.out.alloc (.cells #[.string (s.extract f k)] 9)
   have hll:(cutW s z).length=m+1:=by rw [HC2.out];simp [HPL.out]
   refine ⟨A2,c2,by rw [hll];rfl,?_,hrow.grown HG5.out (HB.out.alloc HB.out.size _) (Nat.le_refl _) (by simp;omega)⟩
   rw [hll,HC2.out,cellsX_append]
   exact HO5.out
theorem cutW_len (s:ByteArray) (z:Int):(cutW s z).length≤s.size+1∧1≤(cutW s z).length:=by
 have:∀ f fr i,(cutGo s z f fr i).length≤f+1∧1≤(cutGo s z f fr i).length:=by
  intro f
  induction f with
  | zero=>intro fr i;simp [cutGo]
  | succ f ih =>
   intro fr i
   rw [cutGo]
   split
   ·have:=ih (i+1) (i+1);simp;omega
   ·have:=ih fr (i+1);omega
 exact this _ _ _
theorem cutW_size (s:ByteArray) (z:Int):∀ b ∈ cutW s z,b.size≤s.size:=by
 have:∀ f fr i,∀ b ∈ cutGo s z f fr i,b.size≤s.size:=by
  intro f
  induction f with
  | zero =>
   intro fr i b hb
   simp only [cutGo,List.mem_singleton] at hb
   rw [hb,ByteArray.size_extract]
   omega
  | succ f ih =>
   intro fr i b hb
   rw [cutGo] at hb
   split at hb
   ·rcases List.mem_cons.1 hb with rfl|hb
    ·rw [ByteArray.size_extract];omega
    ·exact ih _ _ b hb
   ·exact ih _ _ b hb
 exact this _ _ _
def numGo (s:ByteArray):Nat→Nat→Int→Int
 | 0,_,a=>a
 | f+1,i,a=>if byteAt s i<48∨57<byteAt s i then -1 else numGo s f (i+1) (10 * a+(byteAt s i - 48))
def numW (s:ByteArray):Int:=if (1≤(s.size:Int)∧(s.size:Int)≤7)∧¬ (1<(s.size:Int)∧byteAt s 0=48) then numGo s s.size 0 0 else -1
set_option maxRecDepth 100000 in
set_option maxHeartbeats 2000000 in
theorem l23Number_any (s:ByteArray) (w:World):Calls Tryz.prog 267 #[.string s] w fun e w'=>e=.returned (.int .i64 (numW s))∧w'=w:=by
 obtain ⟨N,hN⟩:∃ N,s.size=N:=⟨_,rfl⟩
 go_enter Tryz.func267,Tryz.ntmps267
 go_wp2_with fail
 refine (l6In_any _ _ _ _).mono ?_
 rintro e w' ⟨rfl,rfl⟩
 cases h1:inR (N:Int) 1 7
 ·have HW:=Lib.hid (show numW s = -1 by
   unfold numW
   rw [if_neg]
   intro h
   rw [hN] at h
   simp [inR] at h1
   omega)
  clear h1
  go_wp2_with fail
  go_ret
  exact ⟨ret_int (by rw [HW.out]),rfl⟩
 ·have hb:1≤N∧N≤7:=by simp [inR] at h1;omega
  obtain ⟨hb1,hb7⟩:=hb
  have h0:0<s.size:=by omega
  have HB0:=Lib.hid (byteAt_get h0)
  clear h1
  by_cases hz:1<N∧(s[0].toNat:Int)=48
  ·have HW:=Lib.hid (show numW s = -1 by
    unfold numW
    rw [if_neg]
    intro h
    exact h.2 ⟨by omega,by rw [HB0.out];exact hz.2⟩)
   obtain ⟨hz1,hz2⟩:=hz
   have hz1':decide ((1:Int)<(N:Int))=true:=by simp;omega
   have hz2':((s[0].toNat:Int) == 48)=true:=by simpa using hz2
   clear hz2
   go_wp2_with fail
   go_ret
   exact ⟨ret_int (by rw [HW.out]),rfl⟩
  ·have HW:=Lib.hid (show numW s=numGo s N 0 0 by
    unfold numW
    rw [if_pos,hN]
    rw [hN]
    refine ⟨by omega,fun h=>hz ⟨by omega,?_⟩⟩
    rw [← HB0.out]
    exact h.2)
   have key:∀ Q:Prop,((¬ (1<N)→Q)→(1<N→¬ (s[0].toNat:Int)=48→Q)→Q):=fun Q a b=>by
    by_cases h:1<N
    ·exact b h (fun e=>hz ⟨h,e⟩)
    ·exact a h
   clear hz
   refine key _ (fun hz=>?_) (fun hz hz2=>?_)
   ·have hz1':decide ((1:Int)<(N:Int))=false:=by simp;omega
    clear key
    go_wp2_with fail
    go_loopw [3,4] (fun nv i wr=>∃ (k:Nat) (a:Int),k≤N∧i=.int .i64 k∧nv=.int .i64 a∧0≤a∧a≤9999999∧wr=w∧Hid (a<((10 ^ k:Nat):Int)∧numW s=numGo s (N - k) k a)) (fun _ i _=>N - (intOf i).toNat)
    case atStart=>exact ⟨0,0,Nat.zero_le _,rfl,rfl,by omega,by omega,rfl,by decide,HW.out⟩
    case round =>
     obtain ⟨k,a,hk,rfl,rfl,ha0,ha1,rfl,HQ⟩:=hrel
     by_cases hlt:k<N
     ·have hks:k<s.size:=by omega
      have HBY:=Lib.hid (byteAt_get hks)
      have HST:=Lib.hid (show numW s=if (s[k].toNat:Int)<48∨57<(s[k].toNat:Int) then -1 else numGo s (N - (k+1)) (k+1) (10 * a+((s[k].toNat:Int) - 48)) by
       rw [HQ.out.2,show N - k=(N - (k+1))+1 by omega,numGo,HBY.out])
      by_cases hb:(s[k].toNat:Int)<48
      ·have hb':decide ((s[k].toNat:Int)<48)=true:=by simpa using hb
       have HE:=Lib.hid (show numW s = -1 by rw [HST.out,if_pos (Or.inl hb)])
       clear hb
       go_wp2_with fail
       go_ret
       exact ⟨ret_int (by rw [HE.out]),rfl⟩
      ·have hb':decide ((s[k].toNat:Int)<48)=false:=by simpa using hb
       by_cases hc:57<(s[k].toNat:Int)
       ·have hc':decide (57<(s[k].toNat:Int))=true:=by simpa using hc
        have HE:=Lib.hid (show numW s = -1 by rw [HST.out,if_pos (Or.inr hc)])
        clear hb hc
        go_wp2_with fail
        go_ret
        exact ⟨ret_int (by rw [HE.out]),rfl⟩
       ·have hc':decide (57<(s[k].toNat:Int))=false:=by simpa using hc
        have HE:=Lib.hid (show numW s=numGo s (N - (k+1)) (k+1) (10 * a+((s[k].toNat:Int) - 48)) by rw [HST.out,if_neg (by omega)])
        have hpw:a<((10 ^ k:Nat):Int):=HQ.out.1
        have hp6:(10 ^ k:Nat)≤10 ^ 6:=Nat.pow_le_pow_right (by decide) (by omega)
        have hps:(10 ^ (k+1):Nat)=10 ^ k * 10:=Nat.pow_succ ..
        have hx:10 * a+((s[k].toNat:Int) - 48)≤9999999:=by omega
        have hx1:10 * a+((s[k].toNat:Int) - 48)<((10 ^ (k+1):Nat):Int):=by omega
        have HX1:=Lib.hid hx1
        clear hpw hp6 hps hx1
        go_wp2_with fail
        exact ⟨⟨k+1,_,by omega,by go_num,rfl,by omega,hx,trivial,HX1.out,HE.out⟩,by simp [intOf];omega⟩
     ·have hkn:k=N:=by omega
      subst hkn
      have HE:=Lib.hid (show numW s=a by rw [HQ.out.2,Nat.sub_self,numGo])
      go_wp2_with fail
      go_ret
      exact ⟨ret_int (by rw [HE.out]),rfl⟩
   ·have hz1':decide ((1:Int)<(N:Int))=true:=by simp;omega
    have hz2':((s[0].toNat:Int) == 48)=false:=by simpa using hz2
    clear key hz2
    go_wp2_with fail
    go_loopw [3,4] (fun nv i wr=>∃ (k:Nat) (a:Int),k≤N∧i=.int .i64 k∧nv=.int .i64 a∧0≤a∧a≤9999999∧wr=w∧Hid (a<((10 ^ k:Nat):Int)∧numW s=numGo s (N - k) k a)) (fun _ i _=>N - (intOf i).toNat)
    case atStart=>exact ⟨0,0,Nat.zero_le _,rfl,rfl,by omega,by omega,rfl,by decide,HW.out⟩
    case round =>
     obtain ⟨k,a,hk,rfl,rfl,ha0,ha1,rfl,HQ⟩:=hrel
     by_cases hlt:k<N
     ·have hks:k<s.size:=by omega
      have HBY:=Lib.hid (byteAt_get hks)
      have HST:=Lib.hid (show numW s=if (s[k].toNat:Int)<48∨57<(s[k].toNat:Int) then -1 else numGo s (N - (k+1)) (k+1) (10 * a+((s[k].toNat:Int) - 48)) by
       rw [HQ.out.2,show N - k=(N - (k+1))+1 by omega,numGo,HBY.out])
      by_cases hb:(s[k].toNat:Int)<48
      ·have hb':decide ((s[k].toNat:Int)<48)=true:=by simpa using hb
       have HE:=Lib.hid (show numW s = -1 by rw [HST.out,if_pos (Or.inl hb)])
       clear hb
       go_wp2_with fail
       go_ret
       exact ⟨ret_int (by rw [HE.out]),rfl⟩
      ·have hb':decide ((s[k].toNat:Int)<48)=false:=by simpa using hb
       by_cases hc:57<(s[k].toNat:Int)
       ·have hc':decide (57<(s[k].toNat:Int))=true:=by simpa using hc
        have HE:=Lib.hid (show numW s = -1 by rw [HST.out,if_pos (Or.inr hc)])
        clear hb hc
        go_wp2_with fail
        go_ret
        exact ⟨ret_int (by rw [HE.out]),rfl⟩
       ·have hc':decide (57<(s[k].toNat:Int))=false:=by simpa using hc
        have HE:=Lib.hid (show numW s=numGo s (N - (k+1)) (k+1) (10 * a+((s[k].toNat:Int) - 48)) by rw [HST.out,if_neg (by omega)])
        have hpw:a<((10 ^ k:Nat):Int):=HQ.out.1
        have hp6:(10 ^ k:Nat)≤10 ^ 6:=Nat.pow_le_pow_right (by decide) (by omega)
        have hps:(10 ^ (k+1):Nat)=10 ^ k * 10:=Nat.pow_succ ..
        have hx:10 * a+((s[k].toNat:Int) - 48)≤9999999:=by omega
        have hx1:10 * a+((s[k].toNat:Int) - 48)<((10 ^ (k+1):Nat):Int):=by omega
        have HX1:=Lib.hid hx1
        clear hpw hp6 hps hx1
        go_wp2_with fail
        exact ⟨⟨k+1,_,by omega,by go_num,rfl,by omega,hx,trivial,HX1.out,HE.out⟩,by simp [intOf];omega⟩
     ·have hkn:k=N:=by omega
      subst hkn
      have HE:=Lib.hid (show numW s=a by rw [HQ.out.2,Nat.sub_self,numGo])
      go_wp2_with fail
      go_ret
      exact ⟨ret_int (by rw [HE.out]),rfl⟩
abbrev RdW (w:World) (A:Option Addr) (n:Nat) (xs:List ByteArray):Prop:=Rd encTx 1 w A n xs
theorem RdW.cells {w:World} {A:Option Addr} {n:Nat} {xs:List ByteArray} (h:RdW w A n xs) {k:Nat} (hk:k<n):∃ b off x,A=some ⟨b,off,none⟩∧b<w.heap.size∧xs[k]?=some x∧w.cell? ⟨b,off+k,none⟩=some (.string x):=by
 obtain ⟨b,off,x,hA,hb,hx,hc⟩:=h.at_ hk
 exact ⟨b,off,x,hA,hb,hx,by simpa using hc 0 _ rfl⟩
def lineGo:List ByteArray→List Int→List Int × Bool
 | [],acc=>(acc,true)
 | b :: r,acc=>if numW b<0 then (acc,false) else lineGo r (acc ++ [numW b])
theorem lineGo_step {ws:List ByteArray} {k:Nat} {b:ByteArray} (h:ws[k]?=some b) (acc:List Int):lineGo (ws.drop k) acc=if numW b<0 then (acc,false) else lineGo (ws.drop (k+1)) (acc ++ [numW b]):=by
 obtain ⟨hk',he⟩:=List.getElem?_eq_some_iff.1 h
 rw [List.drop_eq_getElem_cons hk',he]
 rfl
def lineW (s word:ByteArray):List Int × Bool:=((lineGo ((cutW s 32).drop 1) []).1,(lineGo ((cutW s 32).drop 1) []).2 && (((cutW s 32)[0]?).map fun x=>x.toList == word.toList).getD false)
def LinePost (B:Nat) (r:List Int × Bool) (w:World) (e:Ending) (w':World):Prop :=
 ∃ (A:Option Addr) (c:Nat),e=.returned (.tuple #[.slice A r.1.length c,.bool r.2])∧Ow B w' 3 1 A r.1.length c (cellsI r.1)∧Below B w w'
set_option maxRecDepth 100000 in
set_option maxHeartbeats 4000000 in
theorem l23Line_any (s word:ByteArray) (w:World) (hn:s.size≤1048576) :
  Calls Tryz.prog 221 #[.string s,.string word] w (LinePost w.heap.size (lineW s word) w):=by
 obtain ⟨i0,hi0,hy0,hy1,hy2⟩:=info_parts infoZ
 have HI:=Lib.hid hi0
 have HZ:=Lib.hid hy0
 have HS:=Lib.hid hy1
 have HBY:=Lib.hid hy2
 clear hi0 hy0 hy1 hy2
 go_enter Tryz.func221,Tryz.ntmps221
 go_wp2_with fail
 refine (l23Cut_any s 32 _ hn).mono ?_
 rintro e w1 ⟨Aw,cw,rfl,hO,hb⟩
 obtain ⟨L,hL⟩:∃ L,(cutW s 32).length=L:=⟨_,rfl⟩
 have hLb:=cutW_len s 32
 rw [hL] at hLb hO
 rw [hL]
 have HRW:=Lib.hid (Ow.rd encTx_len (by decide) hO)
 have HB:=Lib.hid hb
 have hL1:1≤L:=hLb.2
 have hL2:L≤1048577:=by have:=hLb.1;omega
 have HLW:=Lib.hid (show lineW s word=((lineGo ((cutW s 32).drop 1) []).1,(lineGo ((cutW s 32).drop 1) []).2 && (((cutW s 32)[0]?).map fun x=>x.toList == word.toList).getD false) from rfl)
 have hz1:=hb.size
 have HLL:=Lib.hid hL
 clear hO hb hLb hL
 generalize cutW s 32=ws at *
 go_wp2_with fail
 go_loopw [7,8] (fun out i wr=>∃ (m:Nat) (A':Option Addr) (c':Nat) (acc:List Int),m+1≤L∧i=.int .i64 (m+1:Nat)∧out=.slice A' m c'∧Hid (Below w1.heap.size w1 wr∧Ow w1.heap.size wr 3 1 A' m c' (cellsI acc)∧acc.length=m∧lineGo (ws.drop 1) []=lineGo (ws.drop (m+1)) acc)) (fun _ i _=>L - (intOf i).toNat)
 case atStart=>exact ⟨0,_,0,[],by omega,rfl,rfl,ba (Below.refl _ _),Ow.bare _ _ _ _ _,rfl,rfl⟩
 case round =>
  obtain ⟨m,A',c',acc,hm,rfl,rfl,HQ⟩:=hrel
  obtain ⟨HB2,HOW,HAL,HGO⟩:=HQ.out
  have HRW2:=Lib.hid (HRW.out.below HB2)
  replace HB2:=Lib.hid HB2
  replace HOW:=Lib.hid HOW
  replace HAL:=Lib.hid HAL
  replace HGO:=Lib.hid HGO
  clear HQ
  obtain ⟨k,hk⟩:∃ k,k=m+1:=⟨_,rfl⟩
  rw [← hk] at hm ⊢
  have HK:=Lib.hid hk
  have hkm:m≤1048577:=by omega
  clear hk
  by_cases hlt:k<L
  ·obtain ⟨b,off,x,hA,hbb,hx,hc⟩:=RdW.cells HRW2.out hlt
   subst hA
   have HST:=Lib.hid (show lineGo (ws.drop 1) []=if numW x<0 then (acc,false) else lineGo (ws.drop (k+1)) (acc ++ [numW x]) by rw [HGO.out,← HK.out,lineGo_step hx])
   clear hx
   go_wp2_with fail
   refine (l23Number_any x _).mono ?_
   rintro e w2 ⟨rfl,rfl⟩
   obtain ⟨z,hz⟩:∃ z,numW x=z:=⟨_,rfl⟩
   rw [hz] at HST ⊢
   clear hz
   by_cases hz0:z<0
   ·have hz0':decide (z<0)=true:=by simpa using hz0
    have HE:=Lib.hid (show lineW s word=(acc,false) by rw [HLW.out,HST.out,if_pos hz0];rfl)
    clear hz0
    go_wp2_with fail
    go_ret2
    unfold LinePost
    rw [HE.out]
    exact ⟨A',c',by simp only [HAL.out];rfl,by simp only [HAL.out];exact HOW.out.mono hz1,below_next HB.out HB2.out⟩
   ·have hz0':decide (z<0)=false:=by simpa using hz0
    have HE:=Lib.hid (show lineGo (ws.drop 1) []=lineGo (ws.drop (k+1)) (acc ++ [z]) by rw [HST.out,if_neg hz0])
    have hwz:=HB2.out.size
    clear hz0
    go_wp2_with (at_builtin;refine wpList_append_ow _ rfl (.tmp 27) (.tmp 29) _ rfl w1.heap.size 3 i0 _ 1 8 Tryz.underlying33 HI.out HZ.out HS.out HBY.out rfl (by omega) _ m c' _ rfl (HOW.out.alloc _) _ 1 1 (cellsI [z]) rfl (Src.blk (Blk.new _ _ _) rfl) (cellsI_one _) (by unfold maxLen;omega) (by omega) (by simp;omega) ?_;intro A2 c2 w5 hown5 hg5 _;have HO5:=Lib.hid hown5;have HG5:=Lib.hid hg5;clear hown5 hg5)
    have hrow:=HOW.out.alloc (.cells #[.int .i64 z] 3)
    refine ⟨⟨m+1,A2,c2,acc ++ [z],by have:=HK.out;omega,by have:=HK.out;go_num,rfl,hrow.grown HG5.out (HB2.out.alloc HB2.out.size _) (Nat.le_refl _) (by simp;omega),?_,by simp [HAL.out],by rw [HE.out,HK.out]⟩,by simp [intOf];omega⟩
    show Ow _ _ _ 1 _ _ _ (List.map (Value.int .i64) (acc ++ [z]))
    rw [List.map_append]
    exact HO5.out
  ·have hkL:k=L:=by omega
   have HE:=Lib.hid (show lineGo (ws.drop 1) []=(acc,true) by rw [HGO.out,← HK.out,List.drop_of_length_le (by rw [HLL.out];omega)];rfl)
   obtain ⟨b,off,x,hA,hbb,hx,hc⟩:=RdW.cells HRW2.out (k:=0) (by omega)
   subst hA
   rw [Nat.add_zero] at hc
   have hcr:=fun d os=>cell_regrown hc d os
   have HF:=Lib.hid (show lineW s word=(acc,x.toList == word.toList) by rw [HLW.out,HE.out,hx];simp)
   clear hx hc
   go_wp2_with fail
   refine wp_region_qb (by kernel_rfl) (by kernel_rfl) ?_
   repeat (go_big_quiet_step (fail))
   refine wpQuiet_nil ?_
   intro w5 hb5
   have HB5:=Lib.hid hb5
   clear hb5 hcr
   go_wp2_with fail
   go_ret2
   unfold LinePost
   rw [HF.out]
   exact ⟨A',c',by simp only [HAL.out];rfl,by simp only [HAL.out];exact (Ow.next HOW.out HB5.out).mono hz1,below_next (below_next HB.out HB2.out) HB5.out⟩
end Go.Proofs.YtkgfmgajhgfgjaaGreatDoor
namespace Go.Proofs.YtkgfmgajhgfgjaaGreatDoor
open Go.RowKit Go.Sort
def partBad (prev:Option Int) (n:Nat) (e:Ent):Prop:=(inOf e.1).2=false∨¬ (1≤e.2∧e.2≤60 - (n:Int))∨prev=some e.1
instance (prev:Option Int) (n:Nat) (e:Ent):Decidable (partBad prev n e):=by unfold partBad;infer_instance
def insGo:List Ent→Option Int→List Inp→List Inp × Bool
 | [],_,acc=>(acc,true)
 | e :: r,prev,acc=>if partBad prev acc.length e then ([],false) else insGo r (some e.1) (acc ++ List.replicate e.2.toNat (inOf e.1).1)
def insW (ps:List Ent):List Inp × Bool:=insGo ps none []
def prevOf (ps:List Ent) (k:Nat):Option Int:=if k=0 then none else (ps[k - 1]?).map (·.1)
theorem insGo_step {ps:List Ent} {k:Nat} {e:Ent} (h:ps[k]?=some e) (acc:List Inp):insGo (ps.drop k) (prevOf ps k) acc=if partBad (prevOf ps k) acc.length e then ([],false) else insGo (ps.drop (k+1)) (prevOf ps (k+1)) (acc ++ List.replicate e.2.toNat (inOf e.1).1):=by
 obtain ⟨hk',he⟩:=List.getElem?_eq_some_iff.1 h
 have hp:prevOf ps (k+1)=some e.1:=by simp [prevOf,h]
 rw [List.drop_eq_getElem_cons hk',he,insGo,hp]
def InsPost (B:Nat) (r:List Inp × Bool) (w:World) (e:Ending) (w':World):Prop :=
 ∃ (A:Option Addr) (c:Nat),e=.returned (.tuple #[.slice A r.1.length c,.bool r.2])∧Ow B w' 158 3 A r.1.length c (cellsN r.1)∧Below B w w'
theorem ownB_ne {A:Option Addr} {c g:Nat} (h:ownB A c=some g):0<c∧A.map (·.block)=some g:=by
 unfold ownB at h
 split at h
 ·cases h
 ·exact ⟨by omega,h⟩
set_option maxRecDepth 100000 in
set_option maxHeartbeats 4000000 in
theorem specReplayInputs_any (A:Option Addr) (n c:Nat) (ps:List Ent) (w:World) (hr:RdE w A n ps) (hn:n≤1048576) (hz:∀ e ∈ ps,0≤e.2∧e.2≤9999999) :
  Calls Tryz.prog 222 #[.slice A n c] w (InsPost w.heap.size (insW ps) w):=by
 obtain ⟨i0,hi0,hy0,hy1,hy2⟩:=info_parts infoN
 have HI:=Lib.hid hi0
 have HZ:=Lib.hid hy0
 have HS:=Lib.hid hy1
 have HBY:=Lib.hid hy2
 clear hi0 hy0 hy1 hy2
 have HR:=Lib.hid hr
 have HZ9:=Lib.hid hz
 clear hr hz
 go_enter Tryz.func222,Tryz.ntmps222
 go_wp2_with fail
 go_loopw [4,5] (fun out i wr=>∃ (k m:Nat) (A':Option Addr) (c':Nat) (acc:List Inp),k≤n∧m≤60∧i=.int .i64 k∧out=.slice A' m c'∧Hid (Below w.heap.size w wr∧Ow w.heap.size wr 158 3 A' m c' (cellsN acc)∧acc.length=m∧insW ps=insGo (ps.drop k) (prevOf ps k) acc)) (fun _ i _=>n - (intOf i).toNat)
 case atStart=>exact ⟨0,0,_,0,[],Nat.zero_le _,by omega,rfl,rfl,ba (Below.refl _ _),Ow.bare _ _ _ _ _,rfl,rfl⟩
 case round =>
  obtain ⟨k,m,A',c',acc,hk,hm,rfl,rfl,HQ⟩:=hrel
  obtain ⟨HB,HOW,HAL,HGO⟩:=HQ.out
  replace HB:=Lib.hid HB
  replace HOW:=Lib.hid HOW
  replace HAL:=Lib.hid HAL
  replace HGO:=Lib.hid HGO
  clear HQ
  have hzs:=HB.out.size
  by_cases hlt:k<n
  ·obtain ⟨b,off,e,hA,hbw,he,hw1,hw2⟩:=HR.out.at_ hlt
   subst hA
   have HW1:=Lib.hid hw1
   have HW2:=Lib.hid hw2
   have hbb:b<wr.heap.size:=by omega
   have hc1:=((bcell HB.out).1 b _ hbw).trans hw1
   have hc2:=((bcell HB.out).1 b _ hbw).trans hw2
   clear hw1 hw2
   have HST:=Lib.hid (show insW ps=if partBad (prevOf ps k) m e then ([],false) else insGo (ps.drop (k+1)) (prevOf ps (k+1)) (acc ++ List.replicate e.2.toNat (inOf e.1).1) by rw [HGO.out,insGo_step he,HAL.out])
   have hbd:=HZ9.out e (List.mem_of_getElem? he)
   have HE:=Lib.hid he
   clear he
   go_wp2_with fail
   refine (specInputOf_any e.1 _).mono ?_
   rintro ee w1 ⟨rfl,hb⟩
   have HC1:=Lib.hid (((bcell hb).1 b _ hbb).trans hc1)
   have HC2:=Lib.hid (((bcell hb).1 b _ hbb).trans hc2)
   replace HOW:=Lib.hid (Ow.next HOW.out hb)
   have hb1:=hb.size
   replace HB:=Lib.hid (below_next HB.out hb)
   clear hb hc1 hc2
   obtain ⟨x,hx⟩:∃ x,(inOf e.1).1=x:=⟨_,rfl⟩
   obtain ⟨ok,hok⟩:∃ o,(inOf e.1).2=o:=⟨_,rfl⟩
   rw [hx,hok]
   have HX:=Lib.hid hx
   have HOK:=Lib.hid hok
   clear hx hok
   obtain ⟨xs,xp,xz⟩:=x
   go_upto_region 6 with (fail)
   refine into_world (fun W=>Below w1.heap.size w1 W∧w1.heap.size<W.heap.size∧Blk W w1.heap.size 158 #[.int .i64 xs,.int .i64 xp,.bool xz]) ⟨ba (Below.refl _ _),by simp,Blk.new _ _ _⟩ ?_
   rintro W ⟨hb,hzW,hkx⟩
   have KX:=Lib.hid hkx
   have hlo:∀ g,ownB A' c'=some g→g<w1.heap.size:=fun g hg=>by
    obtain ⟨q1,q2⟩:=ownB_ne hg
    exact (HOW.out.lt q2 q1).2
   have HLO:=Lib.hid hlo
   have hbW:b<w1.heap.size:=by omega
   have hc1:=((bcell hb).1 b _ hbW).trans HC1.out
   have hc2:=((bcell hb).1 b _ hbW).trans HC2.out
   replace HOW:=Lib.hid (Ow.next HOW.out hb)
   replace HB:=Lib.hid (below_next HB.out hb)
   have r1:=fun d os=>cell_regrown hc1 d os
   have r2:=fun d os=>cell_regrown hc2 d os
   clear hb hkx HC1 HC2 hlo hc1 hc2
   have h60:IntKind.i64.wrap (60 - (m:Int))=60 - (m:Int):=IntWalk.i64_in _ (by omega)
   cases ok
   ·have HF:=Lib.hid (show insW ps=([],false) by rw [HST.out,if_pos (show partBad _ _ _ from Or.inl HOK.out)])
    refine wp_region_qb (by kernel_rfl) (by kernel_rfl) ?_
    repeat (go_big_quiet_step ((fail)))
    refine wpQuiet_nil ?_
    intro w4 hb
    replace HB:=Lib.hid (below_next HB.out hb)
    clear r1 r2 hb
    go_wp2_with fail
    go_ret2
    unfold InsPost
    rw [HF.out]
    exact ⟨_,0,rfl,Ow.bare _ _ _ _ _,HB.out.alloc HB.out.size _⟩
   ·cases h2:inR e.2 1 (60 - (m:Int))
    ·have HF:=Lib.hid (show insW ps=([],false) by
      rw [HST.out,if_pos (show partBad _ _ _ from Or.inr (Or.inl (by simp [inR] at h2;omega)))])
     have HC:=Lib.hid (fun (d:Nat) (os:Array Obj)=>l6In_any e.2 1 (60 - (m:Int)) (grow (redrawn W d) os))
     rw [h2] at HC
     clear h2
     refine wp_region_qb (by kernel_rfl) (by kernel_rfl) ?_
     repeat (go_big_quiet_step ((go_at_call 57;exact Calls.regrown_of ((HC.out _ _).mono fun e w' h=>⟨h.1,by rw [← h.2];exact Below.refl _ _⟩))))
     refine wpQuiet_nil ?_
     intro w4 hb
     replace HB:=Lib.hid (below_next HB.out hb)
     clear r1 r2 hb
     go_wp2_with fail
     go_ret2
     unfold InsPost
     rw [HF.out]
     exact ⟨_,0,rfl,Ow.bare _ _ _ _ _,HB.out.alloc HB.out.size _⟩
    ·have H2:=Lib.hid h2
     have HC:=Lib.hid (fun (d:Nat) (os:Array Obj)=>l6In_any e.2 1 (60 - (m:Int)) (grow (redrawn W d) os))
     rw [h2] at HC
     have hbnd:1≤e.2∧e.2≤60 - (m:Int):=by simp [inR] at h2;omega
     clear h2
     by_cases hk0:k=0
     ·have hk0':decide ((0:Int)<(k:Int))=false:=by simp;omega
      have hk0n:decide (0<k)=false:=by simp;omega
      have hk0m:¬ 0<k:=by omega
      have HF:=Lib.hid (show insW ps=insGo (ps.drop (k+1)) (prevOf ps (k+1)) (acc ++ List.replicate e.2.toNat ⟨xs,xp,xz⟩) by
       rw [HST.out,if_neg,HX.out]
       intro h
       rcases h with h|h|h
       ·rw [HOK.out] at h;cases h
       ·exact h hbnd
       ·simp [prevOf,hk0] at h)
      have HK0:=Lib.hid hk0
      clear hk0
      refine wp_region_qb (by kernel_rfl) (by kernel_rfl) ?_
      repeat (go_big_quiet_step ((go_at_call 57;exact Calls.regrown_of ((HC.out _ _).mono fun e w' h=>⟨h.1,by rw [← h.2];exact Below.refl _ _⟩))))
      refine wpQuiet_nil ?_
      intro w4 hb
      replace KX:=Lib.hid (KX.out.next hb)
      replace HOW:=Lib.hid (Ow.next HOW.out hb)
      replace HB:=Lib.hid (below_next HB.out hb)
      have hs4:w1.heap.size<w4.heap.size:=KX.out.lt
      clear r1 r2 hb HC
      obtain ⟨M,hM⟩:=Int.eq_ofNat_of_zero_le (show 0≤e.2 by omega)
      have HM:=Lib.hid hM
      rw [hM] at hbnd HW2
      have hMb:M≤60 - m:=by omega
      clear hM
      go_wp2_with fail
      go_loopw [4,8] (fun out jv wq=>∃ (q m2:Nat) (A2:Option Addr) (c2:Nat),q≤M∧m2=m+q∧jv=.int .i64 q∧out=.slice A2 m2 c2∧Hid (Below w.heap.size w wq∧w1.heap.size<wq.heap.size∧Blk wq w1.heap.size 158 #[.int .i64 xs,.int .i64 xp,.bool xz]∧Ow w.heap.size wq 158 3 A2 m2 c2 (cellsN (acc ++ List.replicate q ⟨xs,xp,xz⟩))∧(∀ g,ownB A2 c2=some g→g≠w1.heap.size))) (fun _ jv _=>M - (intOf jv).toNat)
      case atStart=>exact ⟨0,m,A',c',Nat.zero_le _,rfl,rfl,rfl,HB.out,hs4,KX.out,by simpa using HOW.out,fun g hg=>by have:=HLO.out g hg;omega⟩
      case round =>
       obtain ⟨q,m2,A2,c2,hq,hm2,rfl,rfl,HQ⟩:=hrel
       obtain ⟨HB3,HSZ,KX3,HOW3,HNE⟩:=HQ.out
       have hszq:=HSZ
       have hwq:=HB3.size
       have hcm:=((bcell HB3).1 b _ hbw).trans HW2.out
       have hcx:=fun o=>KX3.cell o
       have hlx:=KX3.lt
       have HM2:=Lib.hid hm2
       replace HB3:=Lib.hid HB3
       replace HSZ:=Lib.hid HSZ
       replace KX3:=Lib.hid KX3
       replace HOW3:=Lib.hid HOW3
       replace HNE:=Lib.hid HNE
       have hm2b:m2≤120:=by omega
       clear HQ hm2
       by_cases hlq:q<M
       ·go_wp2_with (at_builtin;refine wpList_append_ow _ rfl (.tmp 67) (.tmp 69) _ rfl w.heap.size 158 i0 _ 3 24 Tryz.underlying30 HI.out HZ.out HS.out HBY.out rfl (by omega) _ m2 c2 _ rfl (HOW3.out.alloc _) _ 1 1 (cellsN [(⟨xs,xp,xz⟩:Inp)]) rfl (Src.blk (Blk.new _ _ _) rfl) (cellsX_oneCell encIn_one _) (by unfold maxLen;omega) (by omega) (by simp;omega) ?_;intro A5 c5 w5 hown5 hg5 hnb5;have HO5:=Lib.hid hown5;have HG5:=Lib.hid hg5;have HN5:=Lib.hid hnb5;clear hown5 hg5 hnb5)
        have hrow:=HOW3.out.alloc (.cells #[.int .i64 xs,.int .i64 xp,.bool xz] 158)
        refine ⟨⟨q+1,m2+1,A5,c5,by omega,by have:=HM2.out;omega,by go_num,rfl,hrow.grown HG5.out (HB3.out.alloc HB3.out.size _) (Nat.le_refl _) (by simp;omega),?_,?_,?_,?_⟩,by simp [intOf];omega⟩
        ·have:=HG5.out.size
         simp at this
         omega
        ·exact (HG5.out.block _ (by simp;omega) (fun h=>HNE.out _ h.symm rfl)).trans (KX3.out.alloc _)
        ·rw [List.replicate_succ',← List.append_assoc]
         show Ow _ _ _ 3 _ _ _ (cellsX encIn ((acc ++ List.replicate q ⟨xs,xp,xz⟩) ++ [⟨xs,xp,xz⟩]))
         rw [cellsX_append]
         exact HO5.out
        ·intro g hg
         obtain ⟨q1,q2⟩:=ownB_ne hg
         rcases HN5.out g q2 q1 with h|h
         ·exact HNE.out g h
         ·simp at h
          omega
       ·have hqM:q=M:=by omega
        subst hqM
        clear hcx
        go_wp2_with fail
        have e1:=HM2.out
        have e2:e.2.toNat=q:=by rw [HM.out];rfl
        refine ⟨⟨k+1,m2,A2,c2,acc ++ List.replicate q ⟨xs,xp,xz⟩,by omega,by omega,by go_num,rfl,HB3.out,HOW3.out,by simp [HAL.out,e1],by rw [HF.out,e2]⟩,by simp [intOf];omega⟩
     ·obtain ⟨j,hkj⟩:∃ j,k=j+1:=⟨k - 1,by omega⟩
      obtain ⟨b',off',e',hA',hbw',he',hw1',hw2'⟩:=HR.out.at_ (k:=j) (by omega)
      obtain ⟨rfl,rfl⟩:b=b'∧off=off':=by simpa using hA'
      have hcp:=((bcell HB.out).1 b _ hbw').trans hw1'
      have rp:=fun d os=>cell_regrown hcp d os
      have hij:IntKind.i64.wrap ((k:Int) - 1)=(j:Int):=by rw [IntWalk.i64_in _ (by omega)];omega
      have hj0:decide ((0:Int)<(k:Int))=true:=by simp;omega
      have hj0n:decide (0<k)=true:=by simp;omega
      have hj0m:0<k:=by omega
      have HPR:=Lib.hid (show prevOf ps k=some e'.1 by rw [hkj];simp [prevOf,he'])
      have HKJ:=Lib.hid hkj
      have hjn:j<n:=by omega
      clear hcp hw1' hw2' hA' he' hk0 hkj
      by_cases hpe:e'.1=e.1
      ·have hpe':(e'.1 == e.1)=true:=by simpa using hpe
       have HF:=Lib.hid (show insW ps=([],false) by
        rw [HST.out,if_pos (show partBad _ _ _ from Or.inr (Or.inr (by rw [HPR.out,hpe])))])
       clear hpe
       refine wp_region_qb (by kernel_rfl) (by kernel_rfl) ?_
       repeat (go_big_quiet_step ((go_at_call 57;exact Calls.regrown_of ((HC.out _ _).mono fun e w' h=>⟨h.1,by rw [← h.2];exact Below.refl _ _⟩))))
       refine wpQuiet_nil ?_
       intro w4 hb
       replace HB:=Lib.hid (below_next HB.out hb)
       clear r1 r2 hb
       go_wp2_with fail
       go_ret2
       unfold InsPost
       rw [HF.out]
       exact ⟨_,0,rfl,Ow.bare _ _ _ _ _,HB.out.alloc HB.out.size _⟩
      ·have hpe':(e'.1 == e.1)=false:=by simpa using hpe
       have HF:=Lib.hid (show insW ps=insGo (ps.drop (k+1)) (prevOf ps (k+1)) (acc ++ List.replicate e.2.toNat ⟨xs,xp,xz⟩) by
        rw [HST.out,if_neg,HX.out]
        intro h
        rcases h with h|h|h
        ·rw [HOK.out] at h;cases h
        ·exact h hbnd
        ·rw [HPR.out] at h
         injection h with h
         exact hpe h)
       clear hpe
       refine wp_region_qb (by kernel_rfl) (by kernel_rfl) ?_
       repeat (go_big_quiet_step ((go_at_call 57;exact Calls.regrown_of ((HC.out _ _).mono fun e w' h=>⟨h.1,by rw [← h.2];exact Below.refl _ _⟩))))
       refine wpQuiet_nil ?_
       clear rp
       intro w4 hb
       replace KX:=Lib.hid (KX.out.next hb)
       replace HOW:=Lib.hid (Ow.next HOW.out hb)
       replace HB:=Lib.hid (below_next HB.out hb)
       have hs4:w1.heap.size<w4.heap.size:=KX.out.lt
       clear r1 r2 hb HC
       obtain ⟨M,hM⟩:=Int.eq_ofNat_of_zero_le (show 0≤e.2 by omega)
       have HM:=Lib.hid hM
       rw [hM] at hbnd HW2
       have hMb:M≤60 - m:=by omega
       clear hM
       go_wp2_with fail
       go_loopw [4,8] (fun out jv wq=>∃ (q m2:Nat) (A2:Option Addr) (c2:Nat),q≤M∧m2=m+q∧jv=.int .i64 q∧out=.slice A2 m2 c2∧Hid (Below w.heap.size w wq∧w1.heap.size<wq.heap.size∧Blk wq w1.heap.size 158 #[.int .i64 xs,.int .i64 xp,.bool xz]∧Ow w.heap.size wq 158 3 A2 m2 c2 (cellsN (acc ++ List.replicate q ⟨xs,xp,xz⟩))∧(∀ g,ownB A2 c2=some g→g≠w1.heap.size))) (fun _ jv _=>M - (intOf jv).toNat)
       case atStart=>exact ⟨0,m,A',c',Nat.zero_le _,rfl,rfl,rfl,HB.out,hs4,KX.out,by simpa using HOW.out,fun g hg=>by have:=HLO.out g hg;omega⟩
       case round =>
        obtain ⟨q,m2,A2,c2,hq,hm2,rfl,rfl,HQ⟩:=hrel
        obtain ⟨HB3,HSZ,KX3,HOW3,HNE⟩:=HQ.out
        have hszq:=HSZ
        have hwq:=HB3.size
        have hcm:=((bcell HB3).1 b _ hbw).trans HW2.out
        have hcx:=fun o=>KX3.cell o
        have hlx:=KX3.lt
        have HM2:=Lib.hid hm2
        replace HB3:=Lib.hid HB3
        replace HSZ:=Lib.hid HSZ
        replace KX3:=Lib.hid KX3
        replace HOW3:=Lib.hid HOW3
        replace HNE:=Lib.hid HNE
        have hm2b:m2≤120:=by omega
        clear HQ hm2
        by_cases hlq:q<M
        ·go_wp2_with (at_builtin;refine wpList_append_ow _ rfl (.tmp 67) (.tmp 69) _ rfl w.heap.size 158 i0 _ 3 24 Tryz.underlying30 HI.out HZ.out HS.out HBY.out rfl (by omega) _ m2 c2 _ rfl (HOW3.out.alloc _) _ 1 1 (cellsN [(⟨xs,xp,xz⟩:Inp)]) rfl (Src.blk (Blk.new _ _ _) rfl) (cellsX_oneCell encIn_one _) (by unfold maxLen;omega) (by omega) (by simp;omega) ?_;intro A5 c5 w5 hown5 hg5 hnb5;have HO5:=Lib.hid hown5;have HG5:=Lib.hid hg5;have HN5:=Lib.hid hnb5;clear hown5 hg5 hnb5)
         have hrow:=HOW3.out.alloc (.cells #[.int .i64 xs,.int .i64 xp,.bool xz] 158)
         refine ⟨⟨q+1,m2+1,A5,c5,by omega,by have:=HM2.out;omega,by go_num,rfl,hrow.grown HG5.out (HB3.out.alloc HB3.out.size _) (Nat.le_refl _) (by simp;omega),?_,?_,?_,?_⟩,by simp [intOf];omega⟩
         ·have:=HG5.out.size
          simp at this
          omega
         ·exact (HG5.out.block _ (by simp;omega) (fun h=>HNE.out _ h.symm rfl)).trans (KX3.out.alloc _)
         ·rw [List.replicate_succ',← List.append_assoc]
          show Ow _ _ _ 3 _ _ _ (cellsX encIn ((acc ++ List.replicate q ⟨xs,xp,xz⟩) ++ [⟨xs,xp,xz⟩]))
          rw [cellsX_append]
          exact HO5.out
         ·intro g hg
          obtain ⟨q1,q2⟩:=ownB_ne hg
          rcases HN5.out g q2 q1 with h|h
          ·exact HNE.out g h
          ·simp at h
           omega
        ·have hqM:q=M:=by omega
         subst hqM
         clear hcx
         go_wp2_with fail
         have e1:=HM2.out
         have e2:e.2.toNat=q:=by rw [HM.out];rfl
         refine ⟨⟨k+1,m2,A2,c2,acc ++ List.replicate q ⟨xs,xp,xz⟩,by omega,by omega,by go_num,rfl,HB3.out,HOW3.out,by simp [HAL.out,e1],by rw [HF.out,e2]⟩,by simp [intOf];omega⟩
  ·have hkn:k=n:=by omega
   subst hkn
   have HF:=Lib.hid (show insW ps=(acc,true) by rw [HGO.out,List.drop_of_length_le (by rw [HR.out.len];exact Nat.le_refl _)];rfl)
   go_wp2_with fail
   go_ret2
   unfold InsPost
   rw [HF.out]
   exact ⟨A',c',by simp only [HAL.out];rfl,by simp only [HAL.out];exact HOW.out,HB.out⟩
end Go.Proofs.YtkgfmgajhgfgjaaGreatDoor

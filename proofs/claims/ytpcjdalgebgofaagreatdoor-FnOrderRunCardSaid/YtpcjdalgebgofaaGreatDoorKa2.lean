/-
  Lemmas and contracts: Qe Qf Qg Qh. No condition.
-/
import Derived.Test.YtpcjdalgebgofaaGreatDoorKa1
set_option linter.unusedSimpArgs false
set_option linter.unusedVariables false
set_option linter.unusedSectionVars false
namespace Go.Proofs.YtpcjdalgebgofaaGreatDoor
open Go Go.Conc
section
variable {P:Program} {F:Array Func} {N:Nat→Prop} {α β:Type}
theorem fit_alloc (t:TypeId) (b:Bool) (v:Value):Fit P F N (Instr.alloc t b v):=by
 unfold Instr.alloc
 repeat' (first
  | with_reducible exact Fit.pureM _
  | with_reducible exact fit_zeroValue _
  | with_reducible exact fit_storeVar _ _ _
  | with_reducible exact fit_newVar _ _
  | with_reducible assumption
  | with_reducible refine Fit.bindM ?_ (fun _=>?_)
  | split
  | simp only)
theorem fit_box (t:TypeId) (v:Value):Fit P F N (Instr.box t v):=by
 unfold Instr.box
 repeat' (first
  | with_reducible exact Fit.pureM _
  | with_reducible exact fit_newVar _ _
  | with_reducible assumption
  | with_reducible refine Fit.bindM ?_ (fun _=>?_)
  | split
  | simp only)
theorem fit_build (t:TypeId) (ps:Array (Nat × Value)):Fit P F N (Instr.build t ps):=by
 unfold Instr.build
 refine Fit.bindM (fit_zeroValue _) fun z=>Fit.bindM (fit_underlying _) fun u=>?_
 split
 ·refine Fit.bindM (fit_arrayM (fun f=>Fit.bindM (fit_sizeOf _) fun _=>Fit.pureM _) _) fun _=>?_
  repeat' (first
   | with_reducible exact Fit.pureM _
   | with_reducible exact fit_stuck _
   | with_reducible exact fit_underlying _
   | with_reducible exact fit_sizeOf _
   | with_reducible exact fit_zeroValue _
   | with_reducible assumption
   | with_reducible refine Fit.bindM ?_ (fun _=>?_)
   | split
   | simp only)
 ·repeat' (first
   | with_reducible exact Fit.pureM _
   | with_reducible exact fit_stuck _
   | with_reducible exact fit_underlying _
   | with_reducible exact fit_sizeOf _
   | with_reducible exact fit_zeroValue _
   | with_reducible assumption
   | with_reducible refine Fit.bindM ?_ (fun _=>?_)
   | split
   | simp only)
 ·repeat' (first
   | with_reducible exact Fit.pureM _
   | with_reducible exact fit_stuck _
   | with_reducible exact fit_underlying _
   | with_reducible exact fit_sizeOf _
   | with_reducible exact fit_zeroValue _
   | with_reducible assumption
   | with_reducible refine Fit.bindM ?_ (fun _=>?_)
   | split
   | simp only)
theorem fit_buildSlice (t:TypeId) (n:Nat) (ps:Array (Nat × Value)):Fit P F N (Instr.buildSlice t n ps):=by
 unfold Instr.buildSlice
 repeat' (first
  | with_reducible exact Fit.pureM _
  | with_reducible exact fit_stuck _
  | ((with_reducible refine fit_unsupported _ ?_);exact trivial)
  | with_reducible exact fit_underlying _
  | with_reducible exact fit_sizeOf _
  | with_reducible exact fit_zeroValue _
  | with_reducible exact fit_newRow _ _
  | with_reducible assumption
  | with_reducible refine Fit.bindM ?_ (fun _=>?_)
  | split
  | simp only)
theorem fit_sureAddr (v:Value):Fit P F N (Instr.sureAddr v):=by
 unfold Instr.sureAddr
 repeat' (first
  | with_reducible exact Fit.pureM _
  | with_reducible exact fit_stuck _
  | with_reducible assumption
  | with_reducible refine Fit.bindM ?_ (fun _=>?_)
  | split
  | simp only)
theorem fit_loadAt (t:TypeId) (v:Value):Fit P F N (Instr.loadAt t v):=Fit.bindM (fit_sureAddr v) fun _=>fit_loadVar _ _
theorem fit_storeAt (t:TypeId) (a v:Value):Fit P F N (Instr.storeAt t a v):=Fit.bindM (fit_sureAddr a) fun _=>fit_storeVar _ _ _
theorem fit_partAt (a:Addr) (m n:Nat):Fit P F N (partAt a m n):=by
 unfold partAt
 repeat' (first
  | with_reducible exact Fit.pureM _
  | with_reducible exact fit_byteOf _
  | with_reducible assumption
  | with_reducible refine Fit.bindM ?_ (fun _=>?_)
  | split
  | simp only)
theorem fit_fieldPlace (a:Addr) (f:Field):Fit P F N (fieldPlace a f):=by
 unfold fieldPlace
 refine Fit.bindM (fit_sizeOf _) fun _=>?_
 split
 ·exact fit_partAt _ _ _
 ·exact Fit.pureM _
theorem fit_fieldAt (s:TypeId) (v:Value) (f:Nat):Fit P F N (Instr.fieldAt s v f):=by
 unfold Instr.fieldAt
 refine Fit.bindM (fit_underlying _) fun u=>?_
 split
 ·split
  ·exact Fit.bindM (fit_sureAddr _) fun _=>Fit.bindM (fit_fieldPlace _ _) fun _=>Fit.pureM _
  ·exact fit_stuck _
 ·exact fit_stuck _
theorem fit_indexAt (t:TypeId) (x i:Value):Fit P F N (Instr.indexAt t x i):=by
 unfold Instr.indexAt
 have:=fun v=>fit_sureAddr (P:=P) (F:=F) (N:=N) v
 repeat' (first
  | with_reducible exact Fit.pureM _
  | with_reducible exact fit_stuck _
  | ((with_reducible refine fit_unsupported _ ?_);exact trivial)
  | with_reducible exact fit_boundsPanic _ _ _ _
  | with_reducible exact fit_underlying _
  | with_reducible exact fit_sizeOf _
  | with_reducible exact fit_asIntOf _
  | with_reducible assumption
  | with_reducible refine Fit.bindM ?_ (fun _=>?_)
  | split
  | simp only)
 all_goals first|exact this _|skip
theorem fit_sliceBound (x:Value) (y:Nat) (c:BoundsCode):Fit P F N (Instr.sliceBound x y c):=by
 unfold Instr.sliceBound
 repeat' (first
  | with_reducible exact Fit.pureM _
  | with_reducible exact fit_boundsPanic _ _ _ _
  | with_reducible exact fit_asIntOf _
  | with_reducible assumption
  | with_reducible refine Fit.bindM ?_ (fun _=>?_)
  | split
  | simp only)
theorem fit_sliceBounds (b:Bool) (n c:Nat) (l h m:Option Value):Fit P F N (Instr.sliceBounds b n c l h m):=by
 unfold Instr.sliceBounds
 repeat' (first|with_reducible exact Fit.pureM _|with_reducible exact fit_stuck _|with_reducible exact fit_sliceBound _ _ _|with_reducible refine Fit.bindM ?_ (fun _=>?_)|split)
theorem fit_slice (t:TypeId) (x:Value) (l h m:Option Value):Fit P F N (Instr.slice t x l h m):=by
 unfold Instr.slice
 have hb:=fun b n c l h m=>fit_sliceBounds (P:=P) (F:=F) (N:=N) b n c l h m
 repeat' (first|with_reducible exact Fit.pureM _|with_reducible exact fit_stuck _|with_reducible exact hb _ _ _ _ _ _|with_reducible exact fit_underlying _|with_reducible exact fit_sizeOf _|with_reducible exact fit_asAddr _|with_reducible refine Fit.bindM ?_ (fun _=>?_)|split|simp only)
theorem fit_sliceAt (t:TypeId) (x:Value) (l h m:Option Value):Fit P F N (Instr.sliceAt t x l h m):=by
 unfold Instr.sliceAt
 have hb:=fun b n c l h m=>fit_sliceBounds (P:=P) (F:=F) (N:=N) b n c l h m
 repeat' (first|with_reducible exact Fit.pureM _|with_reducible exact fit_stuck _|with_reducible exact hb _ _ _ _ _ _|with_reducible exact fit_slice _ _ _ _ _|with_reducible exact fit_underlying _|with_reducible exact fit_sizeOf _|with_reducible exact fit_sureAddr _|with_reducible refine Fit.bindM ?_ (fun _=>?_)|split|simp only)
theorem fit_field (t:TypeId) (x:Value) (f:Nat):Fit P F N (Instr.field t x f):=by
 unfold Instr.field
 repeat' (first
  | with_reducible exact fit_stuck _
  | with_reducible exact fit_underlying _
  | with_reducible exact fit_asAgg _
  | with_reducible exact fit_part _ _ _
  | with_reducible assumption
  | with_reducible refine Fit.bindM ?_ (fun _=>?_)
  | split
  | simp only)
theorem fit_index (t:TypeId) (x i:Value):Fit P F N (Instr.index t x i):=by
 unfold Instr.index
 repeat' (first
  | with_reducible exact Fit.pureM _
  | with_reducible exact fit_stuck _
  | with_reducible exact fit_boundsPanic _ _ _ _
  | with_reducible exact fit_underlying _
  | with_reducible exact fit_sizeOf _
  | with_reducible exact fit_asIntOf _
  | with_reducible exact fit_part _ _ _
  | with_reducible assumption
  | with_reducible refine Fit.bindM ?_ (fun _=>?_)
  | split
  | simp only)
theorem fit_makeSlice (t:TypeId) (l c:Value):Fit P F N (Instr.makeSlice t l c):=by
 unfold Instr.makeSlice
 repeat' (first
  | with_reducible exact Fit.pureM _
  | with_reducible exact fit_stuck _
  | with_reducible exact fit_runtimePanic _
  | with_reducible exact fit_underlying _
  | with_reducible exact fit_sizeOf _
  | with_reducible exact fit_zeroValue _
  | with_reducible exact fit_typeInfo _
  | with_reducible exact fit_asInt _
  | with_reducible exact fit_newRow _ _
  | with_reducible exact fit_choose _
  | with_reducible exact fit_askRoom _
  | with_reducible assumption
  | with_reducible refine Fit.bindM ?_ (fun _=>?_)
  | split
  | simp only)
theorem fit_makeChan (t:TypeId) (v:Value):Fit P F N (Instr.makeChan t v):=by
 unfold Instr.makeChan
 repeat' (first
  | with_reducible exact Fit.pureM _
  | with_reducible exact fit_stuck _
  | with_reducible exact fit_runtimePanic _
  | with_reducible exact fit_underlying _
  | with_reducible exact fit_typeInfo _
  | with_reducible exact fit_asInt _
  | ((with_reducible refine fit_newObj _ ?_);exact trivial)
  | with_reducible assumption
  | with_reducible refine Fit.bindM ?_ (fun _=>?_)
  | split
  | simp only)
theorem fit_makeMap (t:TypeId) (v:Option Value):Fit P F N (Instr.makeMap t v):=by
 unfold Instr.makeMap
 repeat' (first
  | with_reducible exact Fit.pureM _
  | with_reducible exact fit_stuck _
  | with_reducible exact fit_underlying _
  | with_reducible exact fit_asInt _
  | ((with_reducible refine fit_newObj _ ?_);exact trivial)
  | with_reducible assumption
  | with_reducible refine Fit.bindM ?_ (fun _=>?_)
  | split
  | simp only)
theorem fit_makeInterface (t:TypeId) (v:Value):Fit P F N (Instr.makeInterface t v):=by
 unfold Instr.makeInterface
 repeat' (first
  | with_reducible exact Fit.pureM _
  | with_reducible exact fit_stuck _
  | with_reducible exact fit_underlying _
  | with_reducible assumption
  | with_reducible refine Fit.bindM ?_ (fun _=>?_)
  | split
  | simp only)
theorem fit_makeFunc (f:Fn) (a b:Array Value):Fit P F N (Instr.makeFunc f a b):=Fit.pureM _
theorem fit_extract (v:Value) (i:Nat):Fit P F N (Instr.extract v i):=by
 unfold Instr.extract
 repeat' (first
  | with_reducible exact Fit.pureM _
  | with_reducible exact fit_stuck _
  | with_reducible assumption
  | with_reducible refine Fit.bindM ?_ (fun _=>?_)
  | split
  | simp only)
theorem fit_typeAssert (x:Value) (t u:TypeId) (b:Bool):Fit P F N (Instr.typeAssert x t u b):=by
 unfold Instr.typeAssert
 simp only
 repeat' (first
  | with_reducible exact Fit.pureM _
  | with_reducible exact fit_stuck _
  | with_reducible exact fit_runtimePanic _
  | with_reducible exact fit_underlying _
  | with_reducible exact fit_zeroValue _
  | with_reducible exact fit_typeInfo _
  | with_reducible assumption
  | with_reducible refine Fit.bindM ?_ (fun _=>?_)
  | split
  | simp only)
theorem fit_checkKey (b:Bool):∀ (n:Nat) (t:TypeId) (v:Value),Fit P F N (Instr.checkKey b n t v)
 | 0,_,_=>fit_unsupported _
 |n+1,t,v=>by
  unfold Instr.checkKey
  have ih:=fit_checkKey b n
  refine Fit.bindM (fit_underlying _) fun u=>?_
  split
  ·refine Fit.bindM (fit_typeInfo _) fun i=>?_
   simp only
   split
   ·split
    ·exact Fit.bindM (fit_runtimePanic _) fun _=>Fit.bindM (fit_typeStr _) fun _=>Fit.bindM (fit_runtimePanic _) fun _=>ih _ _
    ·exact Fit.bindM (fit_typeStr _) fun _=>Fit.bindM (fit_runtimePanic _) fun _=>ih _ _
   ·exact ih _ _
  ·refine Fit.bindM (fit_range (fun i b=>Fit.bindM (fit_sizeOf _) fun _=>Fit.bindM (fit_part _ _ _) fun _=>Fit.bindM (ih _ _) fun _=>Fit.pureM _) _ _) fun _=>Fit.pureM _
  ·refine Fit.bindM (fit_array (fun f b=>?_) _ _) fun _=>Fit.pureM _
   split
   ·exact Fit.bindM (fit_part _ _ _) fun _=>Fit.bindM (ih _ _) fun _=>Fit.pureM _
   ·exact Fit.pureM _
  all_goals first|exact Fit.pureM _|exact fit_stuck _
theorem fit_findAsking (t:TypeId) (k:Value):∀ (es:List MapEntry) (i:Nat),Fit P F N (Instr.findAsking t k es i)
 | [],_=>Fit.pureM _
 |e :: es,i=>by
  unfold Instr.findAsking
  refine Fit.bindM (fit_equalIn _ _ _ _) fun b=>?_
  split
  ·exact Fit.pureM _
  ·exact fit_findAsking t k es _
theorem fit_findKey (t:TypeId) (k:Value) (es:List MapEntry):Fit P F N (Instr.findKey t k es):=by
 unfold Instr.findKey
 refine Fit.bindM (fit_underlying _) fun u=>?_
 split
 ·exact Fit.pureM _
 ·exact fit_findAsking _ _ _ _
theorem fit_getObj {r:Nat} {k:Obj→Sem α} (hb:∀ v,Res.bad ((k poison).run (withF P F) v)) (hk:∀ o,okObj P F o→Fit P F (fun i=>i=r∨N i) (k o)):Fit P F N (getObj r >>= k):=Fit.getObj' hb hk
theorem fit_setObj {r:Nat} {o:Obj} (hr:N r) (h:okObj P F o:=by exact trivial):Fit P F N (setObj r o):=Fit.setObj' hr h (Fit.pure' _)
theorem fit_lookup (t:TypeId) (x i:Value) (b:Bool):Fit P F N (Instr.lookup t x i b):=by
 unfold Instr.lookup
 refine Fit.bindM (fit_underlying _) fun u=>?_
 split
 ·have key':∀ {M:Nat→Prop} (es:Array MapEntry) (key elem:TypeId),Fit P F M (do
    Instr.checkKey es.isEmpty 10000 key i
    let (v,ok) ← match ← Instr.findKey key i es.toList with
     | some (_,v)=>pure (v,true)
     | none=>pure (← zeroValue elem,false)
    pure (if b then .tuple #[v,.bool ok] else v):Sem Value):=by
   intro M es key elem
   refine Fit.bindM (fit_checkKey _ _ _ _) fun _=>Fit.bindM (fit_findKey _ _ _) fun o=>?_
   repeat' (first
    | with_reducible exact Fit.pureM _
    | with_reducible exact fit_stuck _
    | with_reducible exact fit_underlying _
    | with_reducible exact fit_zeroValue _
    | with_reducible assumption
    | with_reducible refine Fit.bindM ?_ (fun _=>?_)
    | split
    | simp only)
  have key:=@key' N
  cases x with
  | map r =>
   cases r with
   | none=>exact Fit.bindM (Fit.pureM _) fun es=>key es _ _
   | some r =>
    refine fit_getObj (fun v=>by simp [stuck,Sem.run,Res.bad]) fun o hO=>?_
    split
    ·exact Fit.bindM (Fit.pureM _) fun es=>key' es _ _
    ·exact fit_stuck _
  | _=>exact Fit.bindM (fit_stuck _) fun es=>key es _ _
 ·exact fit_stuck _
theorem fit_mapUpdate (t:TypeId) (m k x:Value):Fit P F N (Instr.mapUpdate t m k x):=by
 unfold Instr.mapUpdate
 refine Fit.bindM (fit_underlying _) fun u=>?_
 split
 ·split
  ·exact fit_runtimePanic _
  ·refine fit_getObj (fun v=>by simp [stuck,Sem.run,Res.bad]) fun o hO=>?_
   split
   ·refine Fit.bindM (fit_checkKey _ _ _ _) fun _=>Fit.bindM (fit_findKey _ _ _) fun o=>?_
    split
    ·refine Fit.bindM ?_ fun _=>fit_setObj (.inl rfl)
     unfold Instr.keyThatStays
     repeat' (first
      | with_reducible exact Fit.pureM _
      | with_reducible exact fit_stuck _
      | with_reducible exact fit_runtimePanic _
      | with_reducible exact fit_underlying _
      | with_reducible exact fit_choose _
      | with_reducible assumption
      | with_reducible refine Fit.bindM ?_ (fun _=>?_)
      | split
      | simp only)
    ·exact fit_setObj (.inl rfl)
   ·exact fit_stuck _
  ·exact fit_stuck _
 ·exact fit_stuck _
end
end Go.Proofs.YtpcjdalgebgofaaGreatDoor
namespace Go.Proofs.YtpcjdalgebgofaaGreatDoor
open Go Go.Conc
section
variable (P:Program) (F:Array Func)
theorem cellOfByte_f:∀ d t o,cellOfByte (withF P F) d t o=cellOfByte P d t o
 | 0,_,_=>rfl
 |d+1,t,o=>by
  unfold cellOfByte
  simp only [cellOfByte_f d]
  rfl
theorem cellAtBytes_f (d e c o:Nat) (b:Int):cellAtBytes (withF P F) d e c o b=cellAtBytes P d e c o b:=by
 unfold cellAtBytes
 simp only [cellOfByte_f,byteOfCell_f]
 rfl
end
section
variable {P:Program} {F:Array Func} {N:Nat→Prop} {α β:Type}
theorem fit_underlying_eq {t:TypeId} {d:TypeDesc} {k:TypeDesc→Sem α} (h:P.underlying t=some d) (hk:Fit P F N (k d)):Fit P F N (underlying t >>= k):=by
 refine Fit.program' (k:=fun p=>(match p.underlying t with|some d=>pure d|none=>stuck "no such type" : Sem TypeDesc) >>= k) rfl ?_
 simp only [h]
 exact hk
theorem fit_intArith (op:BinOp) (k:IntKind) (x y:Int):Fit P F N (Op.intArith op k x y):=by
 unfold Op.intArith
 repeat' (first
  | with_reducible exact Fit.pureM _
  | with_reducible exact fit_stuck _
  | with_reducible assumption
  | with_reducible refine Fit.bindM ?_ (fun _=>?_)
  | split
  | simp only)
theorem fit_intDiv (op:BinOp) (k:IntKind) (x y:Int):Fit P F N (Op.intDiv op k x y):=by
 unfold Op.intDiv
 repeat' (first
  | with_reducible exact Fit.pureM _
  | with_reducible exact fit_stuck _
  | with_reducible exact fit_runtimePanic _
  | with_reducible assumption
  | with_reducible refine Fit.bindM ?_ (fun _=>?_)
  | split
  | simp only)
theorem fit_intBits (op:BinOp) (k:IntKind) (x y:Int):Fit P F N (Op.intBits op k x y):=by
 unfold Op.intBits
 simp only
 repeat' (first
  | with_reducible exact Fit.pureM _
  | with_reducible exact fit_stuck _
  | with_reducible assumption
  | with_reducible refine Fit.bindM ?_ (fun _=>?_)
  | split
  | simp only)
theorem fit_intCmp (op:BinOp) (x y:Int):Fit P F N (Op.intCmp op x y):=by
 unfold Op.intCmp
 repeat' (first
  | with_reducible exact Fit.pureM _
  | with_reducible exact fit_stuck _
  | with_reducible assumption
  | with_reducible refine Fit.bindM ?_ (fun _=>?_)
  | split
  | simp only)
theorem fit_shift (op:BinOp) (k:IntKind) (x:Int) (yk:IntKind) (y:Int):Fit P F N (Op.shift op k x yk y):=by
 unfold Op.shift
 repeat' (first
  | with_reducible exact Fit.pureM _
  | with_reducible exact fit_stuck _
  | with_reducible exact fit_runtimePanic _
  | with_reducible assumption
  | with_reducible refine Fit.bindM ?_ (fun _=>?_)
  | split
  | simp only)
theorem fit_stringOp (op:BinOp) (x y:ByteArray):Fit P F N (Op.stringOp op x y):=by
 unfold Op.stringOp
 simp only
 repeat' (first
  | with_reducible exact Fit.pureM _
  | with_reducible exact fit_stuck _
  | ((with_reducible refine fit_unsupported _ ?_);exact trivial)
  | with_reducible assumption
  | with_reducible refine Fit.bindM ?_ (fun _=>?_)
  | split
  | simp only)
theorem fit_floatArith (op:BinOp) (k:FloatKind) (x y:Nat):Fit P F N (Op.floatArith op k x y):=by
 unfold Op.floatArith
 repeat' (first
  | with_reducible exact Fit.pureM _
  | with_reducible exact fit_stuck _
  | with_reducible exact fit_choose _
  | with_reducible assumption
  | with_reducible refine Fit.bindM ?_ (fun _=>?_)
  | split
  | simp only)
theorem fit_floatCmp (op:BinOp) (k:FloatKind) (x y:Nat):Fit P F N (Op.floatCmp op k x y):=by
 unfold Op.floatCmp
 simp only
 repeat' (first
  | with_reducible exact Fit.pureM _
  | with_reducible exact fit_stuck _
  | with_reducible assumption
  | with_reducible refine Fit.bindM ?_ (fun _=>?_)
  | split
  | simp only)
theorem fit_floatToFloat (s:FloatKind) (x:Nat) (d:FloatKind):Fit P F N (Conv.floatToFloat s x d):=by
 unfold Conv.floatToFloat
 repeat' (first
  | with_reducible exact Fit.pureM _
  | with_reducible exact fit_choose _
  | with_reducible assumption
  | with_reducible refine Fit.bindM ?_ (fun _=>?_)
  | split
  | simp only)
theorem fit_carith (op:BinOp) (k:FloatKind) (x y:Nat):Fit P F N (Op.Complex.arith op k x y):=by
 unfold Op.Complex.arith
 refine Fit.bindM (fit_floatArith _ _ _ _) fun v=>?_
 repeat' (first
  | with_reducible exact Fit.pureM _
  | with_reducible exact fit_stuck _
  | with_reducible assumption
  | with_reducible refine Fit.bindM ?_ (fun _=>?_)
  | split
  | simp only)
theorem fit_ccmp (op:BinOp) (k:FloatKind) (x y:Nat):Fit P F N (Op.Complex.cmp op k x y):=Fit.bindM (fit_floatCmp _ _ _ _) fun _=>fit_asBool _
theorem fit_cconv (s:FloatKind) (x:Nat) (d:FloatKind):Fit P F N (Op.Complex.conv s x d):=by
 unfold Op.Complex.conv
 split
 ·exact Fit.pureM _
 ·refine Fit.bindM (fit_floatToFloat _ _ _) fun v=>?_
  repeat' (first
   | with_reducible exact Fit.pureM _
   | with_reducible exact fit_stuck _
   | with_reducible assumption
   | with_reducible refine Fit.bindM ?_ (fun _=>?_)
   | split
   | simp only)
theorem fit_cadd (x y:Nat):Fit P F N (Op.Complex.add x y):=fit_carith _ _ _ _
theorem fit_csub (x y:Nat):Fit P F N (Op.Complex.sub x y):=fit_carith _ _ _ _
theorem fit_cmul (x y:Nat):Fit P F N (Op.Complex.mul x y):=fit_carith _ _ _ _
theorem fit_cquo (x y:Nat):Fit P F N (Op.Complex.quo x y):=fit_carith _ _ _ _
theorem fit_product (a b c d:Nat):Fit P F N (Op.Complex.product a b c d):=by
 unfold Op.Complex.product
 repeat' (first
  | with_reducible exact Fit.pureM _
  | with_reducible exact fit_cadd _ _
  | with_reducible exact fit_csub _ _
  | with_reducible exact fit_cmul _ _
  | with_reducible assumption
  | with_reducible refine Fit.bindM ?_ (fun _=>?_)
  | split
  | simp only)
theorem fit_corrected (s a b c d:Nat):Fit P F N (Op.Complex.corrected s a b c d):=by
 unfold Op.Complex.corrected
 repeat' (first
  | with_reducible exact Fit.pureM _
  | with_reducible exact fit_cadd _ _
  | with_reducible exact fit_csub _ _
  | with_reducible exact fit_cmul _ _
  | with_reducible assumption
  | with_reducible refine Fit.bindM ?_ (fun _=>?_)
  | split
  | simp only)
theorem fit_quotient (a b c d:Nat):Fit P F N (Op.Complex.quotient a b c d):=by
 have key:∀ e f:Nat,Fit P F N (do
   let zero:=(← Op.Complex.cmp .eql .f64 c 0) && (← Op.Complex.cmp .eql .f64 d 0)
   if !(Op.Complex.isNaN e && Op.Complex.isNaN f) then pure (e,f)
   else if zero && (!Op.Complex.isNaN a || !Op.Complex.isNaN b) then
    pure (← Op.Complex.mul (Op.Complex.copysign Op.Complex.inf c) a,← Op.Complex.mul (Op.Complex.copysign Op.Complex.inf c) b)
   else if (Op.Complex.isInf a || Op.Complex.isInf b) && Op.Complex.isFinite c && Op.Complex.isFinite d then
    Op.Complex.corrected Op.Complex.inf (Op.Complex.inf2one a) (Op.Complex.inf2one b) c d
   else if (Op.Complex.isInf c || Op.Complex.isInf d) && Op.Complex.isFinite a && Op.Complex.isFinite b then
    Op.Complex.corrected 0 a b (Op.Complex.inf2one c) (Op.Complex.inf2one d)
   else pure (e,f):Sem (Nat × Nat)):=by
  intro e f
  refine Fit.bindM (fit_ccmp _ _ _ _) fun _=>Fit.bindM (fit_ccmp _ _ _ _) fun _=>?_
  simp only
  split
  ·exact Fit.pureM _
  split
  ·exact Fit.bindM (fit_cmul _ _) fun _=>Fit.bindM (fit_cmul _ _) fun _=>Fit.pureM _
  split
  ·exact fit_corrected _ _ _ _ _
  split
  ·exact fit_corrected _ _ _ _ _
  ·exact Fit.pureM _
 unfold Op.Complex.quotient
 refine Fit.bindM (fit_ccmp _ _ _ _) fun z=>?_
 simp only
 split
 ·exact Fit.bindM (fit_cquo _ _) fun _=>Fit.bindM (fit_cmul _ _) fun _=>Fit.bindM (fit_cadd _ _) fun _=>Fit.bindM (fit_cmul _ _) fun _=>Fit.bindM (fit_cadd _ _) fun _=>Fit.bindM (fit_cquo _ _) fun _=>Fit.bindM (fit_cmul _ _) fun _=>Fit.bindM (fit_csub _ _) fun _=>Fit.bindM (fit_cquo _ _) fun _=>Fit.bindM (Fit.pureM _) fun r=>key r.1 r.2
 ·exact Fit.bindM (fit_cquo _ _) fun _=>Fit.bindM (fit_cmul _ _) fun _=>Fit.bindM (fit_cadd _ _) fun _=>Fit.bindM (fit_cmul _ _) fun _=>Fit.bindM (fit_cadd _ _) fun _=>Fit.bindM (fit_cquo _ _) fun _=>Fit.bindM (fit_cmul _ _) fun _=>Fit.bindM (fit_csub _ _) fun _=>Fit.bindM (fit_cquo _ _) fun _=>Fit.bindM (Fit.pureM _) fun r=>key r.1 r.2
theorem fit_complexOp (op:BinOp) (k:FloatKind) (a b c d:Nat):Fit P F N (Op.complexOp op k a b c d):=by
 unfold Op.complexOp
 have h1:=fun a b c d=>fit_product (P:=P) (F:=F) (N:=N) a b c d
 have h2:=fun a b c d=>fit_quotient (P:=P) (F:=F) (N:=N) a b c d
 split
 ·repeat' (first
   | with_reducible exact Fit.pureM _
   | with_reducible exact fit_stuck _
   | with_reducible exact fit_ccmp _ _ _ _
   | with_reducible exact fit_carith _ _ _ _
   | with_reducible exact fit_cconv _ _ _
   | with_reducible assumption
   | with_reducible refine Fit.bindM ?_ (fun _=>?_)
   | split
   | simp only)
 ·repeat' (first
   | with_reducible exact Fit.pureM _
   | with_reducible exact fit_stuck _
   | with_reducible exact fit_ccmp _ _ _ _
   | with_reducible exact fit_carith _ _ _ _
   | with_reducible exact fit_cconv _ _ _
   | with_reducible assumption
   | with_reducible refine Fit.bindM ?_ (fun _=>?_)
   | split
   | simp only)
 ·refine Fit.bindM (fit_cconv _ _ _) fun _=>Fit.bindM (fit_cconv _ _ _) fun _=>Fit.bindM (fit_cconv _ _ _) fun _=>Fit.bindM (fit_cconv _ _ _) fun _=>?_
  simp only
  split
  ·exact Fit.bindM (h1 _ _ _ _) fun _=>Fit.bindM (fit_cconv _ _ _) fun _=>Fit.bindM (fit_cconv _ _ _) fun _=>Fit.pureM _
  ·exact Fit.bindM (h2 _ _ _ _) fun _=>Fit.bindM (fit_cconv _ _ _) fun _=>Fit.bindM (fit_cconv _ _ _) fun _=>Fit.pureM _
 ·refine Fit.bindM (fit_cconv _ _ _) fun _=>Fit.bindM (fit_cconv _ _ _) fun _=>Fit.bindM (fit_cconv _ _ _) fun _=>Fit.bindM (fit_cconv _ _ _) fun _=>?_
  simp only
  split
  ·exact Fit.bindM (h1 _ _ _ _) fun _=>Fit.bindM (fit_cconv _ _ _) fun _=>Fit.bindM (fit_cconv _ _ _) fun _=>Fit.pureM _
  ·exact Fit.bindM (h2 _ _ _ _) fun _=>Fit.bindM (fit_cconv _ _ _) fun _=>Fit.bindM (fit_cconv _ _ _) fun _=>Fit.pureM _
 ·repeat' (first
   | with_reducible exact Fit.pureM _
   | with_reducible exact fit_stuck _
   | with_reducible exact fit_ccmp _ _ _ _
   | with_reducible exact fit_carith _ _ _ _
   | with_reducible exact fit_cconv _ _ _
   | with_reducible assumption
   | with_reducible refine Fit.bindM ?_ (fun _=>?_)
   | split
   | simp only)
 ·repeat' (first
   | with_reducible exact Fit.pureM _
   | with_reducible exact fit_stuck _
   | with_reducible exact fit_ccmp _ _ _ _
   | with_reducible exact fit_carith _ _ _ _
   | with_reducible exact fit_cconv _ _ _
   | with_reducible assumption
   | with_reducible refine Fit.bindM ?_ (fun _=>?_)
   | split
   | simp only)
 ·exact fit_stuck _
end
end Go.Proofs.YtpcjdalgebgofaaGreatDoor
namespace Go.Proofs.YtpcjdalgebgofaaGreatDoor
open Go Go.Conc
section
variable {P:Program} {F:Array Func} {N:Nat→Prop} {α β:Type}
theorem fit_shape {r:Nat} {k:Option (TypeId × Nat)→Sem α} (hb:∀ v,Res.bad ((k none).run (withF P F) v)) (hk:∀ s,Fit P F (fun i=>i=r∨N i) (k s)):Fit P F N (shape r >>= k):=by
 refine Fit.byShun r (Fit.shapeN (.inl rfl) hk) ?_
 intro v w o hv hw _
 have e:v.shape? r=none:=by simp [World.shape?,hv]
 have:(shape r >>= k).run (withF P F) v=(k (v.shape? r)).run (withF P F) v:=rfl
 rw [this,e]
 exact .inr (hb v)
theorem bad_unsupported {u:Unsupported} (v:World) (h:notInit u:=by exact trivial):Res.bad ((unsupported u:Sem α).run (withF P F) v):=h
theorem fit_unsafeAdd (ts:Array TypeId) (t:TypeId) (args:Array Value):Fit P F N (Builtin.unsafeAdd_ ts t args):=by
 unfold Builtin.unsafeAdd_
 rcases args with ⟨_|⟨a,_|⟨len_,_|⟨c,l⟩⟩⟩⟩
 ·exact fit_stuck _
 ·exact fit_stuck _
 rotate_left
 ·exact fit_stuck _
 cases a with
 | pointer ptr =>
  refine Fit.bindM (fit_asInt _) fun n=>?_
  simp only
  have key:Fit P F N (do
    if n<0 then unsupported (.unsafePointer "Add: a move by a count below zero")
    let some a:=ptr|unsupported (.unsafePointer "Add")
    let some (e,cells) ← shape a.block|unsupported (.unsafePointer "Add")
    let p ← program
    match cellAtBytes p p.depth e (cells / p.cellsOf e) a.off n with
    | some off=>pure (.pointer (some { a with off }))
    | none=>unsupported (.unsafePointer "Add"):Sem Value):=by
   have key2:∀ a:Addr,Fit P F N (do
     let some (e,cells) ← shape a.block|unsupported (.unsafePointer "Add")
     let p ← program
     match cellAtBytes p p.depth e (cells / p.cellsOf e) a.off n with
     | some off=>pure (.pointer (some { a with off }))
     | none=>unsupported (.unsafePointer "Add"):Sem Value):=by
    intro a
    refine fit_shape (fun v=>bad_unsupported v) fun s=>?_
    split
    ·refine Fit.progM (by simp only [cellAtBytes_f,depth_f,cellsOf_f]) ?_
     split
     ·exact Fit.pureM _
     ·exact fit_unsupported _
    ·exact fit_unsupported _
   cases ptr with
   | none =>
    simp only
    split
    ·exact Fit.bindM (fit_unsupported _) fun _=>fit_unsupported _
    ·exact fit_unsupported _
   | some a =>
    simp only
    split
    ·exact Fit.bindM (fit_unsupported _) fun _=>key2 a
    ·exact key2 a
  split
  ·cases ptr with
   | none=>exact fit_unsupported _
   | some a =>
    refine Fit.bindM (fit_viewAt _) fun o=>?_
    split
    ·exact Fit.bindM (fit_unsupported _) fun _=>Fit.pureM _
    ·exact Fit.pureM _
  ·exact key
 | _=>exact fit_stuck _
theorem fit_asNumber (a:Addr) (b:Bool):Fit P F N (asNumber a b):=Fit.bindM (fit_newObj _) fun _=>Fit.pureM _
theorem fit_movedNumber (t:TypeId) (x y:Value):Fit P F N (movedNumber t x y):=by
 unfold movedNumber
 have key:Fit P F N (do
   let .pointer (some n):=x|Builtin.unsafeAdd_ #[] t #[x,y]
   let (a,lost) ← behindNumber n
   match ← Builtin.unsafeAdd_ #[] t #[.pointer (some a),y] with
   | .pointer (some b)=>asNumber b lost
   | v=>pure v:Sem Value):=by
  split
  ·refine Fit.bindM (fit_behindNumber _) fun r=>?_
   simp only
   refine Fit.bindM (fit_unsafeAdd _ _ _) fun z=>?_
   split
   ·exact fit_asNumber _ _
   ·exact Fit.pureM _
  ·exact fit_unsafeAdd _ _ _
 refine Fit.bindM (fit_underlying _) fun u=>?_
 simp only
 split
 ·exact Fit.bindM (fit_unsupported _) fun _=>key
 ·exact key
theorem fit_movedPointer (t:TypeId) (x y:Value):Fit P F N (movedPointer t x y):=by
 unfold movedPointer
 split
 ·refine Fit.bindM (fit_numberAt _) fun o=>?_
  split
  ·exact Fit.bindM (fit_unsupported _) fun _=>fit_unsafeAdd _ _ _
  ·exact fit_unsafeAdd _ _ _
 ·exact fit_unsafeAdd _ _ _
theorem fit_twoPlaces (a b:Addr):Fit P F N (Op.twoPlaces a b):=by
 unfold Op.twoPlaces
 refine Fit.progM rfl ?_
 simp only
 split
 ·exact Fit.bindM (fit_unsupported _) fun _=>Fit.bindM (fit_byteOf _) fun _=>Fit.bindM (fit_byteOf _) fun _=>Fit.pureM _
 ·exact Fit.bindM (fit_byteOf _) fun _=>Fit.bindM (fit_byteOf _) fun _=>Fit.pureM _
theorem fit_addrSub (k:IntKind) (a b:Addr):Fit P F N (Op.addrSub k a b):=Fit.bindM (fit_twoPlaces _ _) fun _=>Fit.pureM _
theorem fit_addrCmp (op:BinOp) (a b:Addr):Fit P F N (Op.addrCmp op a b):=by
 refine Fit.bindM (fit_twoPlaces _ _) fun _=>?_
 repeat' (first
  | with_reducible exact Fit.pureM _
  | ((with_reducible refine fit_unsupported _ ?_);exact trivial)
  | with_reducible assumption
  | with_reducible refine Fit.bindM ?_ (fun _=>?_)
  | split
  | simp only)
theorem fit_addrMod (k:IntKind) (a:Addr) (n:Int):Fit P F N (Op.addrMod k a n):=by
 unfold Op.addrMod
 refine fit_shape (fun v=>bad_unsupported v) fun s=>?_
 split
 ·refine Fit.bindM (fit_typeInfo _) fun i=>?_
  simp only
  split
  ·exact Fit.bindM (fit_unsupported _) fun _=>Fit.bindM (fit_byteOf _) fun _=>Fit.pureM _
  ·exact Fit.bindM (fit_byteOf _) fun _=>Fit.pureM _
 ·exact fit_unsupported _
theorem fit_equal (t:TypeId) (x y:Value):Fit P F N (Op.equal t x y):=fit_equalIn _ _ _ _
theorem fit_binOp (op:BinOp) (t:TypeId) (x y:Value):Fit P F N (binOp op t x y):=by
 unfold binOp
 split
 all_goals first
  | with_reducible exact fit_shift _ _ _ _ _
  | with_reducible exact fit_stringOp _ _ _
  | with_reducible exact Fit.bindM (fit_equal _ _ _) fun _=>Fit.pureM _
  | with_reducible exact fit_movedNumber _ _ _
  | with_reducible exact Fit.bindM (fit_behindNumber _) fun _=>Fit.bindM (fit_behindNumber _) fun _=>fit_addrSub _ _ _
  | with_reducible exact Fit.bindM (fit_behindNumber _) fun _=>Fit.bindM (fit_behindNumber _) fun _=>fit_addrCmp _ _ _
  | with_reducible exact Fit.bindM (fit_behindNumber _) fun _=>fit_addrMod _ _ _
  | ((with_reducible refine fit_unsupported _ ?_);exact trivial)
  | with_reducible exact fit_stuck _
  | skip
 ·split
  ·exact fit_stuck _
  ·split
   all_goals first|with_reducible exact fit_intArith _ _ _ _|with_reducible exact fit_intDiv _ _ _ _|with_reducible exact fit_intBits _ _ _ _|with_reducible exact fit_intCmp _ _ _
 ·split
  ·exact fit_stuck _
  ·split
   all_goals first|with_reducible exact fit_floatArith _ _ _ _|with_reducible exact fit_floatCmp _ _ _ _
 ·split
  ·exact fit_stuck _
  ·exact fit_complexOp _ _ _ _ _ _
 ·refine Fit.bindM (fit_underlying _) fun u=>?_
  split
  ·exact fit_movedPointer _ _ _
  ·exact fit_movedNumber _ _ _
theorem fit_eqGuard (op:BinOp) (t:TypeId) (x y:Operand) (a b:Value):Fit P F N (eqGuard op t x y a b):=by
 have k2:∀ u,notInit u→Fit P F N (do if ← Op.eqGuardIn Op.maxDepth t a b then unsupported u:Sem Unit):=fun u hu=>by
  refine Fit.bindM (fit_eqGuardIn _ _ _ _) fun z=>?_
  split
  ·exact fit_unsupported _ hu
  ·exact Fit.pureM _
 have k3:∀ u,notInit u→Fit P F N (do
   if !(← program).eqGuardType (← program).depth t then return
   if ← Op.eqGuardIn Op.maxDepth t a b then unsupported u:Sem Unit):=fun u hu=>by
  refine Fit.progM ?_ ?_
  ·simp only [eqGuardType_f]
  refine Fit.progM ?_ ?_
  ·simp only [depth_f]
   rfl
  split
  ·exact Fit.pureM _
  ·exact k2 u hu
 unfold eqGuard
 repeat' (first|with_reducible exact Fit.pureM _|((with_reducible refine k2 _ ?_);exact trivial)|((with_reducible refine k3 _ ?_);exact trivial)|split)
theorem fit_unary (op:UnOp) (x:Value):Fit P F N (Op.unary op x):=by
 unfold Op.unary
 split
 all_goals first|exact fit_intArith _ _ _ _|exact fit_intBits _ _ _ _|exact Fit.pureM _|exact fit_unsupported _|exact fit_stuck _
theorem fit_floatToInt (s:FloatKind) (b:Nat) (k:IntKind):Fit P F N (Conv.floatToInt s b k):=by
 unfold Conv.floatToInt
 repeat' (first
  | with_reducible exact Fit.pureM _
  | with_reducible exact fit_choose _
  | with_reducible assumption
  | with_reducible refine Fit.bindM ?_ (fun _=>?_)
  | split
  | simp only)
theorem fit_convertInt {s d:TypeId} {j k:IntKind} (hs:P.underlying s=some (.int j)) (hd:P.underlying d=some (.int k)) (x:Value):Fit P F N (convert s d x):=by
 unfold convert
 refine fit_underlying_eq hs (fit_underlying_eq hd ?_)
 split
 all_goals first
  | contradiction
  | with_reducible exact Fit.pureM _
  | ((with_reducible refine fit_unsupported _ ?_);exact trivial)
  | with_reducible exact fit_floatToInt _ _ _
  | exact Fit.pureM _
end
end Go.Proofs.YtpcjdalgebgofaaGreatDoor
namespace Go.Proofs.YtpcjdalgebgofaaGreatDoor
open Go Go.Conc
section
variable {P:Program} {F:Array Func} {N:Nat→Prop} {α β:Type}
theorem fit_lenOf (v:Value):Fit P F N (Builtin.lenOf v):=by
 unfold Builtin.lenOf
 repeat' (first
  | with_reducible exact Fit.pureM _
  | with_reducible exact fit_stuck _
  | with_reducible assumption
  | with_reducible refine Fit.bindM ?_ (fun _=>?_)
  | split
  | simp only)
theorem fit_firstCells (s n:Nat) (v:Value):Fit P F N (Builtin.firstCells s n v):=by
 unfold Builtin.firstCells
 repeat' (first
  | with_reducible exact Fit.pureM _
  | with_reducible exact fit_stuck _
  | with_reducible exact fit_loadCells _ _
  | with_reducible assumption
  | with_reducible refine Fit.bindM ?_ (fun _=>?_)
  | split
  | simp only)
theorem bad_share (sz sl n:Nat) (b:Option Addr) (x:Value) (u:Unsupported) (v:World) (hu:notInit u:=by exact trivial):Res.bad ((do
  if !(← Builtin.mayShare sz sl n b x) then mark .noRoom
  unsupported u:Sem α).run (withF P F) v):=by
 have nohalt:∃ y,(Builtin.mayShare sz sl n b x).run (withF P F) v=.ok y v:=by
  unfold Builtin.mayShare Builtin.holdsCells
  cases b <;> cases x <;> simp only [bind,Sem.bind,Sem.run,pure,shape,frozen]
  all_goals repeat' (first|exact ⟨_,rfl⟩|split|simp only [Sem.run,Sem.bind,pure])
 obtain ⟨y,hy⟩:=nohalt
 have e:=run_bind (withF P F) (Builtin.mayShare sz sl n b x) (fun z=>(if !z then mark .noRoom else pure PUnit.unit) >>= fun _=>(unsupported u:Sem α)) v
 rw [hy] at e
 have e2:(do
  if !(← Builtin.mayShare sz sl n b x) then mark .noRoom
  unsupported u:Sem α).run (withF P F) v=((if !y then mark .noRoom else pure PUnit.unit) >>= fun _=>(unsupported u:Sem α)).run (withF P F) v:=by
  refine Eq.trans ?_ e
  congr 1
  show Sem.bind _ _=Sem.bind _ _
  congr 1
  funext z
  cases z <;> rfl
 rw [e2]
 cases y <;> exact hu
set_option maxHeartbeats 4000000 in
theorem fit_append (ts:Array TypeId) (t:TypeId) (args:Array Value):Fit P F N (Builtin.append_ ts t args):=by
 unfold Builtin.append_
 split
 ·rename_i sT s0 xv hargs
  refine Fit.bindM (fit_underlying _) fun u=>?_
  split
  ·rename_i elem
   cases s0 with
   | slice base sl sc =>
    refine Fit.bindM (fit_sizeOf _) fun sz=>?_
    extract_lets jb jp
    have hj:∀ z,Fit P F N (jp z):=by
     intro z
     simp -zeta only [jp]
     extract_lets jq
     have hq:∀ n,Fit P F N (jq n):=by
      intro n
      simp only [jq]
      have kapp:Fit P F N (if (!z)=true then Builtin.firstCells sz n xv else if n * sz=0 then pure #[] else do pure (Builtin.zeroCells (← zeroValue elem).cells n)):=by
       repeat' (first
        | with_reducible exact fit_lenOf _
        | with_reducible exact fit_firstCells _ _ _
        | with_reducible exact Fit.bad (fun v=>bad_share _ _ _ _ _ _ v)
        | with_reducible exact Fit.pureM _
        | with_reducible exact fit_stuck _
        | with_reducible exact fit_runtimePanic _
        | with_reducible exact fit_underlying _
        | with_reducible exact fit_sizeOf _
        | with_reducible exact fit_zeroValue _
        | with_reducible exact fit_typeInfo _
        | with_reducible exact fit_asInt _
        | with_reducible exact fit_newRow _ _
        | with_reducible exact fit_choose _
        | with_reducible exact fit_askRoom _
        | with_reducible exact fit_storeCells _ _ _
        | with_reducible assumption
        | with_reducible refine Fit.bindM ?_ (fun _=>?_)
        | split
        | simp only)
      split
      ·refine Fit.bindM kapp fun new=>?_
       cases base with
       | none=>exact Fit.pureM _
       | some a=>exact Fit.bindM (fit_storeCells _ _ _) fun _=>Fit.pureM _
      ·refine Fit.bindM (fit_typeInfo _) fun i=>?_
       have kend:∀ app:Sem (Array Value),Fit P F N app→Fit P F N (do
         let newCap ← choose (.appendCap (sl+n) sc elem)
         askRoom (newCap * (← typeInfo elem).bytes)
         let old ← Builtin.firstCells sz sl (Value.slice base sl sc)
         let new ← app
         let rest:=Builtin.zeroCells (← zeroValue elem).cells (newCap - (sl+n))
         pure (.slice (some (← newRow elem (old ++ new ++ rest))) (sl+n) newCap):Sem Value) :=
        fun app happ=>Fit.bindM (fit_choose _) fun _=>Fit.bindM (fit_typeInfo _) fun _=>Fit.bindM (fit_askRoom _) fun _=>Fit.bindM (fit_firstCells _ _ _) fun _=>Fit.bindM happ fun _=>Fit.bindM (fit_zeroValue _) fun _=>Fit.bindM (fit_newRow _ _) fun _=>Fit.pureM _
       have kbad:Fit P F N (if z=true then runtimePanic (RuntimeError.error "growslice: len out of range") else do
         if !(← Builtin.mayShare sz sl n base xv) then mark .noRoom
         unsupported (.resourceLimit "append: a slice or a string whose bytes no memory bears"):Sem Unit):=by
        split
        ·exact fit_runtimePanic _
        ·exact Fit.bad (fun v=>bad_share _ _ _ _ _ _ v)
       have kmid:∀ app:Sem (Array Value),Fit P F N app→Fit P F N (do
         if Builtin.nextslicecap (sl+n) sc * (← typeInfo elem).bytes > 2 ^ 48 then (if z=true then runtimePanic (RuntimeError.error "growslice: len out of range") else do
          if !(← Builtin.mayShare sz sl n base xv) then mark .noRoom
          unsupported (.resourceLimit "append: a slice or a string whose bytes no memory bears"))
         let newCap ← choose (.appendCap (sl+n) sc elem)
         askRoom (newCap * (← typeInfo elem).bytes)
         let old ← Builtin.firstCells sz sl (Value.slice base sl sc)
         let new ← app
         let rest:=Builtin.zeroCells (← zeroValue elem).cells (newCap - (sl+n))
         pure (.slice (some (← newRow elem (old ++ new ++ rest))) (sl+n) newCap):Sem Value):=by
        intro app happ
        refine Fit.bindM (fit_typeInfo _) fun i=>?_
        simp only
        split
        ·exact Fit.bindM kbad fun _=>kend app happ
        ·exact kend app happ
       split
       ·exact Fit.bindM (fit_runtimePanic _) fun _=>kmid _ kapp
       ·exact kmid _ kapp
     clear_value jq
     repeat' (first
      | with_reducible exact fit_lenOf _
      | with_reducible exact fit_firstCells _ _ _
      | with_reducible exact Fit.bad (fun v=>bad_share _ _ _ _ _ _ v)
      | with_reducible exact Fit.pureM _
      | with_reducible exact fit_stuck _
      | with_reducible exact fit_runtimePanic _
      | with_reducible exact fit_underlying _
      | with_reducible exact fit_sizeOf _
      | with_reducible exact fit_zeroValue _
      | with_reducible exact fit_typeInfo _
      | with_reducible exact fit_asInt _
      | with_reducible exact fit_newRow _ _
      | with_reducible exact fit_choose _
      | with_reducible exact fit_askRoom _
      | with_reducible exact fit_storeCells _ _ _
      | with_reducible assumption
      | with_reducible refine Fit.bindM ?_ (fun _=>?_)
      | split
      | simp only)
     all_goals first|exact hq _|skip
    clear_value jp
    split
    ·exact Fit.bindM (fit_underlying _) fun _=>Fit.bindM (Fit.pureM _) fun _=>hj _
    ·exact Fit.bindM (Fit.pureM _) fun _=>hj _
   | _=>exact fit_stuck _
  ·exact fit_stuck _
 ·exact fit_stuck _
theorem fit_len (ts:Array TypeId) (t:TypeId) (args:Array Value):Fit P F N (Builtin.len_ ts t args):=by
 unfold Builtin.len_
 split
 ·refine Fit.bindM (fit_underlying _) fun u=>?_
  split
  all_goals first
   | with_reducible exact Fit.pureM _
   | with_reducible exact fit_stuck _
   | skip
  ·repeat' (first
    | with_reducible exact Fit.pureM _
    | with_reducible exact fit_stuck _
    | with_reducible exact fit_underlying _
    | with_reducible assumption
    | with_reducible refine Fit.bindM ?_ (fun _=>?_)
    | split
    | simp only)
  ·refine fit_getObj (fun v=>by simp [stuck,Sem.run,Res.bad]) fun o hO=>?_
   repeat' (first
    | with_reducible exact Fit.pureM _
    | with_reducible exact fit_stuck _
    | with_reducible exact fit_underlying _
    | with_reducible assumption
    | with_reducible refine Fit.bindM ?_ (fun _=>?_)
    | split
    | simp only)
  ·refine fit_getObj (fun v=>by simp [stuck,Sem.run,Res.bad]) fun o hO=>?_
   repeat' (first
    | with_reducible exact Fit.pureM _
    | with_reducible exact fit_stuck _
    | with_reducible exact fit_underlying _
    | with_reducible assumption
    | with_reducible refine Fit.bindM ?_ (fun _=>?_)
    | split
    | simp only)
 ·exact fit_stuck _
theorem fit_cap (ts:Array TypeId) (t:TypeId) (args:Array Value):Fit P F N (Builtin.cap_ ts t args):=by
 unfold Builtin.cap_
 split
 ·refine Fit.bindM (fit_underlying _) fun u=>?_
  split
  all_goals first
   | with_reducible exact Fit.pureM _
   | with_reducible exact fit_stuck _
   | skip
  ·repeat' (first
    | with_reducible exact Fit.pureM _
    | with_reducible exact fit_stuck _
    | with_reducible exact fit_underlying _
    | with_reducible assumption
    | with_reducible refine Fit.bindM ?_ (fun _=>?_)
    | split
    | simp only)
  ·refine fit_getObj (fun v=>by simp [stuck,Sem.run,Res.bad]) fun o hO=>?_
   repeat' (first
    | with_reducible exact Fit.pureM _
    | with_reducible exact fit_stuck _
    | with_reducible exact fit_underlying _
    | with_reducible assumption
    | with_reducible refine Fit.bindM ?_ (fun _=>?_)
    | split
    | simp only)
 ·exact fit_stuck _
theorem fit_max2 (x y:Value):Fit P F N (Builtin.max2 x y):=by
 unfold Builtin.max2
 have:=fun o a b=>fit_stringOp (P:=P) (F:=F) (N:=N) o a b
 split
 all_goals first
  | with_reducible exact Fit.pureM _
  | with_reducible exact fit_stuck _
  | ((with_reducible refine fit_unsupported _ ?_);exact trivial)
  | skip
 ·repeat' (first
   | with_reducible exact Fit.pureM _
   | with_reducible exact fit_stuck _
   | ((with_reducible refine fit_unsupported _ ?_);exact trivial)
   | with_reducible exact fit_asBool _
   | with_reducible exact fit_choose _
   | with_reducible assumption
   | with_reducible refine Fit.bindM ?_ (fun _=>?_)
   | split
   | simp only)
 ·exact Fit.bindM (this _ _ _) fun _=>Fit.bindM (fit_asBool _) fun _=>Fit.pureM _
theorem fit_min2 (x y:Value):Fit P F N (Builtin.min2 x y):=by
 unfold Builtin.min2
 have:=fun o a b=>fit_stringOp (P:=P) (F:=F) (N:=N) o a b
 split
 all_goals first
  | with_reducible exact Fit.pureM _
  | with_reducible exact fit_stuck _
  | ((with_reducible refine fit_unsupported _ ?_);exact trivial)
  | skip
 ·repeat' (first
   | with_reducible exact Fit.pureM _
   | with_reducible exact fit_stuck _
   | ((with_reducible refine fit_unsupported _ ?_);exact trivial)
   | with_reducible exact fit_asBool _
   | with_reducible exact fit_choose _
   | with_reducible assumption
   | with_reducible refine Fit.bindM ?_ (fun _=>?_)
   | split
   | simp only)
 ·exact Fit.bindM (this _ _ _) fun _=>Fit.bindM (fit_asBool _) fun _=>Fit.pureM _
theorem fit_max (ts:Array TypeId) (t:TypeId) (args:Array Value):Fit P F N (Builtin.max_ ts t args):=by
 unfold Builtin.max_
 split
 ·exact fit_stuck _
 ·exact fit_foldlM (fun a b=>fit_max2 a b) _ _
theorem fit_min (ts:Array TypeId) (t:TypeId) (args:Array Value):Fit P F N (Builtin.min_ ts t args):=by
 unfold Builtin.min_
 split
 ·exact fit_stuck _
 ·exact fit_foldlM (fun a b=>fit_min2 a b) _ _
theorem fit_close (ts:Array TypeId) (t:TypeId) (args:Array Value):Fit P F N (Builtin.close_ ts t args):=by
 unfold Builtin.close_
 rcases args with ⟨_|⟨a,_|⟨c,l⟩⟩⟩
 ·exact fit_stuck _
 rotate_left
 ·exact fit_stuck _
 cases a with
 | chan r =>
  cases r with
  | none=>exact fit_runtimePanic _
  | some r =>
   refine fit_getObj (fun v=>by simp [stuck,Sem.run,Res.bad]) fun o hO=>?_
   split
   ·simp only
    split
    ·exact Fit.bindM (fit_runtimePanic _) fun _=>Fit.bindM (fit_setObj (.inl rfl)) fun _=>Fit.pureM _
    ·exact Fit.bindM (fit_setObj (.inl rfl)) fun _=>Fit.pureM _
   ·exact fit_stuck _
 | _=>exact fit_stuck _
theorem fit_getLoop (l:Nat) {k:Loop→Sem α} (hk:∀ r,okObj P F (.loop r)→Fit P F (fun i=>i=l∨N i) (k r)):Fit P F N (Instr.getLoop l >>= k):=by
 unfold Instr.getLoop
 rw [bind_assoc]
 refine fit_getObj (fun v=>by simp [stuck,Sem.run,Res.bad]) fun o hO=>?_
 split
 ·rw [pure_bind]
  exact hk _ hO
 ·exact Fit.bad fun v=>trivial
theorem fit_enterLoop (f:FuncId) (ts:Array Value) (ps:Array Tmp) (a b:Code) (o:Option Nat) (hab:okCode P true a=true∧okCode P true b=true∧F[f]?=P.funcs[f]?):Fit P F N (Instr.enterLoop f ts ps a b o):=by
 unfold Instr.enterLoop
 cases o with
 | none=>exact Fit.bindM (fit_newObj _ (fun _ h=>by cases h)) fun _=>Fit.bindM (Fit.pureM _) fun _=>Fit.bindM (fit_newObj _ ⟨hab.1,hab.2.1,hab.2.2,fun _ h=>by cases h⟩) fun _=>Fit.pureM _
 | some l=>exact fit_getLoop l fun r hr=>Fit.bindM (Fit.pureM _) fun _=>Fit.bindM (fit_newObj _ ⟨hab.1,hab.2.1,hab.2.2,fun _ h=>by cases h⟩) fun _=>Fit.pureM _
theorem fit_yield (l:Nat) (args:Array Value):Fit P F N (Instr.yield l args):=by
 refine fit_getLoop l fun r hr=>?_
 simp only
 split
 ·exact Fit.bindM (fit_stuck _) fun _=>Fit.pureM _
 ·exact Fit.pureM _
theorem fit_beginRound (l:Nat):Fit P F N (Instr.beginRound l):=by
 refine fit_getLoop l fun r hr=>Fit.bindM (fit_setObj (.inl rfl) hr) fun _=>?_
 split
 ·exact Fit.pureM _
 ·exact fit_runtimePanic _
 ·exact fit_runtimePanic _
 ·exact fit_runtimePanic _
theorem fit_endRound (l:Nat) (j:Option Code) (hj:∀ c,j=some c→okJump c=true):Fit P F N (Instr.endRound l j):=fit_getLoop l fun _ hr=>Fit.bindM (fit_setObj (.inl rfl) ⟨hr.1,hr.2.1,hr.2.2.1,hj⟩) fun _=>Fit.pureM _
theorem fit_endLoop (l:Nat):Fit P F N (Instr.endLoop l):=by
 refine fit_getLoop l fun r hr=>?_
 simp only
 split
 ·exact Fit.bindM (fit_runtimePanic _) fun _=>Fit.bindM (fit_setObj (.inl rfl) hr) fun _=>Fit.pureM _
 ·exact Fit.bindM (fit_setObj (.inl rfl) hr) fun _=>Fit.pureM _
theorem fit_takeDeferred (b:Nat):Fit P F N (Instr.takeDeferred b):=by
 unfold Instr.takeDeferred
 refine fit_getObj (fun v=>by simp [stuck,Sem.run,Res.bad]) fun o hO=>?_
 split
 ·exact Fit.bindM (fit_setObj (.inl rfl)) fun _=>Fit.pureM _
 ·exact fit_stuck _
theorem fit_placeGet (t:TypeId) (p:Place):Fit P F N (p.get t):=by
 cases p with
 | val v=>exact Fit.pureM _
 | var a=>exact fit_loadVar _ _
theorem fit_follow:∀ (l:List FieldStep) (t:TypeId) (p:Place),Fit P F N (follow l t p)
 | [],_,_=>Fit.pureM _
 |s :: rest,t,x=>by
  unfold follow
  refine Fit.bindM (fit_underlying _) fun u=>?_
  split
  ·split
   ·split
    ·exact Fit.bindM (fit_placeGet _ _) fun _=>Fit.bindM (fit_asAddr _) fun _=>Fit.bindM (fit_fieldPlace _ _) fun _=>fit_follow rest _ _
    ·split
     ·exact Fit.bindM (fit_fieldPlace _ _) fun _=>fit_follow rest _ _
     ·exact Fit.bindM (fit_part _ _ _) fun _=>fit_follow rest _ _
     ·exact fit_stuck _
   ·exact fit_stuck _
  ·exact fit_stuck _
theorem fit_ssaWrap (ts:Array TypeId) (t:TypeId) (args:Array Value):Fit P F N (Builtin.ssaWrapNilChk_ ts t args):=by
 unfold Builtin.ssaWrapNilChk_
 rcases args with ⟨_|⟨a,_|⟨b,_|⟨c,_|⟨d,l⟩⟩⟩⟩⟩
 ·exact fit_stuck _
 ·exact fit_stuck _
 ·exact fit_stuck _
 rotate_left
 ·exact fit_stuck _
 cases b <;> cases c <;> first|exact fit_stuck _|skip
 cases a <;> first|exact fit_stuck _|skip
 rename_i p
 cases p
 ·refine Fit.bindM (fit_choose _) fun z=>?_
  have key:∀ (o:Option TypeId) (m:ByteArray),Fit P F N (do
    let some pt:=o|stuck "ssa:wrapnilchk: no argument types"
    let .pointer t ← underlying pt|stuck "ssa:wrapnilchk: pointer type expected"
    let .named name _:=(← typeInfo t).desc|stuck "ssa:wrapnilchk: defined type expected"
    let some m:=String.fromUTF8? m|stuck "ssa:wrapnilchk: the method's name is not UTF-8"
    let base:=(name.splitOn "[").headD ""
    let targs:=if base == name then "" else "[...]"
    match ((base.splitOn "/").getLastD "").splitOn "." with
    | [_,typ] =>
     runtimePanic (.plain (toString "value method " ++ toString base ++ toString targs ++ toString "." ++ toString m ++ toString " called using nil *" ++ toString typ ++ toString targs ++ toString " pointer"))
    | _=>unsupported (.noEntry "builtin/ssaWrapNilChk.dot in the package path"):Sem Value):=by
   intro o m
   cases o with
   | none=>exact fit_stuck _
   | some pt =>
    refine Fit.bindM (fit_underlying _) fun u=>?_
    split
    ·refine Fit.bindM (fit_typeInfo _) fun i=>?_
     split
     ·split
      ·simp only
       split
       ·exact fit_runtimePanic _
       ·exact fit_unsupported _
      ·exact fit_stuck _
     ·exact fit_stuck _
    ·exact fit_stuck _
  extract_lets jp
  split
  ·exact Fit.bindM (fit_runtimePanic _) fun _=>key _ _
  ·exact key _ _
 ·exact Fit.pureM _
theorem fit_receiverAt (t:TypeId) (p:Place) (b:Bool) (n:Option String):Fit P F N (receiverAt t p b n):=by
 unfold receiverAt
 refine Fit.bindM (fit_underlying _) fun u=>?_
 split
 ·exact fit_placeGet _ _
 ·refine Fit.bindM (fit_placeGet _ _) fun q=>?_
  cases n with
  | none=>exact Fit.bindM (Fit.pureM _) fun _=>Fit.bindM (fit_asAddr _) fun _=>fit_loadVar _ _
  | some n=>exact Fit.bindM (fit_ssaWrap _ _ _) fun _=>Fit.bindM (fit_asAddr _) fun _=>fit_loadVar _ _
 ·exact Fit.pureM _
 ·exact fit_stuck _
 ·exact fit_placeGet _ _
theorem fit_receiverVia (t:TypeId) (v:Value) (p:Array FieldStep) (b:Bool):Fit P F N (receiverVia t v p b):=Fit.bindM (fit_follow _ _ _) fun _=>fit_receiverAt _ _ _ _
theorem fit_method:∀ (n:Nat) (t:TypeId) (v:Value) (name:String),Fit P F N (method n t v name)
 | 0,_,_,_=>fit_unsupported _
 |n+1,t,v,name=>by
  unfold method
  refine Fit.bindM (fit_typeInfo _) fun i=>?_
  split
  ·refine Fit.bindM (fit_follow _ _ _) fun q=>?_
   simp only
   split
   ·refine Fit.bindM (fit_placeGet _ _) fun x=>?_
    split
    ·exact fit_method n _ _ _
    ·exact fit_runtimePanic _
    ·exact fit_stuck _
   ·exact Fit.bindM (fit_receiverAt _ _ _ _) fun _=>Fit.pureM _
  ·exact fit_stuck _
end
end Go.Proofs.YtpcjdalgebgofaaGreatDoor

/-
  Lemmas and contracts: Rt Ud. No condition.
-/
import Derived.Test.YtpcjdalgebgofaaGreatDoorChecked
import Derived.Conc.FxGenDone
import Derived.Conc.FxGenWait
import Derived.Conc.FxGenLone
import Derived.Conc.BesideWords
set_option linter.unusedSimpArgs false
set_option linter.unusedVariables false
set_option linter.unusedSectionVars false
namespace Go.Proofs.YtpcjdalgebgofaaGreatDoor
open Go
def seqFn:Func:={ (default:Func) with name := "y", params:=#[31,31],resultTypes:=#[81],ntmps:=25,results:=#[ResultVar.tmp 4],body:=some (
 (Code.region 101 #[{ dst:=some 25,op:=Op.move (.const (.bool true)),type:=4,pos := "", after:=#[],guard:=none },{ dst:=none,op:=Op.extract (.const (.bool true)) 0,type:=0,pos := "", after:=#[],guard:=some (0,true) }] false).seq
 ((Code.region 102 #[{ dst:=some 5,op:=Op.call { callee:=Callee.builtin Builtin.len,args:=#[(.tmp 0)],argTypes:=#[31] },type:=3,pos := "", after:=#[],guard:=none }] false).seq
 ((Code.region 103 #[{ dst:=some 6,op:=Op.call { callee:=Callee.builtin Builtin.len,args:=#[(.tmp 1)],argTypes:=#[31] },type:=3,pos := "", after:=#[],guard:=none }] false).seq
 ((Code.region 104 #[{ dst:=some 7,op:=Op.call { callee:=Callee.builtin Builtin.max,args:=#[(.tmp 5),(.tmp 6)],argTypes:=#[3,3] },type:=3,pos := "", after:=#[],guard:=none }] false).seq
 ((Code.region 105 #[{ dst:=some 8,op:=Op.binOp BinOp.gtr 3 (.tmp 7) (.const (.int .i64 64)) 3,type:=4,pos := "", after:=#[],guard:=none }] false).seq
 ((Code.cond (.tmp 8) (Code.region 106 #[{ dst:=none,op:=Op.extract (.const (.bool true)) 0,type:=0,pos := "", after:=#[],guard:=none }] false) (Code.skip)).seq
 ((Code.region 107 #[{ dst:=some 3,op:=Op.call { callee:=Callee.builtin Builtin.min,args:=#[(.tmp 5),(.tmp 6)],argTypes:=#[3,3] },type:=3,pos := "", after:=#[],guard:=none }] false).seq
 ((Code.region 108 #[{ dst:=some 9,op:=Op.assign (.const (.int .i64 0)),type:=3,pos := "", after:=#[],guard:=none }] false).seq
 ((Code.block 0 (Code.loop ((Code.region 109 #[{ dst:=some 10,op:=Op.binOp BinOp.lss 3 (.tmp 9) (.tmp 3) 3,type:=4,pos := "", after:=#[],guard:=none }] false).seq
 ((Code.cond (.tmp 10) (Code.skip) (Code.exit 0)).seq
 ((Code.region 110 #[{ dst:=some 2,op:=Op.binOp BinOp.eql 31 (.tmp 0) (.const (.slice none 0 0)) 31,type:=4,pos := "", after:=#[],guard:=none }] false).seq
 ((Code.cond (.tmp 2) (Code.region 111 #[{ dst:=none,op:=Op.extract (.const (.bool true)) 0,type:=0,pos := "", after:=#[],guard:=none }] false) (Code.skip)).seq
 ((Code.region 112 #[{ dst:=some 11,op:=Op.indexAddr 31 (.tmp 0) (.tmp 9),type:=0,pos := "", after:=#[],guard:=none }] false).seq
 ((Code.region 113 #[{ dst:=some 12,op:=Op.call { callee:=Callee.builtin Builtin.unsafeAdd,args:=#[(.tmp 11),(.const (.int .i64 0))],argTypes:=#[0,3] },type:=0,pos := "", after:=#[],guard:=none }] false).seq
 ((Code.region 114 #[{ dst:=some 13,op:=Op.load 3 (.tmp 11),type:=3,pos := "", after:=#[],guard:=none }] false).seq
 ((Code.region 115 #[{ dst:=some 14,op:=Op.binOp BinOp.mul 3 (.tmp 13) (.const (.int .i64 1)) 3,type:=3,pos := "", after:=#[],guard:=none }] false).seq
 ((Code.region 116 #[{ dst:=some 2,op:=Op.binOp BinOp.eql 31 (.tmp 1) (.const (.slice none 0 0)) 31,type:=4,pos := "", after:=#[],guard:=none }] false).seq
 ((Code.cond (.tmp 2) (Code.region 117 #[{ dst:=none,op:=Op.extract (.const (.bool true)) 0,type:=0,pos := "", after:=#[],guard:=none }] false) (Code.skip)).seq
 ((Code.region 118 #[{ dst:=some 15,op:=Op.indexAddr 31 (.tmp 1) (.tmp 9),type:=0,pos := "", after:=#[],guard:=none }] false).seq
 ((Code.region 119 #[{ dst:=some 16,op:=Op.call { callee:=Callee.builtin Builtin.unsafeAdd,args:=#[(.tmp 15),(.const (.int .i64 0))],argTypes:=#[0,3] },type:=0,pos := "", after:=#[],guard:=none }] false).seq
 ((Code.region 120 #[{ dst:=some 17,op:=Op.load 3 (.tmp 15),type:=3,pos := "", after:=#[],guard:=none }] false).seq
 ((Code.region 121 #[{ dst:=some 18,op:=Op.binOp BinOp.mul 3 (.tmp 17) (.const (.int .i64 1)) 3,type:=3,pos := "", after:=#[],guard:=none }] false).seq
 (Code.region 122 #[{ dst:=some 9,op:=Op.binOp BinOp.add 3 (.tmp 9) (.const (.int .i64 1)) 3,type:=3,pos := "", after:=#[],guard:=none }] false))))))))))))))))).seq
 ((Code.region 123 #[{ dst:=some 19,op:=Op.box 31 (.tmp 0),type:=0,pos := "", after:=#[],guard:=none }] false).seq
 ((Code.region 124 #[{ dst:=some 20,op:=Op.box 31 (.tmp 1),type:=0,pos := "", after:=#[],guard:=none }] false).seq
 ((Code.region 125 #[{ dst:=some 21,op:=Op.makeSlice 81 (.tmp 7) (.tmp 7),type:=81,pos := "", after:=#[],guard:=none }] false).seq
 ((Code.region 126 #[{ dst:=some 22,op:=Op.box 81 (.tmp 21),type:=0,pos := "", after:=#[],guard:=none }] false).seq
 ((Code.region 127 #[{ dst:=some 23,op:=Op.range 9 (.const (.string ByteArray.empty)),type:=0,pos := "", after:=#[],guard:=none }] false).seq
 ((Code.region 128 #[{ dst:=some 24,op:=Op.box 3 (.const (.int .i64 0)),type:=0,pos := "", after:=#[],guard:=none }] false).seq
 ((Code.region 129 #[{ dst:=some 8,op:=Op.binOp BinOp.gtr 3 (.tmp 7) (.const (.int .i64 0)) 3,type:=4,pos := "", after:=#[],guard:=none }] false).seq
 ((Code.cond (.tmp 8) (Code.region 130 #[{ dst:=some 24,op:=Op.box 3 (.const (.int .i64 64)),type:=0,pos := "", after:=#[],guard:=none }] false) (Code.skip)).seq
 ((Code.region 131 #[{ dst:=some 9,op:=Op.assign (.const (.int .i64 0)),type:=3,pos := "", after:=#[],guard:=none }] false).seq
 ((Code.block 1 (Code.loop ((Code.region 132 #[{ dst:=some 10,op:=Op.binOp BinOp.lss 3 (.tmp 9) (.tmp 7) 3,type:=4,pos := "", after:=#[],guard:=none }] false).seq
 ((Code.cond (.tmp 10) (Code.skip) (Code.exit 1)).seq
 ((Code.region 133 #[{ dst:=some 8,op:=Op.binOp BinOp.geq 3 (.tmp 9) (.tmp 5) 3,type:=4,pos := "", after:=#[],guard:=none }] false).seq
 ((Code.cond (.tmp 8) (Code.skip) ((Code.region 134 #[{ dst:=some 8,op:=Op.binOp BinOp.geq 3 (.tmp 9) (.tmp 6) 3,type:=4,pos := "", after:=#[],guard:=none }] false).seq
 (Code.cond (.tmp 8) (Code.skip) ((Code.region 135 #[{ dst:=some 11,op:=Op.indexAddr 31 (.tmp 0) (.tmp 9),type:=0,pos := "", after:=#[],guard:=none }] false).seq
 ((Code.region 136 #[{ dst:=some 13,op:=Op.load 3 (.tmp 11),type:=3,pos := "", after:=#[],guard:=none }] false).seq
 ((Code.region 137 #[{ dst:=some 15,op:=Op.indexAddr 31 (.tmp 1) (.tmp 9),type:=0,pos := "", after:=#[],guard:=none }] false).seq
 ((Code.region 138 #[{ dst:=some 17,op:=Op.load 3 (.tmp 15),type:=3,pos := "", after:=#[],guard:=none }] false).seq
 (Code.region 139 #[{ dst:=some 8,op:=Op.binOp BinOp.neq 3 (.tmp 13) (.tmp 17) 3,type:=4,pos := "", after:=#[],guard:=none }] false)))))))).seq
 ((Code.region 140 #[{ dst:=some 10,op:=Op.indexAddr 81 (.tmp 21) (.tmp 9),type:=0,pos := "", after:=#[],guard:=none }] false).seq
 ((Code.region 141 #[{ dst:=none,op:=Op.store 4 (.tmp 10) (.tmp 8),type:=0,pos := "", after:=#[],guard:=none }] false).seq
 (Code.region 142 #[{ dst:=some 9,op:=Op.binOp BinOp.add 3 (.tmp 9) (.const (.int .i64 1)) 3,type:=3,pos := "", after:=#[],guard:=none }] false))))))))).seq
 ((Code.region 143 #[{ dst:=some 4,op:=Op.assign (.tmp 21),type:=81,pos := "", after:=#[],guard:=none }] false).seq
 (Code.ret))))))))))))))))))))) }
end Go.Proofs.YtpcjdalgebgofaaGreatDoor
namespace Go.Proofs.YtpcjdalgebgofaaGreatDoor
abbrev wgL:Go.Conc.Lib.WgLink:={ add:=94,done:=96,wait:=97,relMerge:=120,disable:=121,enable:=122,inBubble:=123,associate:=124,fatal:=125,uOr:=126,uAdd:=127,raceRead:=128,uLoad:=129,uStore:=130,disassociate:=131,semrelease:=132,acquire:=133,isAssociated:=134,uCas:=135,raceWrite:=136,semacquire:=137,orU64:=144,addU64:=145,loadU64:=146,storeU64:=147,casU64:=148,tWgP:=174,tUP:=176,tAssoc:=177,tWg:=138,tAU:=135,tU64:=133,tUint:=181,tU32:=136,tPU32:=182,tPAU:=194,tPU64:=196,tNoCopy:=130,tANoCopy:=131,tAlign64:=132 }
theorem wgLib:Go.Conc.Lib.WgLib Tryz.prog wgL:=⟨Tryz.func94,Tryz.func96,Tryz.func97,Tryz.func120,Tryz.func121,Tryz.func122,Tryz.func123,Tryz.func124,Tryz.func125,Tryz.func126,Tryz.func127,Tryz.func128,Tryz.func129,Tryz.func130,Tryz.func131,Tryz.func132,Tryz.func133,Tryz.func134,Tryz.func135,Tryz.func136,Tryz.func137,Tryz.func144,Tryz.func145,Tryz.func146,Tryz.func147,Tryz.func148,Tryz.underlying174,Tryz.runUnderlying174,Tryz.sizeOf174,Tryz.isAgg174,Tryz.zeroValue174,Tryz.underlying176,Tryz.runUnderlying176,Tryz.sizeOf176,Tryz.isAgg176,Tryz.zeroValue176,Tryz.underlying177,Tryz.runUnderlying177,Tryz.sizeOf177,Tryz.isAgg177,Tryz.zeroValue177,Tryz.underlying138,Tryz.runUnderlying138,Tryz.sizeOf138,Tryz.isAgg138,Tryz.zeroValue138,Tryz.underlying135,Tryz.runUnderlying135,Tryz.sizeOf135,Tryz.isAgg135,Tryz.zeroValue135,Tryz.underlying133,Tryz.runUnderlying133,Tryz.sizeOf133,Tryz.isAgg133,Tryz.zeroValue133,Tryz.underlying181,Tryz.runUnderlying181,Tryz.sizeOf181,Tryz.isAgg181,Tryz.zeroValue181,Tryz.underlying136,Tryz.runUnderlying136,Tryz.sizeOf136,Tryz.isAgg136,Tryz.zeroValue136,Tryz.underlying182,Tryz.runUnderlying182,Tryz.sizeOf182,Tryz.isAgg182,Tryz.zeroValue182,Tryz.underlying194,Tryz.runUnderlying194,Tryz.sizeOf194,Tryz.isAgg194,Tryz.zeroValue194,Tryz.underlying196,Tryz.runUnderlying196,Tryz.sizeOf196,Tryz.isAgg196,Tryz.zeroValue196,Tryz.underlying0,Tryz.runUnderlying0,Tryz.sizeOf0,Tryz.isAgg0,Tryz.zeroValue0,Tryz.underlying3,Tryz.runUnderlying3,Tryz.sizeOf3,Tryz.isAgg3,Tryz.zeroValue3,Tryz.underlying4,Tryz.runUnderlying4,Tryz.sizeOf4,Tryz.isAgg4,Tryz.zeroValue4,Tryz.underlying9,Tryz.runUnderlying9,Tryz.sizeOf9,Tryz.isAgg9,Tryz.zeroValue9,Tryz.underlying20,Tryz.runUnderlying20,Tryz.sizeOf20,Tryz.isAgg20,Tryz.zeroValue20,Tryz.underlying21,Tryz.runUnderlying21,Tryz.sizeOf21,Tryz.isAgg21,Tryz.zeroValue21,(by kernel_rfl),(by kernel_rfl)⟩
end Go.Proofs.YtpcjdalgebgofaaGreatDoor

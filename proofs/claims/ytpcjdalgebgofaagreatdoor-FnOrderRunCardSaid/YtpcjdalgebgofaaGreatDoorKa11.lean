/-
  Lemmas and contracts: YRa YBase. No condition.
-/
import Derived.Test.YtpcjdalgebgofaaGreatDoorChecked
import Derived.WalkKit
import Derived.WalkSpells
import Derived.WalkLawsBesides
import Derived.Lib.Hide
import Derived.Lib.QuietBelow
import Derived.BigQuiet
import Derived.Handy
import Derived.Test.YtpcjdalgebgofaaGreatDoorKa5
import Derived.Test.YtpcjdalgebgofaaGreatDoorKa6
set_option linter.unusedSimpArgs false
set_option linter.unusedVariables false
set_option linter.unusedSectionVars false
namespace Go.Proofs
open Go.Proofs.YtpcjdalgebgofaaGreatDoor
def Qy.keepL:List Nat:=[2,3,4,5,6,7,8,9,10,11,12,13,14,15,16,17,18,19,20,21,22,23,24,25,26,27,28,29,30,31,32,33,34,35,36,37,38,39,40,41,42,43,44,45,46,47,48,49,50,51,52,53,55,56,57,58,59,60,61,62,63,64,65,66,67,68,69,70,71,72,73,74,75,76,77,78,79,80,81,82,83,84,85,86,87,88,89,90,91,92,93,95,96,98,99,100,101,102,103,104,105,106,107,108,109,110,111,112,113,114,115,116,117,118,119,126,127,129,130,135,138,139,140,141,142,143,149,150,151,152,153,154,155,156,157,158,159,160,161,162,163,164,165,166,167,186,198,210]
def Qy.keep (i:Nat):Bool:=Qy.keepL.contains i
noncomputable def Qy.funcs:Array Func:=mkF Tryz.prog 54 seqFn Qy.keep
noncomputable def Qy.prog:Program:=withF Tryz.prog Qy.funcs
section
variable (P:Program) (F:Array Func) (i:TypeId) (w:World)
theorem withF_runUnderlying:(Go.underlying i).run (withF P F) w=(Go.underlying i).run P w:=by
 have h:(withF P F).underlying i=P.underlying i:=rfl
 simp only [Go.underlying,bind,Sem.bind,Sem.run,program,h]
 cases P.underlying i <;> simp only [pure,Sem.run,stuck]
theorem withF_underlying:Program.underlying (withF P F) i=Program.underlying P i:=rfl
theorem withF_sizeOf:(Go.sizeOf i).run (withF P F) w=(Go.sizeOf i).run P w:=by
 have h:(withF P F).info? i=P.info? i:=rfl
 simp only [Go.sizeOf,typeInfo,bind,Sem.bind,Sem.run,program,h]
 cases P.info? i <;> simp only [pure,Sem.run,stuck,Sem.bind]
theorem withF_isAgg:(Go.isAgg i).run (withF P F) w=(Go.isAgg i).run P w:=by
 have h:(withF P F).underlying i=P.underlying i:=rfl
 simp only [Go.isAgg,Go.underlying,bind,Sem.bind,Sem.run,program,h]
 cases h:P.underlying i with
 | none=>simp only [pure,Sem.run,stuck,Sem.bind]
 | some d=>cases d <;> simp only [pure,Sem.run,stuck,Sem.bind]
theorem withF_zeroValue:(Go.zeroValue i).run (withF P F) w=(Go.zeroValue i).run P w:=by
 have h:(withF P F).info? i=P.info? i:=rfl
 simp only [Go.zeroValue,typeInfo,bind,Sem.bind,Sem.run,program,h]
 cases h:P.info? i with
 | none=>simp only [pure,Sem.run,stuck,Sem.bind]
 | some d =>
  simp only [pure,Sem.run,stuck,Sem.bind]
  cases d.zero <;> simp only [pure,Sem.run,unsupported,stuck,Sem.bind]
theorem withF_funcs:(withF P F).funcs=F:=rfl
theorem withF_tables:(withF P F).toTables=P.toTables:=rfl
end
@[simp] theorem Qy.tables:Qy.prog.toTables=Tryz.prog.toTables:=withF_tables _ _
@[simp] theorem Qy.sizeOf (i:TypeId) (w:World):(Go.sizeOf i).run Qy.prog w=(Go.sizeOf i).run Tryz.prog w:=withF_sizeOf _ _ i w
@[simp] theorem Qy.underlying (i:TypeId):Program.underlying Qy.prog i=Program.underlying Tryz.prog i:=withF_underlying _ _ i
@[simp] theorem Qy.runUnderlying (i:TypeId) (w:World):(Go.underlying i).run Qy.prog w=(Go.underlying i).run Tryz.prog w:=withF_runUnderlying _ _ i w
@[simp] theorem Qy.isAgg (i:TypeId) (w:World):(Go.isAgg i).run Qy.prog w=(Go.isAgg i).run Tryz.prog w:=withF_isAgg _ _ i w
@[simp] theorem Qy.zeroValue (i:TypeId) (w:World):(Go.zeroValue i).run Qy.prog w=(Go.zeroValue i).run Tryz.prog w:=withF_zeroValue _ _ i w
theorem Qy.un {i:TypeId} {d:Option TypeDesc} (h:Program.underlying Tryz.prog i=d):Program.underlying Qy.prog i=d:=(Qy.underlying i).trans h
theorem Qy.kept {i:Nat} (h:i≠54) (hk:Qy.keep i=true):Qy.prog.funcs[i]?=Tryz.prog.funcs[i]?:=by
 unfold Qy.prog
 rw [withF_funcs]
 unfold Qy.funcs
 exact mkF_keep h hk
theorem Qy.func3:Qy.prog.funcs[3]?=some Tryz.f3:=(Qy.kept (by decide) (by kernel_rfl)).trans Tryz.func3
theorem Qy.func4:Qy.prog.funcs[4]?=some Tryz.f4:=(Qy.kept (by decide) (by kernel_rfl)).trans Tryz.func4
theorem Qy.func5:Qy.prog.funcs[5]?=some Tryz.f5:=(Qy.kept (by decide) (by kernel_rfl)).trans Tryz.func5
theorem Qy.func6:Qy.prog.funcs[6]?=some Tryz.f6:=(Qy.kept (by decide) (by kernel_rfl)).trans Tryz.func6
theorem Qy.func7:Qy.prog.funcs[7]?=some Tryz.f7:=(Qy.kept (by decide) (by kernel_rfl)).trans Tryz.func7
theorem Qy.func8:Qy.prog.funcs[8]?=some Tryz.f8:=(Qy.kept (by decide) (by kernel_rfl)).trans Tryz.func8
theorem Qy.func9:Qy.prog.funcs[9]?=some Tryz.f9:=(Qy.kept (by decide) (by kernel_rfl)).trans Tryz.func9
@[simp] theorem Qy.call9 (args:Array Value) (w:World):(callFunc 9 args).run Qy.prog w=.ok (.enter 9 args) w:=call_body Qy.func9 (by kernel_rfl) (by kernel_rfl) args w
theorem Qy.func10:Qy.prog.funcs[10]?=some Tryz.f10:=(Qy.kept (by decide) (by kernel_rfl)).trans Tryz.func10
@[simp] theorem Qy.call10 (args:Array Value) (w:World):(callFunc 10 args).run Qy.prog w=.ok (.enter 10 args) w:=call_body Qy.func10 (by kernel_rfl) (by kernel_rfl) args w
theorem Qy.func11:Qy.prog.funcs[11]?=some Tryz.f11:=(Qy.kept (by decide) (by kernel_rfl)).trans Tryz.func11
@[simp] theorem Qy.call11 (args:Array Value) (w:World):(callFunc 11 args).run Qy.prog w=.ok (.enter 11 args) w:=call_body Qy.func11 (by kernel_rfl) (by kernel_rfl) args w
theorem Qy.func12:Qy.prog.funcs[12]?=some Tryz.f12:=(Qy.kept (by decide) (by kernel_rfl)).trans Tryz.func12
@[simp] theorem Qy.call12 (args:Array Value) (w:World):(callFunc 12 args).run Qy.prog w=.ok (.enter 12 args) w:=call_body Qy.func12 (by kernel_rfl) (by kernel_rfl) args w
theorem Qy.func13:Qy.prog.funcs[13]?=some Tryz.f13:=(Qy.kept (by decide) (by kernel_rfl)).trans Tryz.func13
@[simp] theorem Qy.call13 (args:Array Value) (w:World):(callFunc 13 args).run Qy.prog w=.ok (.enter 13 args) w:=call_body Qy.func13 (by kernel_rfl) (by kernel_rfl) args w
theorem Qy.func14:Qy.prog.funcs[14]?=some Tryz.f14:=(Qy.kept (by decide) (by kernel_rfl)).trans Tryz.func14
@[simp] theorem Qy.call14 (args:Array Value) (w:World):(callFunc 14 args).run Qy.prog w=.ok (.enter 14 args) w:=call_body Qy.func14 (by kernel_rfl) (by kernel_rfl) args w
theorem Qy.func15:Qy.prog.funcs[15]?=some Tryz.f15:=(Qy.kept (by decide) (by kernel_rfl)).trans Tryz.func15
@[simp] theorem Qy.call15 (args:Array Value) (w:World):(callFunc 15 args).run Qy.prog w=.ok (.enter 15 args) w:=call_body Qy.func15 (by kernel_rfl) (by kernel_rfl) args w
theorem Qy.func16:Qy.prog.funcs[16]?=some Tryz.f16:=(Qy.kept (by decide) (by kernel_rfl)).trans Tryz.func16
@[simp] theorem Qy.call16 (args:Array Value) (w:World):(callFunc 16 args).run Qy.prog w=.ok (.enter 16 args) w:=call_body Qy.func16 (by kernel_rfl) (by kernel_rfl) args w
theorem Qy.func17:Qy.prog.funcs[17]?=some Tryz.f17:=(Qy.kept (by decide) (by kernel_rfl)).trans Tryz.func17
@[simp] theorem Qy.call17 (args:Array Value) (w:World):(callFunc 17 args).run Qy.prog w=.ok (.enter 17 args) w:=call_body Qy.func17 (by kernel_rfl) (by kernel_rfl) args w
theorem Qy.func18:Qy.prog.funcs[18]?=some Tryz.f18:=(Qy.kept (by decide) (by kernel_rfl)).trans Tryz.func18
@[simp] theorem Qy.call18 (args:Array Value) (w:World):(callFunc 18 args).run Qy.prog w=.ok (.enter 18 args) w:=call_body Qy.func18 (by kernel_rfl) (by kernel_rfl) args w
theorem Qy.func19:Qy.prog.funcs[19]?=some Tryz.f19:=(Qy.kept (by decide) (by kernel_rfl)).trans Tryz.func19
@[simp] theorem Qy.call19 (args:Array Value) (w:World):(callFunc 19 args).run Qy.prog w=.ok (.enter 19 args) w:=call_body Qy.func19 (by kernel_rfl) (by kernel_rfl) args w
theorem Qy.func20:Qy.prog.funcs[20]?=some Tryz.f20:=(Qy.kept (by decide) (by kernel_rfl)).trans Tryz.func20
@[simp] theorem Qy.call20 (args:Array Value) (w:World):(callFunc 20 args).run Qy.prog w=.ok (.enter 20 args) w:=call_body Qy.func20 (by kernel_rfl) (by kernel_rfl) args w
theorem Qy.func21:Qy.prog.funcs[21]?=some Tryz.f21:=(Qy.kept (by decide) (by kernel_rfl)).trans Tryz.func21
@[simp] theorem Qy.call21 (args:Array Value) (w:World):(callFunc 21 args).run Qy.prog w=.ok (.enter 21 args) w:=call_body Qy.func21 (by kernel_rfl) (by kernel_rfl) args w
theorem Qy.func22:Qy.prog.funcs[22]?=some Tryz.f22:=(Qy.kept (by decide) (by kernel_rfl)).trans Tryz.func22
@[simp] theorem Qy.call22 (args:Array Value) (w:World):(callFunc 22 args).run Qy.prog w=.ok (.enter 22 args) w:=call_body Qy.func22 (by kernel_rfl) (by kernel_rfl) args w
theorem Qy.func23:Qy.prog.funcs[23]?=some Tryz.f23:=(Qy.kept (by decide) (by kernel_rfl)).trans Tryz.func23
@[simp] theorem Qy.call23 (args:Array Value) (w:World):(callFunc 23 args).run Qy.prog w=.ok (.enter 23 args) w:=call_body Qy.func23 (by kernel_rfl) (by kernel_rfl) args w
theorem Qy.func24:Qy.prog.funcs[24]?=some Tryz.f24:=(Qy.kept (by decide) (by kernel_rfl)).trans Tryz.func24
@[simp] theorem Qy.call24 (args:Array Value) (w:World):(callFunc 24 args).run Qy.prog w=.ok (.enter 24 args) w:=call_body Qy.func24 (by kernel_rfl) (by kernel_rfl) args w
theorem Qy.func25:Qy.prog.funcs[25]?=some Tryz.f25:=(Qy.kept (by decide) (by kernel_rfl)).trans Tryz.func25
@[simp] theorem Qy.call25 (args:Array Value) (w:World):(callFunc 25 args).run Qy.prog w=.ok (.enter 25 args) w:=call_body Qy.func25 (by kernel_rfl) (by kernel_rfl) args w
theorem Qy.func26:Qy.prog.funcs[26]?=some Tryz.f26:=(Qy.kept (by decide) (by kernel_rfl)).trans Tryz.func26
@[simp] theorem Qy.call26 (args:Array Value) (w:World):(callFunc 26 args).run Qy.prog w=.ok (.enter 26 args) w:=call_body Qy.func26 (by kernel_rfl) (by kernel_rfl) args w
theorem Qy.func27:Qy.prog.funcs[27]?=some Tryz.f27:=(Qy.kept (by decide) (by kernel_rfl)).trans Tryz.func27
@[simp] theorem Qy.call27 (args:Array Value) (w:World):(callFunc 27 args).run Qy.prog w=.ok (.enter 27 args) w:=call_body Qy.func27 (by kernel_rfl) (by kernel_rfl) args w
theorem Qy.func28:Qy.prog.funcs[28]?=some Tryz.f28:=(Qy.kept (by decide) (by kernel_rfl)).trans Tryz.func28
@[simp] theorem Qy.call28 (args:Array Value) (w:World):(callFunc 28 args).run Qy.prog w=.ok (.enter 28 args) w:=call_body Qy.func28 (by kernel_rfl) (by kernel_rfl) args w
theorem Qy.func29:Qy.prog.funcs[29]?=some Tryz.f29:=(Qy.kept (by decide) (by kernel_rfl)).trans Tryz.func29
@[simp] theorem Qy.call29 (args:Array Value) (w:World):(callFunc 29 args).run Qy.prog w=.ok (.enter 29 args) w:=call_body Qy.func29 (by kernel_rfl) (by kernel_rfl) args w
theorem Qy.func30:Qy.prog.funcs[30]?=some Tryz.f30:=(Qy.kept (by decide) (by kernel_rfl)).trans Tryz.func30
@[simp] theorem Qy.call30 (args:Array Value) (w:World):(callFunc 30 args).run Qy.prog w=.ok (.enter 30 args) w:=call_body Qy.func30 (by kernel_rfl) (by kernel_rfl) args w
theorem Qy.func31:Qy.prog.funcs[31]?=some Tryz.f31:=(Qy.kept (by decide) (by kernel_rfl)).trans Tryz.func31
@[simp] theorem Qy.call31 (args:Array Value) (w:World):(callFunc 31 args).run Qy.prog w=.ok (.enter 31 args) w:=call_body Qy.func31 (by kernel_rfl) (by kernel_rfl) args w
theorem Qy.func32:Qy.prog.funcs[32]?=some Tryz.f32:=(Qy.kept (by decide) (by kernel_rfl)).trans Tryz.func32
@[simp] theorem Qy.call32 (args:Array Value) (w:World):(callFunc 32 args).run Qy.prog w=.ok (.enter 32 args) w:=call_body Qy.func32 (by kernel_rfl) (by kernel_rfl) args w
theorem Qy.func33:Qy.prog.funcs[33]?=some Tryz.f33:=(Qy.kept (by decide) (by kernel_rfl)).trans Tryz.func33
@[simp] theorem Qy.call33 (args:Array Value) (w:World):(callFunc 33 args).run Qy.prog w=.ok (.enter 33 args) w:=call_body Qy.func33 (by kernel_rfl) (by kernel_rfl) args w
theorem Qy.func34:Qy.prog.funcs[34]?=some Tryz.f34:=(Qy.kept (by decide) (by kernel_rfl)).trans Tryz.func34
@[simp] theorem Qy.call34 (args:Array Value) (w:World):(callFunc 34 args).run Qy.prog w=.ok (.enter 34 args) w:=call_body Qy.func34 (by kernel_rfl) (by kernel_rfl) args w
theorem Qy.func35:Qy.prog.funcs[35]?=some Tryz.f35:=(Qy.kept (by decide) (by kernel_rfl)).trans Tryz.func35
@[simp] theorem Qy.call35 (args:Array Value) (w:World):(callFunc 35 args).run Qy.prog w=.ok (.enter 35 args) w:=call_body Qy.func35 (by kernel_rfl) (by kernel_rfl) args w
theorem Qy.func36:Qy.prog.funcs[36]?=some Tryz.f36:=(Qy.kept (by decide) (by kernel_rfl)).trans Tryz.func36
@[simp] theorem Qy.call36 (args:Array Value) (w:World):(callFunc 36 args).run Qy.prog w=.ok (.enter 36 args) w:=call_body Qy.func36 (by kernel_rfl) (by kernel_rfl) args w
theorem Qy.func37:Qy.prog.funcs[37]?=some Tryz.f37:=(Qy.kept (by decide) (by kernel_rfl)).trans Tryz.func37
@[simp] theorem Qy.call37 (args:Array Value) (w:World):(callFunc 37 args).run Qy.prog w=.ok (.enter 37 args) w:=call_body Qy.func37 (by kernel_rfl) (by kernel_rfl) args w
theorem Qy.func38:Qy.prog.funcs[38]?=some Tryz.f38:=(Qy.kept (by decide) (by kernel_rfl)).trans Tryz.func38
@[simp] theorem Qy.call38 (args:Array Value) (w:World):(callFunc 38 args).run Qy.prog w=.ok (.enter 38 args) w:=call_body Qy.func38 (by kernel_rfl) (by kernel_rfl) args w
theorem Qy.func39:Qy.prog.funcs[39]?=some Tryz.f39:=(Qy.kept (by decide) (by kernel_rfl)).trans Tryz.func39
@[simp] theorem Qy.call39 (args:Array Value) (w:World):(callFunc 39 args).run Qy.prog w=.ok (.enter 39 args) w:=call_body Qy.func39 (by kernel_rfl) (by kernel_rfl) args w
theorem Qy.func40:Qy.prog.funcs[40]?=some Tryz.f40:=(Qy.kept (by decide) (by kernel_rfl)).trans Tryz.func40
@[simp] theorem Qy.call40 (args:Array Value) (w:World):(callFunc 40 args).run Qy.prog w=.ok (.enter 40 args) w:=call_body Qy.func40 (by kernel_rfl) (by kernel_rfl) args w
theorem Qy.func41:Qy.prog.funcs[41]?=some Tryz.f41:=(Qy.kept (by decide) (by kernel_rfl)).trans Tryz.func41
@[simp] theorem Qy.call41 (args:Array Value) (w:World):(callFunc 41 args).run Qy.prog w=.ok (.enter 41 args) w:=call_body Qy.func41 (by kernel_rfl) (by kernel_rfl) args w
theorem Qy.func42:Qy.prog.funcs[42]?=some Tryz.f42:=(Qy.kept (by decide) (by kernel_rfl)).trans Tryz.func42
@[simp] theorem Qy.call42 (args:Array Value) (w:World):(callFunc 42 args).run Qy.prog w=.ok (.enter 42 args) w:=call_body Qy.func42 (by kernel_rfl) (by kernel_rfl) args w
theorem Qy.func43:Qy.prog.funcs[43]?=some Tryz.f43:=(Qy.kept (by decide) (by kernel_rfl)).trans Tryz.func43
@[simp] theorem Qy.call43 (args:Array Value) (w:World):(callFunc 43 args).run Qy.prog w=.ok (.enter 43 args) w:=call_body Qy.func43 (by kernel_rfl) (by kernel_rfl) args w
theorem Qy.func44:Qy.prog.funcs[44]?=some Tryz.f44:=(Qy.kept (by decide) (by kernel_rfl)).trans Tryz.func44
@[simp] theorem Qy.call44 (args:Array Value) (w:World):(callFunc 44 args).run Qy.prog w=.ok (.enter 44 args) w:=call_body Qy.func44 (by kernel_rfl) (by kernel_rfl) args w
theorem Qy.func45:Qy.prog.funcs[45]?=some Tryz.f45:=(Qy.kept (by decide) (by kernel_rfl)).trans Tryz.func45
@[simp] theorem Qy.call45 (args:Array Value) (w:World):(callFunc 45 args).run Qy.prog w=.ok (.enter 45 args) w:=call_body Qy.func45 (by kernel_rfl) (by kernel_rfl) args w
theorem Qy.func46:Qy.prog.funcs[46]?=some Tryz.f46:=(Qy.kept (by decide) (by kernel_rfl)).trans Tryz.func46
@[simp] theorem Qy.call46 (args:Array Value) (w:World):(callFunc 46 args).run Qy.prog w=.ok (.enter 46 args) w:=call_body Qy.func46 (by kernel_rfl) (by kernel_rfl) args w
theorem Qy.func47:Qy.prog.funcs[47]?=some Tryz.f47:=(Qy.kept (by decide) (by kernel_rfl)).trans Tryz.func47
@[simp] theorem Qy.call47 (args:Array Value) (w:World):(callFunc 47 args).run Qy.prog w=.ok (.enter 47 args) w:=call_body Qy.func47 (by kernel_rfl) (by kernel_rfl) args w
theorem Qy.func48:Qy.prog.funcs[48]?=some Tryz.f48:=(Qy.kept (by decide) (by kernel_rfl)).trans Tryz.func48
@[simp] theorem Qy.call48 (args:Array Value) (w:World):(callFunc 48 args).run Qy.prog w=.ok (.enter 48 args) w:=call_body Qy.func48 (by kernel_rfl) (by kernel_rfl) args w
theorem Qy.func49:Qy.prog.funcs[49]?=some Tryz.f49:=(Qy.kept (by decide) (by kernel_rfl)).trans Tryz.func49
@[simp] theorem Qy.call49 (args:Array Value) (w:World):(callFunc 49 args).run Qy.prog w=.ok (.enter 49 args) w:=call_body Qy.func49 (by kernel_rfl) (by kernel_rfl) args w
theorem Qy.func50:Qy.prog.funcs[50]?=some Tryz.f50:=(Qy.kept (by decide) (by kernel_rfl)).trans Tryz.func50
@[simp] theorem Qy.call50 (args:Array Value) (w:World):(callFunc 50 args).run Qy.prog w=.ok (.enter 50 args) w:=call_body Qy.func50 (by kernel_rfl) (by kernel_rfl) args w
theorem Qy.func51:Qy.prog.funcs[51]?=some Tryz.f51:=(Qy.kept (by decide) (by kernel_rfl)).trans Tryz.func51
@[simp] theorem Qy.call51 (args:Array Value) (w:World):(callFunc 51 args).run Qy.prog w=.ok (.enter 51 args) w:=call_body Qy.func51 (by kernel_rfl) (by kernel_rfl) args w
theorem Qy.func52:Qy.prog.funcs[52]?=some Tryz.f52:=(Qy.kept (by decide) (by kernel_rfl)).trans Tryz.func52
@[simp] theorem Qy.call52 (args:Array Value) (w:World):(callFunc 52 args).run Qy.prog w=.ok (.enter 52 args) w:=call_body Qy.func52 (by kernel_rfl) (by kernel_rfl) args w
theorem Qy.func53:Qy.prog.funcs[53]?=some Tryz.f53:=(Qy.kept (by decide) (by kernel_rfl)).trans Tryz.func53
@[simp] theorem Qy.call53 (args:Array Value) (w:World):(callFunc 53 args).run Qy.prog w=.ok (.enter 53 args) w:=call_body Qy.func53 (by kernel_rfl) (by kernel_rfl) args w
theorem Qy.func55:Qy.prog.funcs[55]?=some Tryz.f55:=(Qy.kept (by decide) (by kernel_rfl)).trans Tryz.func55
@[simp] theorem Qy.call55 (args:Array Value) (w:World):(callFunc 55 args).run Qy.prog w=.ok (.enter 55 args) w:=call_body Qy.func55 (by kernel_rfl) (by kernel_rfl) args w
theorem Qy.func56:Qy.prog.funcs[56]?=some Tryz.f56:=(Qy.kept (by decide) (by kernel_rfl)).trans Tryz.func56
@[simp] theorem Qy.call56 (args:Array Value) (w:World):(callFunc 56 args).run Qy.prog w=.ok (.enter 56 args) w:=call_body Qy.func56 (by kernel_rfl) (by kernel_rfl) args w
theorem Qy.func57:Qy.prog.funcs[57]?=some Tryz.f57:=(Qy.kept (by decide) (by kernel_rfl)).trans Tryz.func57
@[simp] theorem Qy.call57 (args:Array Value) (w:World):(callFunc 57 args).run Qy.prog w=.ok (.enter 57 args) w:=call_body Qy.func57 (by kernel_rfl) (by kernel_rfl) args w
theorem Qy.func58:Qy.prog.funcs[58]?=some Tryz.f58:=(Qy.kept (by decide) (by kernel_rfl)).trans Tryz.func58
@[simp] theorem Qy.call58 (args:Array Value) (w:World):(callFunc 58 args).run Qy.prog w=.ok (.enter 58 args) w:=call_body Qy.func58 (by kernel_rfl) (by kernel_rfl) args w
theorem Qy.func59:Qy.prog.funcs[59]?=some Tryz.f59:=(Qy.kept (by decide) (by kernel_rfl)).trans Tryz.func59
@[simp] theorem Qy.call59 (args:Array Value) (w:World):(callFunc 59 args).run Qy.prog w=.ok (.enter 59 args) w:=call_body Qy.func59 (by kernel_rfl) (by kernel_rfl) args w
theorem Qy.func60:Qy.prog.funcs[60]?=some Tryz.f60:=(Qy.kept (by decide) (by kernel_rfl)).trans Tryz.func60
@[simp] theorem Qy.call60 (args:Array Value) (w:World):(callFunc 60 args).run Qy.prog w=.ok (.enter 60 args) w:=call_body Qy.func60 (by kernel_rfl) (by kernel_rfl) args w
theorem Qy.func61:Qy.prog.funcs[61]?=some Tryz.f61:=(Qy.kept (by decide) (by kernel_rfl)).trans Tryz.func61
@[simp] theorem Qy.call61 (args:Array Value) (w:World):(callFunc 61 args).run Qy.prog w=.ok (.enter 61 args) w:=call_body Qy.func61 (by kernel_rfl) (by kernel_rfl) args w
theorem Qy.func62:Qy.prog.funcs[62]?=some Tryz.f62:=(Qy.kept (by decide) (by kernel_rfl)).trans Tryz.func62
@[simp] theorem Qy.call62 (args:Array Value) (w:World):(callFunc 62 args).run Qy.prog w=.ok (.enter 62 args) w:=call_body Qy.func62 (by kernel_rfl) (by kernel_rfl) args w
theorem Qy.func63:Qy.prog.funcs[63]?=some Tryz.f63:=(Qy.kept (by decide) (by kernel_rfl)).trans Tryz.func63
@[simp] theorem Qy.call63 (args:Array Value) (w:World):(callFunc 63 args).run Qy.prog w=.ok (.enter 63 args) w:=call_body Qy.func63 (by kernel_rfl) (by kernel_rfl) args w
theorem Qy.func64:Qy.prog.funcs[64]?=some Tryz.f64:=(Qy.kept (by decide) (by kernel_rfl)).trans Tryz.func64
@[simp] theorem Qy.call64 (args:Array Value) (w:World):(callFunc 64 args).run Qy.prog w=.ok (.enter 64 args) w:=call_body Qy.func64 (by kernel_rfl) (by kernel_rfl) args w
theorem Qy.func65:Qy.prog.funcs[65]?=some Tryz.f65:=(Qy.kept (by decide) (by kernel_rfl)).trans Tryz.func65
@[simp] theorem Qy.call65 (args:Array Value) (w:World):(callFunc 65 args).run Qy.prog w=.ok (.enter 65 args) w:=call_body Qy.func65 (by kernel_rfl) (by kernel_rfl) args w
theorem Qy.func67:Qy.prog.funcs[67]?=some Tryz.f67:=(Qy.kept (by decide) (by kernel_rfl)).trans Tryz.func67
@[simp] theorem Qy.call67 (args:Array Value) (w:World):(callFunc 67 args).run Qy.prog w=.ok (.enter 67 args) w:=call_body Qy.func67 (by kernel_rfl) (by kernel_rfl) args w
theorem Qy.func68:Qy.prog.funcs[68]?=some Tryz.f68:=(Qy.kept (by decide) (by kernel_rfl)).trans Tryz.func68
@[simp] theorem Qy.call68 (args:Array Value) (w:World):(callFunc 68 args).run Qy.prog w=.ok (.enter 68 args) w:=call_body Qy.func68 (by kernel_rfl) (by kernel_rfl) args w
theorem Qy.func69:Qy.prog.funcs[69]?=some Tryz.f69:=(Qy.kept (by decide) (by kernel_rfl)).trans Tryz.func69
@[simp] theorem Qy.call69 (args:Array Value) (w:World):(callFunc 69 args).run Qy.prog w=.ok (.enter 69 args) w:=call_body Qy.func69 (by kernel_rfl) (by kernel_rfl) args w
theorem Qy.func70:Qy.prog.funcs[70]?=some Tryz.f70:=(Qy.kept (by decide) (by kernel_rfl)).trans Tryz.func70
@[simp] theorem Qy.call70 (args:Array Value) (w:World):(callFunc 70 args).run Qy.prog w=.ok (.enter 70 args) w:=call_body Qy.func70 (by kernel_rfl) (by kernel_rfl) args w
theorem Qy.func71:Qy.prog.funcs[71]?=some Tryz.f71:=(Qy.kept (by decide) (by kernel_rfl)).trans Tryz.func71
@[simp] theorem Qy.call71 (args:Array Value) (w:World):(callFunc 71 args).run Qy.prog w=.ok (.enter 71 args) w:=call_body Qy.func71 (by kernel_rfl) (by kernel_rfl) args w
theorem Qy.func72:Qy.prog.funcs[72]?=some Tryz.f72:=(Qy.kept (by decide) (by kernel_rfl)).trans Tryz.func72
@[simp] theorem Qy.call72 (args:Array Value) (w:World):(callFunc 72 args).run Qy.prog w=.ok (.enter 72 args) w:=call_body Qy.func72 (by kernel_rfl) (by kernel_rfl) args w
theorem Qy.func73:Qy.prog.funcs[73]?=some Tryz.f73:=(Qy.kept (by decide) (by kernel_rfl)).trans Tryz.func73
@[simp] theorem Qy.call73 (args:Array Value) (w:World):(callFunc 73 args).run Qy.prog w=.ok (.enter 73 args) w:=call_body Qy.func73 (by kernel_rfl) (by kernel_rfl) args w
theorem Qy.func74:Qy.prog.funcs[74]?=some Tryz.f74:=(Qy.kept (by decide) (by kernel_rfl)).trans Tryz.func74
@[simp] theorem Qy.call74 (args:Array Value) (w:World):(callFunc 74 args).run Qy.prog w=.ok (.enter 74 args) w:=call_body Qy.func74 (by kernel_rfl) (by kernel_rfl) args w
theorem Qy.func75:Qy.prog.funcs[75]?=some Tryz.f75:=(Qy.kept (by decide) (by kernel_rfl)).trans Tryz.func75
@[simp] theorem Qy.call75 (args:Array Value) (w:World):(callFunc 75 args).run Qy.prog w=.ok (.enter 75 args) w:=call_body Qy.func75 (by kernel_rfl) (by kernel_rfl) args w
theorem Qy.func76:Qy.prog.funcs[76]?=some Tryz.f76:=(Qy.kept (by decide) (by kernel_rfl)).trans Tryz.func76
@[simp] theorem Qy.call76 (args:Array Value) (w:World):(callFunc 76 args).run Qy.prog w=.ok (.enter 76 args) w:=call_body Qy.func76 (by kernel_rfl) (by kernel_rfl) args w
theorem Qy.func77:Qy.prog.funcs[77]?=some Tryz.f77:=(Qy.kept (by decide) (by kernel_rfl)).trans Tryz.func77
@[simp] theorem Qy.call77 (args:Array Value) (w:World):(callFunc 77 args).run Qy.prog w=.ok (.enter 77 args) w:=call_body Qy.func77 (by kernel_rfl) (by kernel_rfl) args w
theorem Qy.func78:Qy.prog.funcs[78]?=some Tryz.f78:=(Qy.kept (by decide) (by kernel_rfl)).trans Tryz.func78
@[simp] theorem Qy.call78 (args:Array Value) (w:World):(callFunc 78 args).run Qy.prog w=.ok (.enter 78 args) w:=call_body Qy.func78 (by kernel_rfl) (by kernel_rfl) args w
theorem Qy.func79:Qy.prog.funcs[79]?=some Tryz.f79:=(Qy.kept (by decide) (by kernel_rfl)).trans Tryz.func79
@[simp] theorem Qy.call79 (args:Array Value) (w:World):(callFunc 79 args).run Qy.prog w=.ok (.enter 79 args) w:=call_body Qy.func79 (by kernel_rfl) (by kernel_rfl) args w
theorem Qy.func80:Qy.prog.funcs[80]?=some Tryz.f80:=(Qy.kept (by decide) (by kernel_rfl)).trans Tryz.func80
@[simp] theorem Qy.call80 (args:Array Value) (w:World):(callFunc 80 args).run Qy.prog w=.ok (.enter 80 args) w:=call_body Qy.func80 (by kernel_rfl) (by kernel_rfl) args w
theorem Qy.func81:Qy.prog.funcs[81]?=some Tryz.f81:=(Qy.kept (by decide) (by kernel_rfl)).trans Tryz.func81
@[simp] theorem Qy.call81 (args:Array Value) (w:World):(callFunc 81 args).run Qy.prog w=.ok (.enter 81 args) w:=call_body Qy.func81 (by kernel_rfl) (by kernel_rfl) args w
theorem Qy.func82:Qy.prog.funcs[82]?=some Tryz.f82:=(Qy.kept (by decide) (by kernel_rfl)).trans Tryz.func82
@[simp] theorem Qy.call82 (args:Array Value) (w:World):(callFunc 82 args).run Qy.prog w=.ok (.enter 82 args) w:=call_body Qy.func82 (by kernel_rfl) (by kernel_rfl) args w
theorem Qy.func83:Qy.prog.funcs[83]?=some Tryz.f83:=(Qy.kept (by decide) (by kernel_rfl)).trans Tryz.func83
@[simp] theorem Qy.call83 (args:Array Value) (w:World):(callFunc 83 args).run Qy.prog w=.ok (.enter 83 args) w:=call_body Qy.func83 (by kernel_rfl) (by kernel_rfl) args w
theorem Qy.func84:Qy.prog.funcs[84]?=some Tryz.f84:=(Qy.kept (by decide) (by kernel_rfl)).trans Tryz.func84
@[simp] theorem Qy.call84 (args:Array Value) (w:World):(callFunc 84 args).run Qy.prog w=.ok (.enter 84 args) w:=call_body Qy.func84 (by kernel_rfl) (by kernel_rfl) args w
theorem Qy.func85:Qy.prog.funcs[85]?=some Tryz.f85:=(Qy.kept (by decide) (by kernel_rfl)).trans Tryz.func85
@[simp] theorem Qy.call85 (args:Array Value) (w:World):(callFunc 85 args).run Qy.prog w=.ok (.enter 85 args) w:=call_body Qy.func85 (by kernel_rfl) (by kernel_rfl) args w
theorem Qy.func86:Qy.prog.funcs[86]?=some Tryz.f86:=(Qy.kept (by decide) (by kernel_rfl)).trans Tryz.func86
@[simp] theorem Qy.call86 (args:Array Value) (w:World):(callFunc 86 args).run Qy.prog w=.ok (.enter 86 args) w:=call_body Qy.func86 (by kernel_rfl) (by kernel_rfl) args w
theorem Qy.func87:Qy.prog.funcs[87]?=some Tryz.f87:=(Qy.kept (by decide) (by kernel_rfl)).trans Tryz.func87
@[simp] theorem Qy.call87 (args:Array Value) (w:World):(callFunc 87 args).run Qy.prog w=.ok (.enter 87 args) w:=call_body Qy.func87 (by kernel_rfl) (by kernel_rfl) args w
theorem Qy.func88:Qy.prog.funcs[88]?=some Tryz.f88:=(Qy.kept (by decide) (by kernel_rfl)).trans Tryz.func88
@[simp] theorem Qy.call88 (args:Array Value) (w:World):(callFunc 88 args).run Qy.prog w=.ok (.enter 88 args) w:=call_body Qy.func88 (by kernel_rfl) (by kernel_rfl) args w
theorem Qy.func89:Qy.prog.funcs[89]?=some Tryz.f89:=(Qy.kept (by decide) (by kernel_rfl)).trans Tryz.func89
@[simp] theorem Qy.call89 (args:Array Value) (w:World):(callFunc 89 args).run Qy.prog w=.ok (.enter 89 args) w:=call_body Qy.func89 (by kernel_rfl) (by kernel_rfl) args w
theorem Qy.func90:Qy.prog.funcs[90]?=some Tryz.f90:=(Qy.kept (by decide) (by kernel_rfl)).trans Tryz.func90
@[simp] theorem Qy.call90 (args:Array Value) (w:World):(callFunc 90 args).run Qy.prog w=.ok (.enter 90 args) w:=call_body Qy.func90 (by kernel_rfl) (by kernel_rfl) args w
theorem Qy.func91:Qy.prog.funcs[91]?=some Tryz.f91:=(Qy.kept (by decide) (by kernel_rfl)).trans Tryz.func91
@[simp] theorem Qy.call91 (args:Array Value) (w:World):(callFunc 91 args).run Qy.prog w=.ok (.enter 91 args) w:=call_body Qy.func91 (by kernel_rfl) (by kernel_rfl) args w
theorem Qy.func92:Qy.prog.funcs[92]?=some Tryz.f92:=(Qy.kept (by decide) (by kernel_rfl)).trans Tryz.func92
@[simp] theorem Qy.call92 (args:Array Value) (w:World):(callFunc 92 args).run Qy.prog w=.ok (.enter 92 args) w:=call_body Qy.func92 (by kernel_rfl) (by kernel_rfl) args w
theorem Qy.func93:Qy.prog.funcs[93]?=some Tryz.f93:=(Qy.kept (by decide) (by kernel_rfl)).trans Tryz.func93
@[simp] theorem Qy.call93 (args:Array Value) (w:World):(callFunc 93 args).run Qy.prog w=.ok (.enter 93 args) w:=call_body Qy.func93 (by kernel_rfl) (by kernel_rfl) args w
theorem Qy.func98:Qy.prog.funcs[98]?=some Tryz.f98:=(Qy.kept (by decide) (by kernel_rfl)).trans Tryz.func98
@[simp] theorem Qy.call98 (args:Array Value) (w:World):(callFunc 98 args).run Qy.prog w=.ok (.enter 98 args) w:=call_body Qy.func98 (by kernel_rfl) (by kernel_rfl) args w
theorem Qy.func99:Qy.prog.funcs[99]?=some Tryz.f99:=(Qy.kept (by decide) (by kernel_rfl)).trans Tryz.func99
@[simp] theorem Qy.call99 (args:Array Value) (w:World):(callFunc 99 args).run Qy.prog w=.ok (.enter 99 args) w:=call_body Qy.func99 (by kernel_rfl) (by kernel_rfl) args w
theorem Qy.func100:Qy.prog.funcs[100]?=some Tryz.f100:=(Qy.kept (by decide) (by kernel_rfl)).trans Tryz.func100
@[simp] theorem Qy.call100 (args:Array Value) (w:World):(callFunc 100 args).run Qy.prog w=.ok (.enter 100 args) w:=call_body Qy.func100 (by kernel_rfl) (by kernel_rfl) args w
theorem Qy.func101:Qy.prog.funcs[101]?=some Tryz.f101:=(Qy.kept (by decide) (by kernel_rfl)).trans Tryz.func101
@[simp] theorem Qy.call101 (args:Array Value) (w:World):(callFunc 101 args).run Qy.prog w=.ok (.enter 101 args) w:=call_body Qy.func101 (by kernel_rfl) (by kernel_rfl) args w
theorem Qy.func102:Qy.prog.funcs[102]?=some Tryz.f102:=(Qy.kept (by decide) (by kernel_rfl)).trans Tryz.func102
@[simp] theorem Qy.call102 (args:Array Value) (w:World):(callFunc 102 args).run Qy.prog w=.ok (.enter 102 args) w:=call_body Qy.func102 (by kernel_rfl) (by kernel_rfl) args w
theorem Qy.func103:Qy.prog.funcs[103]?=some Tryz.f103:=(Qy.kept (by decide) (by kernel_rfl)).trans Tryz.func103
@[simp] theorem Qy.call103 (args:Array Value) (w:World):(callFunc 103 args).run Qy.prog w=.ok (.enter 103 args) w:=call_body Qy.func103 (by kernel_rfl) (by kernel_rfl) args w
theorem Qy.func104:Qy.prog.funcs[104]?=some Tryz.f104:=(Qy.kept (by decide) (by kernel_rfl)).trans Tryz.func104
@[simp] theorem Qy.call104 (args:Array Value) (w:World):(callFunc 104 args).run Qy.prog w=.ok (.enter 104 args) w:=call_body Qy.func104 (by kernel_rfl) (by kernel_rfl) args w
theorem Qy.func105:Qy.prog.funcs[105]?=some Tryz.f105:=(Qy.kept (by decide) (by kernel_rfl)).trans Tryz.func105
@[simp] theorem Qy.call105 (args:Array Value) (w:World):(callFunc 105 args).run Qy.prog w=.ok (.enter 105 args) w:=call_body Qy.func105 (by kernel_rfl) (by kernel_rfl) args w
theorem Qy.func106:Qy.prog.funcs[106]?=some Tryz.f106:=(Qy.kept (by decide) (by kernel_rfl)).trans Tryz.func106
@[simp] theorem Qy.call106 (args:Array Value) (w:World):(callFunc 106 args).run Qy.prog w=.ok (.enter 106 args) w:=call_body Qy.func106 (by kernel_rfl) (by kernel_rfl) args w
theorem Qy.func107:Qy.prog.funcs[107]?=some Tryz.f107:=(Qy.kept (by decide) (by kernel_rfl)).trans Tryz.func107
@[simp] theorem Qy.call107 (args:Array Value) (w:World):(callFunc 107 args).run Qy.prog w=.ok (.enter 107 args) w:=call_body Qy.func107 (by kernel_rfl) (by kernel_rfl) args w
theorem Qy.func108:Qy.prog.funcs[108]?=some Tryz.f108:=(Qy.kept (by decide) (by kernel_rfl)).trans Tryz.func108
@[simp] theorem Qy.call108 (args:Array Value) (w:World):(callFunc 108 args).run Qy.prog w=.ok (.enter 108 args) w:=call_body Qy.func108 (by kernel_rfl) (by kernel_rfl) args w
theorem Qy.func109:Qy.prog.funcs[109]?=some Tryz.f109:=(Qy.kept (by decide) (by kernel_rfl)).trans Tryz.func109
@[simp] theorem Qy.call109 (args:Array Value) (w:World):(callFunc 109 args).run Qy.prog w=.ok (.enter 109 args) w:=call_body Qy.func109 (by kernel_rfl) (by kernel_rfl) args w
theorem Qy.func110:Qy.prog.funcs[110]?=some Tryz.f110:=(Qy.kept (by decide) (by kernel_rfl)).trans Tryz.func110
@[simp] theorem Qy.call110 (args:Array Value) (w:World):(callFunc 110 args).run Qy.prog w=.ok (.enter 110 args) w:=call_body Qy.func110 (by kernel_rfl) (by kernel_rfl) args w
theorem Qy.func111:Qy.prog.funcs[111]?=some Tryz.f111:=(Qy.kept (by decide) (by kernel_rfl)).trans Tryz.func111
@[simp] theorem Qy.call111 (args:Array Value) (w:World):(callFunc 111 args).run Qy.prog w=.ok (.enter 111 args) w:=call_body Qy.func111 (by kernel_rfl) (by kernel_rfl) args w
theorem Qy.func112:Qy.prog.funcs[112]?=some Tryz.f112:=(Qy.kept (by decide) (by kernel_rfl)).trans Tryz.func112
@[simp] theorem Qy.call112 (args:Array Value) (w:World):(callFunc 112 args).run Qy.prog w=.ok (.enter 112 args) w:=call_body Qy.func112 (by kernel_rfl) (by kernel_rfl) args w
theorem Qy.func113:Qy.prog.funcs[113]?=some Tryz.f113:=(Qy.kept (by decide) (by kernel_rfl)).trans Tryz.func113
@[simp] theorem Qy.call113 (args:Array Value) (w:World):(callFunc 113 args).run Qy.prog w=.ok (.enter 113 args) w:=call_body Qy.func113 (by kernel_rfl) (by kernel_rfl) args w
theorem Qy.func114:Qy.prog.funcs[114]?=some Tryz.f114:=(Qy.kept (by decide) (by kernel_rfl)).trans Tryz.func114
@[simp] theorem Qy.call114 (args:Array Value) (w:World):(callFunc 114 args).run Qy.prog w=.ok (.enter 114 args) w:=call_body Qy.func114 (by kernel_rfl) (by kernel_rfl) args w
theorem Qy.func115:Qy.prog.funcs[115]?=some Tryz.f115:=(Qy.kept (by decide) (by kernel_rfl)).trans Tryz.func115
@[simp] theorem Qy.call115 (args:Array Value) (w:World):(callFunc 115 args).run Qy.prog w=.ok (.enter 115 args) w:=call_body Qy.func115 (by kernel_rfl) (by kernel_rfl) args w
theorem Qy.func116:Qy.prog.funcs[116]?=some Tryz.f116:=(Qy.kept (by decide) (by kernel_rfl)).trans Tryz.func116
@[simp] theorem Qy.call116 (args:Array Value) (w:World):(callFunc 116 args).run Qy.prog w=.ok (.enter 116 args) w:=call_body Qy.func116 (by kernel_rfl) (by kernel_rfl) args w
theorem Qy.func117:Qy.prog.funcs[117]?=some Tryz.f117:=(Qy.kept (by decide) (by kernel_rfl)).trans Tryz.func117
@[simp] theorem Qy.call117 (args:Array Value) (w:World):(callFunc 117 args).run Qy.prog w=.ok (.enter 117 args) w:=call_body Qy.func117 (by kernel_rfl) (by kernel_rfl) args w
theorem Qy.func118:Qy.prog.funcs[118]?=some Tryz.f118:=(Qy.kept (by decide) (by kernel_rfl)).trans Tryz.func118
@[simp] theorem Qy.call118 (args:Array Value) (w:World):(callFunc 118 args).run Qy.prog w=.ok (.enter 118 args) w:=call_body Qy.func118 (by kernel_rfl) (by kernel_rfl) args w
theorem Qy.func119:Qy.prog.funcs[119]?=some Tryz.f119:=(Qy.kept (by decide) (by kernel_rfl)).trans Tryz.func119
@[simp] theorem Qy.call119 (args:Array Value) (w:World):(callFunc 119 args).run Qy.prog w=.ok (.enter 119 args) w:=call_body Qy.func119 (by kernel_rfl) (by kernel_rfl) args w
theorem Qy.func138:Qy.prog.funcs[138]?=some Tryz.f138:=(Qy.kept (by decide) (by kernel_rfl)).trans Tryz.func138
@[simp] theorem Qy.call138 (args:Array Value) (w:World):(callFunc 138 args).run Qy.prog w=.ok (.enter 138 args) w:=call_body Qy.func138 (by kernel_rfl) (by kernel_rfl) args w
theorem Qy.func139:Qy.prog.funcs[139]?=some Tryz.f139:=(Qy.kept (by decide) (by kernel_rfl)).trans Tryz.func139
@[simp] theorem Qy.call139 (args:Array Value) (w:World):(callFunc 139 args).run Qy.prog w=.ok (.enter 139 args) w:=call_body Qy.func139 (by kernel_rfl) (by kernel_rfl) args w
theorem Qy.func140:Qy.prog.funcs[140]?=some Tryz.f140:=(Qy.kept (by decide) (by kernel_rfl)).trans Tryz.func140
@[simp] theorem Qy.call140 (args:Array Value) (w:World):(callFunc 140 args).run Qy.prog w=.ok (.enter 140 args) w:=call_body Qy.func140 (by kernel_rfl) (by kernel_rfl) args w
theorem Qy.func141:Qy.prog.funcs[141]?=some Tryz.f141:=(Qy.kept (by decide) (by kernel_rfl)).trans Tryz.func141
theorem Qy.func142:Qy.prog.funcs[142]?=some Tryz.f142:=(Qy.kept (by decide) (by kernel_rfl)).trans Tryz.func142
@[simp] theorem Qy.call142 (args:Array Value) (w:World):(callFunc 142 args).run Qy.prog w=.ok (.enter 142 args) w:=call_body Qy.func142 (by kernel_rfl) (by kernel_rfl) args w
theorem Qy.func143:Qy.prog.funcs[143]?=some Tryz.f143:=(Qy.kept (by decide) (by kernel_rfl)).trans Tryz.func143
@[simp] theorem Qy.call143 (args:Array Value) (w:World):(callFunc 143 args).run Qy.prog w=.ok (.enter 143 args) w:=call_body Qy.func143 (by kernel_rfl) (by kernel_rfl) args w
theorem Qy.func149:Qy.prog.funcs[149]?=some Tryz.f149:=(Qy.kept (by decide) (by kernel_rfl)).trans Tryz.func149
@[simp] theorem Qy.call149 (args:Array Value) (w:World):(callFunc 149 args).run Qy.prog w=.ok (.enter 149 args) w:=call_body Qy.func149 (by kernel_rfl) (by kernel_rfl) args w
theorem Qy.func150:Qy.prog.funcs[150]?=some Tryz.f150:=(Qy.kept (by decide) (by kernel_rfl)).trans Tryz.func150
@[simp] theorem Qy.call150 (args:Array Value) (w:World):(callFunc 150 args).run Qy.prog w=.ok (.enter 150 args) w:=call_body Qy.func150 (by kernel_rfl) (by kernel_rfl) args w
theorem Qy.func151:Qy.prog.funcs[151]?=some Tryz.f151:=(Qy.kept (by decide) (by kernel_rfl)).trans Tryz.func151
@[simp] theorem Qy.call151 (args:Array Value) (w:World):(callFunc 151 args).run Qy.prog w=.ok (.enter 151 args) w:=call_body Qy.func151 (by kernel_rfl) (by kernel_rfl) args w
theorem Qy.func152:Qy.prog.funcs[152]?=some Tryz.f152:=(Qy.kept (by decide) (by kernel_rfl)).trans Tryz.func152
@[simp] theorem Qy.call152 (args:Array Value) (w:World):(callFunc 152 args).run Qy.prog w=.ok (.enter 152 args) w:=call_body Qy.func152 (by kernel_rfl) (by kernel_rfl) args w
theorem Qy.func153:Qy.prog.funcs[153]?=some Tryz.f153:=(Qy.kept (by decide) (by kernel_rfl)).trans Tryz.func153
@[simp] theorem Qy.call153 (args:Array Value) (w:World):(callFunc 153 args).run Qy.prog w=.ok (.enter 153 args) w:=call_body Qy.func153 (by kernel_rfl) (by kernel_rfl) args w
theorem Qy.func154:Qy.prog.funcs[154]?=some Tryz.f154:=(Qy.kept (by decide) (by kernel_rfl)).trans Tryz.func154
@[simp] theorem Qy.call154 (args:Array Value) (w:World):(callFunc 154 args).run Qy.prog w=.ok (.enter 154 args) w:=call_body Qy.func154 (by kernel_rfl) (by kernel_rfl) args w
theorem Qy.func155:Qy.prog.funcs[155]?=some Tryz.f155:=(Qy.kept (by decide) (by kernel_rfl)).trans Tryz.func155
@[simp] theorem Qy.call155 (args:Array Value) (w:World):(callFunc 155 args).run Qy.prog w=.ok (.enter 155 args) w:=call_body Qy.func155 (by kernel_rfl) (by kernel_rfl) args w
theorem Qy.func156:Qy.prog.funcs[156]?=some Tryz.f156:=(Qy.kept (by decide) (by kernel_rfl)).trans Tryz.func156
@[simp] theorem Qy.call156 (args:Array Value) (w:World):(callFunc 156 args).run Qy.prog w=.ok (.enter 156 args) w:=call_body Qy.func156 (by kernel_rfl) (by kernel_rfl) args w
theorem Qy.func157:Qy.prog.funcs[157]?=some Tryz.f157:=(Qy.kept (by decide) (by kernel_rfl)).trans Tryz.func157
@[simp] theorem Qy.call157 (args:Array Value) (w:World):(callFunc 157 args).run Qy.prog w=.ok (.enter 157 args) w:=call_body Qy.func157 (by kernel_rfl) (by kernel_rfl) args w
theorem Qy.func158:Qy.prog.funcs[158]?=some Tryz.f158:=(Qy.kept (by decide) (by kernel_rfl)).trans Tryz.func158
@[simp] theorem Qy.call158 (args:Array Value) (w:World):(callFunc 158 args).run Qy.prog w=.ok (.enter 158 args) w:=call_body Qy.func158 (by kernel_rfl) (by kernel_rfl) args w
theorem Qy.func159:Qy.prog.funcs[159]?=some Tryz.f159:=(Qy.kept (by decide) (by kernel_rfl)).trans Tryz.func159
@[simp] theorem Qy.call159 (args:Array Value) (w:World):(callFunc 159 args).run Qy.prog w=.ok (.enter 159 args) w:=call_body Qy.func159 (by kernel_rfl) (by kernel_rfl) args w
theorem Qy.func160:Qy.prog.funcs[160]?=some Tryz.f160:=(Qy.kept (by decide) (by kernel_rfl)).trans Tryz.func160
@[simp] theorem Qy.call160 (args:Array Value) (w:World):(callFunc 160 args).run Qy.prog w=.ok (.enter 160 args) w:=call_body Qy.func160 (by kernel_rfl) (by kernel_rfl) args w
theorem Qy.func161:Qy.prog.funcs[161]?=some Tryz.f161:=(Qy.kept (by decide) (by kernel_rfl)).trans Tryz.func161
@[simp] theorem Qy.call161 (args:Array Value) (w:World):(callFunc 161 args).run Qy.prog w=.ok (.enter 161 args) w:=call_body Qy.func161 (by kernel_rfl) (by kernel_rfl) args w
theorem Qy.func162:Qy.prog.funcs[162]?=some Tryz.f162:=(Qy.kept (by decide) (by kernel_rfl)).trans Tryz.func162
@[simp] theorem Qy.call162 (args:Array Value) (w:World):(callFunc 162 args).run Qy.prog w=.ok (.enter 162 args) w:=call_body Qy.func162 (by kernel_rfl) (by kernel_rfl) args w
theorem Qy.func163:Qy.prog.funcs[163]?=some Tryz.f163:=(Qy.kept (by decide) (by kernel_rfl)).trans Tryz.func163
@[simp] theorem Qy.call163 (args:Array Value) (w:World):(callFunc 163 args).run Qy.prog w=.ok (.enter 163 args) w:=call_body Qy.func163 (by kernel_rfl) (by kernel_rfl) args w
theorem Qy.func164:Qy.prog.funcs[164]?=some Tryz.f164:=(Qy.kept (by decide) (by kernel_rfl)).trans Tryz.func164
@[simp] theorem Qy.call164 (args:Array Value) (w:World):(callFunc 164 args).run Qy.prog w=.ok (.enter 164 args) w:=call_body Qy.func164 (by kernel_rfl) (by kernel_rfl) args w
theorem Qy.func165:Qy.prog.funcs[165]?=some Tryz.f165:=(Qy.kept (by decide) (by kernel_rfl)).trans Tryz.func165
@[simp] theorem Qy.call165 (args:Array Value) (w:World):(callFunc 165 args).run Qy.prog w=.ok (.enter 165 args) w:=call_body Qy.func165 (by kernel_rfl) (by kernel_rfl) args w
theorem Qy.func166:Qy.prog.funcs[166]?=some Tryz.f166:=(Qy.kept (by decide) (by kernel_rfl)).trans Tryz.func166
@[simp] theorem Qy.call166 (args:Array Value) (w:World):(callFunc 166 args).run Qy.prog w=.ok (.enter 166 args) w:=call_body Qy.func166 (by kernel_rfl) (by kernel_rfl) args w
theorem Qy.func167:Qy.prog.funcs[167]?=some Tryz.f167:=(Qy.kept (by decide) (by kernel_rfl)).trans Tryz.func167
@[simp] theorem Qy.call167 (args:Array Value) (w:World):(callFunc 167 args).run Qy.prog w=.ok (.enter 167 args) w:=call_body Qy.func167 (by kernel_rfl) (by kernel_rfl) args w
theorem Qy.func54:Qy.prog.funcs[54]?=some seqFn:=by
 unfold Qy.prog
 rw [withF_funcs]
 unfold Qy.funcs
 exact mkF_spec (of_decide_eq_true (by kernel_rfl))
theorem Qy.ntmps54:seqFn.ntmps=25:=rfl
@[simp] theorem Qy.call54 (args:Array Value) (w:World):(callFunc 54 args).run Qy.prog w=.ok (.enter 54 args) w:=call_body Qy.func54 (by kernel_rfl) (by kernel_rfl) args w
end Go.Proofs
namespace Go.Proofs.YtpcjdalgebgofaaGreatDoorY
open Go.RowKit Go.Sort
abbrev Ent:=Int × Int
def inR (n lo hi:Int):Bool:=decide (lo≤n) && decide (n≤hi)
theorem ret_bool {a b:Bool} (h:a=b):Ending.returned (.bool a)=.returned (.bool b):=by rw [h]
theorem ret_int {k:IntKind} {a b:Int} (h:a=b):Ending.returned (.int k a)=.returned (.int k b):=by rw [h]
theorem bcell {W w1:World} (hb:Below W.heap.size W w1):(∀ b o,b<W.heap.size→w1.cell? ⟨b,o,none⟩=W.cell? ⟨b,o,none⟩)∧(∀ b o,b<W.heap.size→w1.frozen? ⟨b,o,none⟩=W.frozen? ⟨b,o,none⟩) :=
 ⟨fun b o h=>hb.cell (p:=⟨b,o,none⟩) h,fun b o h=>hb.frozen (p:=⟨b,o,none⟩) h⟩
theorem below_next {a b c:World} (h:Below a.heap.size a b) (k:Below b.heap.size b c):Below a.heap.size a c:=h.trans (k.mono h.size)
theorem below_at {B:Nat} {a b c:World} (h:Below B a b) (hB:B≤b.heap.size) (k:Below b.heap.size b c):Below B a c:=h.trans (k.mono hB)
section
variable {w w':World} {A:Option Addr} {n:Nat} {es:List Ent}
end
theorem wpQuiet_imp {P:Program} {ops:Array Oper} {C:World→Prop} {Q Q':Act→Prop} (hQ:∀ a,Q a→Q' a):∀ (l:List Oper) (a:Act),wpQuiet P ops C Q l a→wpQuiet P ops C Q' l a
 | [],_,h=>hQ _ h
 |o :: l,a,h=>by
  unfold wpQuiet at h ⊢
  split
  ·rename_i hw
   rw [if_pos hw] at h
   exact Oper.quiet_mono (fun a ha=>wpQuiet_imp hQ l a ha) h
  ·rename_i hw
   rw [if_neg hw] at h
   exact wpQuiet_imp hQ l _ h
def Blk (w:World) (g T:Nat) (cs:Array Value):Prop:=w.heap[g]?=some (.cells cs T (0,0))
section
variable {w w':World} {g T:Nat} {cs:Array Value}
theorem Blk.lt (h:Blk w g T cs):g<w.heap.size:=(Array.getElem?_eq_some_iff.1 h).1
theorem Blk.cell (h:Blk w g T cs) (i:Nat):w.cell? ⟨g,i,none⟩=cs[i]?:=cell_of_row w g i cs T (0,0) h
theorem Blk.frozen (h:Blk w g T cs) (i:Nat):w.frozen? ⟨g,i,none⟩=false:=by
 unfold Blk at h
 simp [World.frozen?,h]
theorem Blk.new (w:World) (T:Nat) (cs:Array Value):Blk (w.alloc (.cells cs T)) w.heap.size T cs:=heap_alloc_new w _
theorem Blk.alloc (h:Blk w g T cs) (o:Obj):Blk (w.alloc o) g T cs:=(Below.heap_alloc w o g h.lt).trans h
theorem Blk.set_ (h:Blk w g T cs) (i:Nat) (u:Value):Blk (w.setCell ⟨g,i,none⟩ u) g T (cs.setIfInBounds i u):=by
 unfold Blk at h ⊢
 simp [World.setCell,Array.getElem?_modify,h]
theorem Blk.far (h:Blk w g T cs) {p:Addr} (hp:g≠p.block) (u:Value):Blk (w.setCell p u) g T cs:=(Below.heap_setCell w p u g hp).trans h
theorem Blk.below {B:Nat} (h:Blk w g T cs) (hb:Below B w w') (hg:g<B):Blk w' g T cs:=(hb.block g hg).trans h
theorem Blk.next (h:Blk w g T cs) (hb:Below w.heap.size w w'):Blk w' g T cs:=(hb.block g h.lt).trans h
end
theorem run_make_rowN {P:Program} (t e:TypeId) (i:TypeInfo) (z:Value) (ht:P.underlying t=some (.slice e)) (hi:P.info? e=some i) (hz:i.zero=some z)
  (kl kc:IntKind) (n c:Nat) (hnc:n≤c) (hbytes:i.bytes * c≤281474976710656) (h63:c≤9223372036854775807) (w:World) :
  (Instr.makeSlice t (.int kl (n:Int)) (.int kc (c:Int))).run P w=.ok (.slice (some ⟨w.heap.size,0,none⟩) n c) (w.alloc (.cells (madeCells z.cells (c * i.size)) e)):=by
 have hb:(i.bytes:Int) * (c:Int)≤281474976710656:=by
  have h:((i.bytes * c:Nat):Int)≤281474976710656:=by omega
  rwa [Int.natCast_mul] at h
 have hr:=run_make (P:=P) w t e i z ht hi hz kl kc n c (by omega) (by omega) hb (by omega)
 simp only [Int.toNat_natCast] at hr
 exact hr
theorem wp_region_qb {P:Program} {id:Nat} {Q:Exit→Act→World→Prop} {a:Act} {w:World} {l:List Oper} (hm:P.follows .mixedOrders=true) (hB:Region.lexB .any l.toArray=true)
  (h:wpQuiet P l.toArray (fun w'=>∃ p:Regrown,w'=grow (redrawn w p.d) p.os) (fun a'=>∀ w',Below w.heap.size w w'→Q .normal a' w') l a):(Code.region id l.toArray true).wp P Q a w :=
 wp_region_quiet (C:=fun w'=>∃ p:Regrown,w'=grow (redrawn w p.d) p.os) hm hB ⟨⟨w.drawn+1,#[]⟩,by rw [grow_empty];rfl⟩ (by
  refine wpQuiet_imp ?_ _ _ (by simpa using h)
  rintro a' h' w' ⟨p,rfl⟩
  exact h' _ (below_regrown w p.d p.os))
end Go.Proofs.YtpcjdalgebgofaaGreatDoorY

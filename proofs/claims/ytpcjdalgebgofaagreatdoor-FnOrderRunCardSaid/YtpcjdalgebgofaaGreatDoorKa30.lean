/-
  Lemmas and contracts: Kb. No condition.
-/
import Derived.Test.YtpcjdalgebgofaaGreatDoorRows
import Derived.MakeChecks
import Derived.LaidSub
import Derived.Lay
import Derived.LaidMore
import Derived.OpenVars
import Derived.Test.YtpcjdalgebgofaaGreatDoorKa5
import Derived.Test.YtpcjdalgebgofaaGreatDoorKa13
import Derived.Test.YtpcjdalgebgofaaGreatDoorKa29
set_option linter.unusedSimpArgs false
set_option linter.unusedVariables false
set_option linter.unusedSectionVars false
namespace Go.Proofs.YtpcjdalgebgofaaGreatDoor
open Go Go.Conc Go.ConcX Go.RowKit Go.ChangeShapes Go.WideShapes Go.ChangeAt
def extL:List Nat:=[66,186]
def goodL:List Nat:=Qy.keepL.filter fun i=>!extL.contains i
theorem goods_:goodL.all (fun i=>((Tryz.prog.funcs[i]?).map (okFn Tryz.prog)).getD false)=true:=by kernel_rfl
theorem keeps_ (i:Nat) (h:Qy.keep i=true):i ∈ goodL∨i ∈ extL:=by
 have hm:i ∈ Qy.keepL:=by simpa [Qy.keep] using h
 by_cases he:i ∈ extL
 ·exact .inr he
 ·exact .inl (List.mem_filter.2 ⟨hm,by simpa using he⟩)
theorem kinL_:KinList Tryz.prog 54 seqFn goodL extL where
 size:=of_decide_eq_true (by kernel_rfl)
 name:=by kernel_rfl
 isB:=rfl
 old:=⟨_,Tryz.func54,by kernel_rfl,by kernel_rfl⟩
 good:=goods_
 ext:=fun i hi=>by
  have:i=66∨i=186:=by simpa [extL] using hi
  rcases this with rfl|rfl
  ·exact ⟨_,Tryz.func66,by kernel_rfl,by kernel_rfl,by kernel_rfl,Extern.ReflectliteType.typeOf,by kernel_rfl,fun P F args N=>fit_reflTypeOf args⟩
  ·exact ⟨_,Tryz.func186,by kernel_rfl,by kernel_rfl,by kernel_rfl,Go.Proofs.YtpcjdalgebgofaaGreatDoorY.compE,by kernel_rfl,fun P F args N=>fit_reflComparable args⟩
theorem kin_:Kin Tryz.prog Qy.funcs (fun f=>f=54):=kin_of (kinTest_of kinL_ keeps_)
theorem kinQ_:Kin (withF Tryz.prog Qy.funcs) Qy.funcs (fun f=>f=54):=kin_of (kinTestQ_of kinL_ keeps_)
theorem laid0_:Laid0 Tryz.prog:=⟨by kernel_rfl,by kernel_rfl,by kernel_rfl⟩
theorem star_ : "*" ++ "errors.errorString" = "*errors.errorString" := by decide
theorem row_star (u:TypeId) (h:Tryz.prog.typeName? 3 u=some "*errors.errorString"):u=216 :=
 typeName_ptr_named (nm := "errors.errorString") (by rw [star_];kernel_rfl) (by kernel_rfl) (by decide) u (by rw [star_];exact h)
def addrAt (w:World) (i:Nat):Addr :=
 match w.cell? ⟨i,0,none⟩ with
 | some (.iface _ (.pointer (some a)))=>a
 | _=>⟨0,0,none⟩
structure Pair (w:World) (i j:Nat):Prop where
 ci:w.cell? ⟨i,0,none⟩=some (.iface 216 (.pointer (some (addrAt w i))))
 cj:w.cell? ⟨j,0,none⟩=some (.iface 216 (.pointer (some (addrAt w j))))
 ri:∃ c t,w.heap[(addrAt w i).block]?=some (.cells c t (0,0))
 rj:∃ c t,w.heap[(addrAt w j).block]?=some (.cells c t (0,0))
 ne:addrAt w i≠addrAt w j
theorem pair_of {w:World} {n0 n1:String} {i j:Nat} {t0 t1:List UInt8} (hi:Tryz.prog.globalNamed n0=some i) (hj:Tryz.prog.globalNamed n1=some j)
  (h:∃ (a0 a1:Addr) (s0 s1:ByteArray) (c0 c1:Array Value) (u0 u1:TypeId),w.var? Tryz.prog n0=some #[.iface 216 (.pointer (some a0))]∧w.var? Tryz.prog n1=some #[.iface 216 (.pointer (some a1))] ∧
   w.cell? a0=some (.string s0)∧s0.data.toList=t0∧s0.size≤maxLen∧w.cell? a1=some (.string s1)∧s1.data.toList=t1∧s1.size≤maxLen∧a0≠a1 ∧
   w.heap[a0.block]?=some (.cells c0 u0 (0,0))∧w.heap[a1.block]?=some (.cells c1 u1 (0,0))):Pair w i j:=by
 obtain ⟨a0,a1,s0,s1,c0,c1,u0,u1,h0,h1,_,_,_,_,_,_,hne,hb0,hb1⟩:=h
 have e0:w.cell? ⟨i,0,none⟩=some (.iface 216 (.pointer (some a0))):=by have:=World.var?_cell hi h0 0;simpa using this
 have e1:w.cell? ⟨j,0,none⟩=some (.iface 216 (.pointer (some a1))):=by have:=World.var?_cell hj h1 0;simpa using this
 have f0:addrAt w i=a0:=by unfold addrAt;rw [e0]
 have f1:addrAt w j=a1:=by unfold addrAt;rw [e1]
 exact ⟨by rw [f0];exact e0,by rw [f1];exact e1,⟨c0,u0,by rw [f0];exact hb0⟩,⟨c1,u1,by rw [f1];exact hb1⟩,by rw [f0,f1];exact hne⟩
theorem gn0:Tryz.prog.globalNamed "loop.example/replayverifier/impl.errText" = some 0:=by kernel_rfl
theorem gt0:(Tryz.prog.globals[0]?).map (·.type)=some 61:=by kernel_rfl
theorem gn1:Tryz.prog.globalNamed "loop.example/replayverifier/impl.errLevel" = some 1:=by kernel_rfl
theorem gt1:(Tryz.prog.globals[1]?).map (·.type)=some 61:=by kernel_rfl
theorem gn2:Tryz.prog.globalNamed "loop.example/replayverifier/impl.errKey" = some 2:=by kernel_rfl
theorem gt2:(Tryz.prog.globals[2]?).map (·.type)=some 61:=by kernel_rfl
theorem gn3:Tryz.prog.globalNamed "loop.example/replayverifier/impl.errTag" = some 3:=by kernel_rfl
theorem gt3:(Tryz.prog.globals[3]?).map (·.type)=some 61:=by kernel_rfl
theorem gn4:Tryz.prog.globalNamed "loop.example/replayverifier/impl.errInput" = some 4:=by kernel_rfl
theorem gt4:(Tryz.prog.globals[4]?).map (·.type)=some 61:=by kernel_rfl
theorem gn5:Tryz.prog.globalNamed "loop.example/replayverifier/impl.errRange" = some 5:=by kernel_rfl
theorem gt5:(Tryz.prog.globals[5]?).map (·.type)=some 61:=by kernel_rfl
theorem gn6:Tryz.prog.globalNamed "loop.example/replayverifier/impl.errHash" = some 6:=by kernel_rfl
theorem gt6:(Tryz.prog.globals[6]?).map (·.type)=some 61:=by kernel_rfl
theorem gn7:Tryz.prog.globalNamed "loop.example/replayverifier/impl.errOpen" = some 7:=by kernel_rfl
theorem gt7:(Tryz.prog.globals[7]?).map (·.type)=some 61:=by kernel_rfl
theorem gn8:Tryz.prog.globalNamed "loop.example/replayverifier/impl.errScore" = some 8:=by kernel_rfl
theorem gt8:(Tryz.prog.globals[8]?).map (·.type)=some 61:=by kernel_rfl
theorem pr01 {w:World} (h:laidMet Tryz.prog Rows.fnOrderRow.laid w):Pair w 0 1 :=
 pair_of gn0 gn1 (laid_sentinels2 (r:=[]) (h.filter (fun x=>x.1 == "loop.example/replayverifier/impl.errText" || x.1 == "loop.example/replayverifier/impl.errLevel")) gn0 gt0 gn1 gt1 Tryz.underlying61 row_star Tryz.underlying216 Tryz.underlying240 rfl rfl Tryz.underlying9 (by kernel_rfl) (by kernel_rfl))
theorem pr02 {w:World} (h:laidMet Tryz.prog Rows.fnOrderRow.laid w):Pair w 0 2 :=
 pair_of gn0 gn2 (laid_sentinels2 (r:=[]) (h.filter (fun x=>x.1 == "loop.example/replayverifier/impl.errText" || x.1 == "loop.example/replayverifier/impl.errKey")) gn0 gt0 gn2 gt2 Tryz.underlying61 row_star Tryz.underlying216 Tryz.underlying240 rfl rfl Tryz.underlying9 (by kernel_rfl) (by kernel_rfl))
theorem pr03 {w:World} (h:laidMet Tryz.prog Rows.fnOrderRow.laid w):Pair w 0 3 :=
 pair_of gn0 gn3 (laid_sentinels2 (r:=[]) (h.filter (fun x=>x.1 == "loop.example/replayverifier/impl.errText" || x.1 == "loop.example/replayverifier/impl.errTag")) gn0 gt0 gn3 gt3 Tryz.underlying61 row_star Tryz.underlying216 Tryz.underlying240 rfl rfl Tryz.underlying9 (by kernel_rfl) (by kernel_rfl))
theorem pr04 {w:World} (h:laidMet Tryz.prog Rows.fnOrderRow.laid w):Pair w 0 4 :=
 pair_of gn0 gn4 (laid_sentinels2 (r:=[]) (h.filter (fun x=>x.1 == "loop.example/replayverifier/impl.errText" || x.1 == "loop.example/replayverifier/impl.errInput")) gn0 gt0 gn4 gt4 Tryz.underlying61 row_star Tryz.underlying216 Tryz.underlying240 rfl rfl Tryz.underlying9 (by kernel_rfl) (by kernel_rfl))
theorem pr05 {w:World} (h:laidMet Tryz.prog Rows.fnOrderRow.laid w):Pair w 0 5 :=
 pair_of gn0 gn5 (laid_sentinels2 (r:=[]) (h.filter (fun x=>x.1 == "loop.example/replayverifier/impl.errText" || x.1 == "loop.example/replayverifier/impl.errRange")) gn0 gt0 gn5 gt5 Tryz.underlying61 row_star Tryz.underlying216 Tryz.underlying240 rfl rfl Tryz.underlying9 (by kernel_rfl) (by kernel_rfl))
theorem pr06 {w:World} (h:laidMet Tryz.prog Rows.fnOrderRow.laid w):Pair w 0 6 :=
 pair_of gn0 gn6 (laid_sentinels2 (r:=[]) (h.filter (fun x=>x.1 == "loop.example/replayverifier/impl.errText" || x.1 == "loop.example/replayverifier/impl.errHash")) gn0 gt0 gn6 gt6 Tryz.underlying61 row_star Tryz.underlying216 Tryz.underlying240 rfl rfl Tryz.underlying9 (by kernel_rfl) (by kernel_rfl))
theorem pr07 {w:World} (h:laidMet Tryz.prog Rows.fnOrderRow.laid w):Pair w 0 7 :=
 pair_of gn0 gn7 (laid_sentinels2 (r:=[]) (h.filter (fun x=>x.1 == "loop.example/replayverifier/impl.errText" || x.1 == "loop.example/replayverifier/impl.errOpen")) gn0 gt0 gn7 gt7 Tryz.underlying61 row_star Tryz.underlying216 Tryz.underlying240 rfl rfl Tryz.underlying9 (by kernel_rfl) (by kernel_rfl))
theorem pr08 {w:World} (h:laidMet Tryz.prog Rows.fnOrderRow.laid w):Pair w 0 8 :=
 pair_of gn0 gn8 (laid_sentinels2 (r:=[]) (h.filter (fun x=>x.1 == "loop.example/replayverifier/impl.errText" || x.1 == "loop.example/replayverifier/impl.errScore")) gn0 gt0 gn8 gt8 Tryz.underlying61 row_star Tryz.underlying216 Tryz.underlying240 rfl rfl Tryz.underlying9 (by kernel_rfl) (by kernel_rfl))
theorem pr12 {w:World} (h:laidMet Tryz.prog Rows.fnOrderRow.laid w):Pair w 1 2 :=
 pair_of gn1 gn2 (laid_sentinels2 (r:=[]) (h.filter (fun x=>x.1 == "loop.example/replayverifier/impl.errLevel" || x.1 == "loop.example/replayverifier/impl.errKey")) gn1 gt1 gn2 gt2 Tryz.underlying61 row_star Tryz.underlying216 Tryz.underlying240 rfl rfl Tryz.underlying9 (by kernel_rfl) (by kernel_rfl))
theorem pr13 {w:World} (h:laidMet Tryz.prog Rows.fnOrderRow.laid w):Pair w 1 3 :=
 pair_of gn1 gn3 (laid_sentinels2 (r:=[]) (h.filter (fun x=>x.1 == "loop.example/replayverifier/impl.errLevel" || x.1 == "loop.example/replayverifier/impl.errTag")) gn1 gt1 gn3 gt3 Tryz.underlying61 row_star Tryz.underlying216 Tryz.underlying240 rfl rfl Tryz.underlying9 (by kernel_rfl) (by kernel_rfl))
theorem pr14 {w:World} (h:laidMet Tryz.prog Rows.fnOrderRow.laid w):Pair w 1 4 :=
 pair_of gn1 gn4 (laid_sentinels2 (r:=[]) (h.filter (fun x=>x.1 == "loop.example/replayverifier/impl.errLevel" || x.1 == "loop.example/replayverifier/impl.errInput")) gn1 gt1 gn4 gt4 Tryz.underlying61 row_star Tryz.underlying216 Tryz.underlying240 rfl rfl Tryz.underlying9 (by kernel_rfl) (by kernel_rfl))
theorem pr15 {w:World} (h:laidMet Tryz.prog Rows.fnOrderRow.laid w):Pair w 1 5 :=
 pair_of gn1 gn5 (laid_sentinels2 (r:=[]) (h.filter (fun x=>x.1 == "loop.example/replayverifier/impl.errLevel" || x.1 == "loop.example/replayverifier/impl.errRange")) gn1 gt1 gn5 gt5 Tryz.underlying61 row_star Tryz.underlying216 Tryz.underlying240 rfl rfl Tryz.underlying9 (by kernel_rfl) (by kernel_rfl))
theorem pr16 {w:World} (h:laidMet Tryz.prog Rows.fnOrderRow.laid w):Pair w 1 6 :=
 pair_of gn1 gn6 (laid_sentinels2 (r:=[]) (h.filter (fun x=>x.1 == "loop.example/replayverifier/impl.errLevel" || x.1 == "loop.example/replayverifier/impl.errHash")) gn1 gt1 gn6 gt6 Tryz.underlying61 row_star Tryz.underlying216 Tryz.underlying240 rfl rfl Tryz.underlying9 (by kernel_rfl) (by kernel_rfl))
theorem pr17 {w:World} (h:laidMet Tryz.prog Rows.fnOrderRow.laid w):Pair w 1 7 :=
 pair_of gn1 gn7 (laid_sentinels2 (r:=[]) (h.filter (fun x=>x.1 == "loop.example/replayverifier/impl.errLevel" || x.1 == "loop.example/replayverifier/impl.errOpen")) gn1 gt1 gn7 gt7 Tryz.underlying61 row_star Tryz.underlying216 Tryz.underlying240 rfl rfl Tryz.underlying9 (by kernel_rfl) (by kernel_rfl))
theorem pr18 {w:World} (h:laidMet Tryz.prog Rows.fnOrderRow.laid w):Pair w 1 8 :=
 pair_of gn1 gn8 (laid_sentinels2 (r:=[]) (h.filter (fun x=>x.1 == "loop.example/replayverifier/impl.errLevel" || x.1 == "loop.example/replayverifier/impl.errScore")) gn1 gt1 gn8 gt8 Tryz.underlying61 row_star Tryz.underlying216 Tryz.underlying240 rfl rfl Tryz.underlying9 (by kernel_rfl) (by kernel_rfl))
theorem pr23 {w:World} (h:laidMet Tryz.prog Rows.fnOrderRow.laid w):Pair w 2 3 :=
 pair_of gn2 gn3 (laid_sentinels2 (r:=[]) (h.filter (fun x=>x.1 == "loop.example/replayverifier/impl.errKey" || x.1 == "loop.example/replayverifier/impl.errTag")) gn2 gt2 gn3 gt3 Tryz.underlying61 row_star Tryz.underlying216 Tryz.underlying240 rfl rfl Tryz.underlying9 (by kernel_rfl) (by kernel_rfl))
theorem pr24 {w:World} (h:laidMet Tryz.prog Rows.fnOrderRow.laid w):Pair w 2 4 :=
 pair_of gn2 gn4 (laid_sentinels2 (r:=[]) (h.filter (fun x=>x.1 == "loop.example/replayverifier/impl.errKey" || x.1 == "loop.example/replayverifier/impl.errInput")) gn2 gt2 gn4 gt4 Tryz.underlying61 row_star Tryz.underlying216 Tryz.underlying240 rfl rfl Tryz.underlying9 (by kernel_rfl) (by kernel_rfl))
theorem pr25 {w:World} (h:laidMet Tryz.prog Rows.fnOrderRow.laid w):Pair w 2 5 :=
 pair_of gn2 gn5 (laid_sentinels2 (r:=[]) (h.filter (fun x=>x.1 == "loop.example/replayverifier/impl.errKey" || x.1 == "loop.example/replayverifier/impl.errRange")) gn2 gt2 gn5 gt5 Tryz.underlying61 row_star Tryz.underlying216 Tryz.underlying240 rfl rfl Tryz.underlying9 (by kernel_rfl) (by kernel_rfl))
theorem pr26 {w:World} (h:laidMet Tryz.prog Rows.fnOrderRow.laid w):Pair w 2 6 :=
 pair_of gn2 gn6 (laid_sentinels2 (r:=[]) (h.filter (fun x=>x.1 == "loop.example/replayverifier/impl.errKey" || x.1 == "loop.example/replayverifier/impl.errHash")) gn2 gt2 gn6 gt6 Tryz.underlying61 row_star Tryz.underlying216 Tryz.underlying240 rfl rfl Tryz.underlying9 (by kernel_rfl) (by kernel_rfl))
theorem pr27 {w:World} (h:laidMet Tryz.prog Rows.fnOrderRow.laid w):Pair w 2 7 :=
 pair_of gn2 gn7 (laid_sentinels2 (r:=[]) (h.filter (fun x=>x.1 == "loop.example/replayverifier/impl.errKey" || x.1 == "loop.example/replayverifier/impl.errOpen")) gn2 gt2 gn7 gt7 Tryz.underlying61 row_star Tryz.underlying216 Tryz.underlying240 rfl rfl Tryz.underlying9 (by kernel_rfl) (by kernel_rfl))
theorem pr28 {w:World} (h:laidMet Tryz.prog Rows.fnOrderRow.laid w):Pair w 2 8 :=
 pair_of gn2 gn8 (laid_sentinels2 (r:=[]) (h.filter (fun x=>x.1 == "loop.example/replayverifier/impl.errKey" || x.1 == "loop.example/replayverifier/impl.errScore")) gn2 gt2 gn8 gt8 Tryz.underlying61 row_star Tryz.underlying216 Tryz.underlying240 rfl rfl Tryz.underlying9 (by kernel_rfl) (by kernel_rfl))
theorem pr34 {w:World} (h:laidMet Tryz.prog Rows.fnOrderRow.laid w):Pair w 3 4 :=
 pair_of gn3 gn4 (laid_sentinels2 (r:=[]) (h.filter (fun x=>x.1 == "loop.example/replayverifier/impl.errTag" || x.1 == "loop.example/replayverifier/impl.errInput")) gn3 gt3 gn4 gt4 Tryz.underlying61 row_star Tryz.underlying216 Tryz.underlying240 rfl rfl Tryz.underlying9 (by kernel_rfl) (by kernel_rfl))
theorem pr35 {w:World} (h:laidMet Tryz.prog Rows.fnOrderRow.laid w):Pair w 3 5 :=
 pair_of gn3 gn5 (laid_sentinels2 (r:=[]) (h.filter (fun x=>x.1 == "loop.example/replayverifier/impl.errTag" || x.1 == "loop.example/replayverifier/impl.errRange")) gn3 gt3 gn5 gt5 Tryz.underlying61 row_star Tryz.underlying216 Tryz.underlying240 rfl rfl Tryz.underlying9 (by kernel_rfl) (by kernel_rfl))
theorem pr36 {w:World} (h:laidMet Tryz.prog Rows.fnOrderRow.laid w):Pair w 3 6 :=
 pair_of gn3 gn6 (laid_sentinels2 (r:=[]) (h.filter (fun x=>x.1 == "loop.example/replayverifier/impl.errTag" || x.1 == "loop.example/replayverifier/impl.errHash")) gn3 gt3 gn6 gt6 Tryz.underlying61 row_star Tryz.underlying216 Tryz.underlying240 rfl rfl Tryz.underlying9 (by kernel_rfl) (by kernel_rfl))
theorem pr37 {w:World} (h:laidMet Tryz.prog Rows.fnOrderRow.laid w):Pair w 3 7 :=
 pair_of gn3 gn7 (laid_sentinels2 (r:=[]) (h.filter (fun x=>x.1 == "loop.example/replayverifier/impl.errTag" || x.1 == "loop.example/replayverifier/impl.errOpen")) gn3 gt3 gn7 gt7 Tryz.underlying61 row_star Tryz.underlying216 Tryz.underlying240 rfl rfl Tryz.underlying9 (by kernel_rfl) (by kernel_rfl))
theorem pr38 {w:World} (h:laidMet Tryz.prog Rows.fnOrderRow.laid w):Pair w 3 8 :=
 pair_of gn3 gn8 (laid_sentinels2 (r:=[]) (h.filter (fun x=>x.1 == "loop.example/replayverifier/impl.errTag" || x.1 == "loop.example/replayverifier/impl.errScore")) gn3 gt3 gn8 gt8 Tryz.underlying61 row_star Tryz.underlying216 Tryz.underlying240 rfl rfl Tryz.underlying9 (by kernel_rfl) (by kernel_rfl))
theorem pr45 {w:World} (h:laidMet Tryz.prog Rows.fnOrderRow.laid w):Pair w 4 5 :=
 pair_of gn4 gn5 (laid_sentinels2 (r:=[]) (h.filter (fun x=>x.1 == "loop.example/replayverifier/impl.errInput" || x.1 == "loop.example/replayverifier/impl.errRange")) gn4 gt4 gn5 gt5 Tryz.underlying61 row_star Tryz.underlying216 Tryz.underlying240 rfl rfl Tryz.underlying9 (by kernel_rfl) (by kernel_rfl))
theorem pr46 {w:World} (h:laidMet Tryz.prog Rows.fnOrderRow.laid w):Pair w 4 6 :=
 pair_of gn4 gn6 (laid_sentinels2 (r:=[]) (h.filter (fun x=>x.1 == "loop.example/replayverifier/impl.errInput" || x.1 == "loop.example/replayverifier/impl.errHash")) gn4 gt4 gn6 gt6 Tryz.underlying61 row_star Tryz.underlying216 Tryz.underlying240 rfl rfl Tryz.underlying9 (by kernel_rfl) (by kernel_rfl))
theorem pr47 {w:World} (h:laidMet Tryz.prog Rows.fnOrderRow.laid w):Pair w 4 7 :=
 pair_of gn4 gn7 (laid_sentinels2 (r:=[]) (h.filter (fun x=>x.1 == "loop.example/replayverifier/impl.errInput" || x.1 == "loop.example/replayverifier/impl.errOpen")) gn4 gt4 gn7 gt7 Tryz.underlying61 row_star Tryz.underlying216 Tryz.underlying240 rfl rfl Tryz.underlying9 (by kernel_rfl) (by kernel_rfl))
theorem pr48 {w:World} (h:laidMet Tryz.prog Rows.fnOrderRow.laid w):Pair w 4 8 :=
 pair_of gn4 gn8 (laid_sentinels2 (r:=[]) (h.filter (fun x=>x.1 == "loop.example/replayverifier/impl.errInput" || x.1 == "loop.example/replayverifier/impl.errScore")) gn4 gt4 gn8 gt8 Tryz.underlying61 row_star Tryz.underlying216 Tryz.underlying240 rfl rfl Tryz.underlying9 (by kernel_rfl) (by kernel_rfl))
theorem pr56 {w:World} (h:laidMet Tryz.prog Rows.fnOrderRow.laid w):Pair w 5 6 :=
 pair_of gn5 gn6 (laid_sentinels2 (r:=[]) (h.filter (fun x=>x.1 == "loop.example/replayverifier/impl.errRange" || x.1 == "loop.example/replayverifier/impl.errHash")) gn5 gt5 gn6 gt6 Tryz.underlying61 row_star Tryz.underlying216 Tryz.underlying240 rfl rfl Tryz.underlying9 (by kernel_rfl) (by kernel_rfl))
theorem pr57 {w:World} (h:laidMet Tryz.prog Rows.fnOrderRow.laid w):Pair w 5 7 :=
 pair_of gn5 gn7 (laid_sentinels2 (r:=[]) (h.filter (fun x=>x.1 == "loop.example/replayverifier/impl.errRange" || x.1 == "loop.example/replayverifier/impl.errOpen")) gn5 gt5 gn7 gt7 Tryz.underlying61 row_star Tryz.underlying216 Tryz.underlying240 rfl rfl Tryz.underlying9 (by kernel_rfl) (by kernel_rfl))
theorem pr58 {w:World} (h:laidMet Tryz.prog Rows.fnOrderRow.laid w):Pair w 5 8 :=
 pair_of gn5 gn8 (laid_sentinels2 (r:=[]) (h.filter (fun x=>x.1 == "loop.example/replayverifier/impl.errRange" || x.1 == "loop.example/replayverifier/impl.errScore")) gn5 gt5 gn8 gt8 Tryz.underlying61 row_star Tryz.underlying216 Tryz.underlying240 rfl rfl Tryz.underlying9 (by kernel_rfl) (by kernel_rfl))
theorem pr67 {w:World} (h:laidMet Tryz.prog Rows.fnOrderRow.laid w):Pair w 6 7 :=
 pair_of gn6 gn7 (laid_sentinels2 (r:=[]) (h.filter (fun x=>x.1 == "loop.example/replayverifier/impl.errHash" || x.1 == "loop.example/replayverifier/impl.errOpen")) gn6 gt6 gn7 gt7 Tryz.underlying61 row_star Tryz.underlying216 Tryz.underlying240 rfl rfl Tryz.underlying9 (by kernel_rfl) (by kernel_rfl))
theorem pr68 {w:World} (h:laidMet Tryz.prog Rows.fnOrderRow.laid w):Pair w 6 8 :=
 pair_of gn6 gn8 (laid_sentinels2 (r:=[]) (h.filter (fun x=>x.1 == "loop.example/replayverifier/impl.errHash" || x.1 == "loop.example/replayverifier/impl.errScore")) gn6 gt6 gn8 gt8 Tryz.underlying61 row_star Tryz.underlying216 Tryz.underlying240 rfl rfl Tryz.underlying9 (by kernel_rfl) (by kernel_rfl))
theorem pr78 {w:World} (h:laidMet Tryz.prog Rows.fnOrderRow.laid w):Pair w 7 8 :=
 pair_of gn7 gn8 (laid_sentinels2 (r:=[]) (h.filter (fun x=>x.1 == "loop.example/replayverifier/impl.errOpen" || x.1 == "loop.example/replayverifier/impl.errScore")) gn7 gt7 gn8 gt8 Tryz.underlying61 row_star Tryz.underlying216 Tryz.underlying240 rfl rfl Tryz.underlying9 (by kernel_rfl) (by kernel_rfl))
theorem pairs_ {w:World} (h:laidMet Tryz.prog Rows.fnOrderRow.laid w) (i j:Nat) (hij:i<j) (hj:j<9):Pair w i j:=by
 have hi:i=0∨i=1∨i=2∨i=3∨i=4∨i=5∨i=6∨i=7:=by omega
 have hj2:j=1∨j=2∨j=3∨j=4∨j=5∨j=6∨j=7∨j=8:=by omega
 rcases hi with rfl|rfl|rfl|rfl|rfl|rfl|rfl|rfl
 ·rcases hj2 with rfl|rfl|rfl|rfl|rfl|rfl|rfl|rfl
  ·exact pr01 h
  ·exact pr02 h
  ·exact pr03 h
  ·exact pr04 h
  ·exact pr05 h
  ·exact pr06 h
  ·exact pr07 h
  ·exact pr08 h
 ·rcases hj2 with rfl|rfl|rfl|rfl|rfl|rfl|rfl|rfl
  ·omega
  ·exact pr12 h
  ·exact pr13 h
  ·exact pr14 h
  ·exact pr15 h
  ·exact pr16 h
  ·exact pr17 h
  ·exact pr18 h
 ·rcases hj2 with rfl|rfl|rfl|rfl|rfl|rfl|rfl|rfl
  ·omega
  ·omega
  ·exact pr23 h
  ·exact pr24 h
  ·exact pr25 h
  ·exact pr26 h
  ·exact pr27 h
  ·exact pr28 h
 ·rcases hj2 with rfl|rfl|rfl|rfl|rfl|rfl|rfl|rfl
  ·omega
  ·omega
  ·omega
  ·exact pr34 h
  ·exact pr35 h
  ·exact pr36 h
  ·exact pr37 h
  ·exact pr38 h
 ·rcases hj2 with rfl|rfl|rfl|rfl|rfl|rfl|rfl|rfl
  ·omega
  ·omega
  ·omega
  ·omega
  ·exact pr45 h
  ·exact pr46 h
  ·exact pr47 h
  ·exact pr48 h
 ·rcases hj2 with rfl|rfl|rfl|rfl|rfl|rfl|rfl|rfl
  ·omega
  ·omega
  ·omega
  ·omega
  ·omega
  ·exact pr56 h
  ·exact pr57 h
  ·exact pr58 h
 ·rcases hj2 with rfl|rfl|rfl|rfl|rfl|rfl|rfl|rfl
  ·omega
  ·omega
  ·omega
  ·omega
  ·omega
  ·omega
  ·exact pr67 h
  ·exact pr68 h
 ·rcases hj2 with rfl|rfl|rfl|rfl|rfl|rfl|rfl|rfl
  ·omega
  ·omega
  ·omega
  ·omega
  ·omega
  ·omega
  ·omega
  ·exact pr78 h
theorem errs_ {w:World} (h:laidMet Tryz.prog Rows.fnOrderRow.laid w):Go.Proofs.YtpcjdalgebgofaaGreatDoorY.Errs (addrAt w) w:=by
 refine ⟨fun i hi=>?_,fun i hi=>?_,fun i j hi hj hne=>?_⟩
 ·rcases Nat.eq_zero_or_pos i with rfl|h0
  ·exact (pairs_ h 0 1 (by omega) (by omega)).ci
  ·exact (pairs_ h 0 i h0 hi).cj
 ·rcases Nat.eq_zero_or_pos i with rfl|h0
  ·exact (pairs_ h 0 1 (by omega) (by omega)).ri
  ·exact (pairs_ h 0 i h0 hi).rj
 ·rcases Nat.lt_or_gt_of_ne hne with h1|h1
  ·exact (pairs_ h i j h1 hj).ne
  ·exact (pairs_ h j i h1 hi).ne.symm
theorem errs_scrub {E:Nat→Addr} {w:World} {τ:Tape} (h:Go.Proofs.YtpcjdalgebgofaaGreatDoorY.Errs E w):Go.Proofs.YtpcjdalgebgofaaGreatDoorY.Errs E (Worldon (scrub w) τ):=by
 refine ⟨fun i hi=>scrub_cell (h.cell i hi),fun i hi=>?_,h.ne⟩
 obtain ⟨c,t,hc⟩:=h.row i hi
 exact ⟨c,t,scrub_cells hc⟩
theorem bytes_scrub {w:World} {A:Option Addr} {n:Nat} {zs:List Int} {τ:Tape} (h:RdI .u8 w A n zs):Go.Proofs.YtpcjdalgebgofaaGreatDoorY.RdI .u8 (Worldon (scrub w) τ) A n zs:=by
 refine ⟨h.1,fun hn=>?_⟩
 obtain ⟨b,off,hA,hb,hc⟩:=h.2 hn
 exact ⟨b,off,hA,(by show b<(scrub w).heap.size;simpa [scrub] using hb),fun j z hz=>scrub_cell (hc j z hz)⟩
theorem run_ {f0:FuncId} {args:Array Value} {W:World} {Post:Value→World→Prop} (hf:f0≠54) (hk:Qy.keep f0=true) (hi:Tryz.prog.inits.idxOf? f0=none) (hs:W.ShapedOpen Tryz.prog)
  (walk:∀ τ:Tape,Calls Qy.prog f0 args (Worldon (scrub W) τ) fun e w'=>e=.returned (.bool true)∧Below (Worldon (scrub W) τ).heap.size (Worldon (scrub W) τ) w')
  (post:∀ w':World,Below W.heap.size W { w' with tape:=W.tape }→Post (.bool true) w') :
  ∃ N last o w' t',runNT Tryz.prog (N+1) (solo (G (Frame.enter Tryz.prog f0 args .normal) []) W) #[]=(.ended o w',t')∧runN Tryz.prog N (solo (G (Frame.enter Tryz.prog f0 args .normal) []) W)=.next last∧step Tryz.prog last=.ended o w'∧Conc.Good Tryz.prog Post last o w' t':=by
 obtain ⟨hbig,hodd⟩:=shaped_odd laid0_ hs
 refine bridge (R:=LawR W) kin_ kinQ_ (fun f hf=>by subst hf;exact Go.Proofs.YtpcjdalgebgofaaGreatDoorY.specOK_d) hi hf (mkF_keep hf hk) hbig hodd (fun x v w' S hS ht hR=>?_) fun τ=>(walk τ).mono fun e w' h=>⟨.bool true,h.1,lawR_of h.2⟩
 obtain rfl:=hR.1
 exact post w' (below_twin hS ht hR)
end Go.Proofs.YtpcjdalgebgofaaGreatDoor

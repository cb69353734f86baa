/-
  DERIVED. GIVEN WITH THE SEED: THE PROGRAM's TIES (one call each: nine closed facts by the kernel) AND EACH ROW's TIE, after the 31st guide's Derived/Test/Toyas{Tie, Card}.lean. No idea stands in it: it is a product of the set-up. Laid BY PROGRAM, IN A SANDBOX (cutbox-door.mjs). By AI agents, Wed Nov 11 2026. No macro, syntax, notation, axiom, sorry.
-/
import Derived.Test.YtpcjdalgebgofaaGreatDoorRows
import Derived.LaidByTextLater
import Derived.SevenTiedAt
import Derived.LaidSub
import Derived.LaidOnce
namespace Go.Proofs.YtpcjdalgebgofaaGreatDoor
open Go
set_option maxRecDepth 100000
theorem seatTie1 : Tryz.prog.laidByTextLater [("loop.example/replayverifier/impl.errText", Rows.laid_loop_example_replayverifier_impl_errText), ("loop.example/replayverifier/impl.errLevel", Rows.laid_loop_example_replayverifier_impl_errLevel), ("loop.example/replayverifier/impl.errKey", Rows.laid_loop_example_replayverifier_impl_errKey), ("loop.example/replayverifier/impl.errTag", Rows.laid_loop_example_replayverifier_impl_errTag), ("loop.example/replayverifier/impl.errInput", Rows.laid_loop_example_replayverifier_impl_errInput), ("loop.example/replayverifier/impl.errRange", Rows.laid_loop_example_replayverifier_impl_errRange), ("loop.example/replayverifier/impl.errHash", Rows.laid_loop_example_replayverifier_impl_errHash), ("loop.example/replayverifier/impl.errOpen", Rows.laid_loop_example_replayverifier_impl_errOpen), ("loop.example/replayverifier/impl.errScore", Rows.laid_loop_example_replayverifier_impl_errScore)] [.sentinel, .sentinel, .sentinel, .sentinel, .sentinel, .sentinel, .sentinel, .sentinel, .sentinel] true :=
  Program.laidByTextLater_by_one 180 8 2 (by kernel_rfl) (by kernel_rfl) (by kernel_rfl) (by kernel_rfl) (by kernel_rfl) (by kernel_rfl) (fun _ _ => by kernel_rfl)
theorem noOwnUnsafe : Tryz.pinned.checked.prog.headLifts.contains "ownunsafe" = false := by kernel_rfl
theorem tie : Tryz.prog.laidByTextLater [("loop.example/replayverifier/impl.errText", Rows.laid_loop_example_replayverifier_impl_errText), ("loop.example/replayverifier/impl.errLevel", Rows.laid_loop_example_replayverifier_impl_errLevel), ("loop.example/replayverifier/impl.errKey", Rows.laid_loop_example_replayverifier_impl_errKey), ("loop.example/replayverifier/impl.errTag", Rows.laid_loop_example_replayverifier_impl_errTag), ("loop.example/replayverifier/impl.errInput", Rows.laid_loop_example_replayverifier_impl_errInput), ("loop.example/replayverifier/impl.errRange", Rows.laid_loop_example_replayverifier_impl_errRange), ("loop.example/replayverifier/impl.errHash", Rows.laid_loop_example_replayverifier_impl_errHash), ("loop.example/replayverifier/impl.errOpen", Rows.laid_loop_example_replayverifier_impl_errOpen), ("loop.example/replayverifier/impl.errScore", Rows.laid_loop_example_replayverifier_impl_errScore)] [.sentinel, .sentinel, .sentinel, .sentinel, .sentinel, .sentinel, .sentinel, .sentinel, .sentinel] true :=
  Program.laidByTextLater.sub seatTie1 ["loop.example/replayverifier/impl.errText", "loop.example/replayverifier/impl.errLevel", "loop.example/replayverifier/impl.errKey", "loop.example/replayverifier/impl.errTag", "loop.example/replayverifier/impl.errInput", "loop.example/replayverifier/impl.errRange", "loop.example/replayverifier/impl.errHash", "loop.example/replayverifier/impl.errOpen", "loop.example/replayverifier/impl.errScore"] (by kernel_rfl) (by kernel_rfl)
theorem fnFineTag_row_tie : Rows.fnFineTagRow.laidByTextAt .later Tryz.pinned [.sentinel, .sentinel, .sentinel, .sentinel, .sentinel, .sentinel, .sentinel, .sentinel, .sentinel] true :=
  OpenClaim.laidByTextAt_later rfl rfl tie noOwnUnsafe
theorem fnOrder_row_tie : Rows.fnOrderRow.laidByTextAt .later Tryz.pinned [.sentinel, .sentinel, .sentinel, .sentinel, .sentinel, .sentinel, .sentinel, .sentinel, .sentinel] true :=
  OpenClaim.laidByTextAt_later rfl rfl tie noOwnUnsafe
theorem fnOrderRun_row_tie : Rows.fnOrderRunRow.laidByTextAt .later Tryz.pinned [.sentinel, .sentinel, .sentinel, .sentinel, .sentinel, .sentinel, .sentinel, .sentinel, .sentinel] true :=
  OpenClaim.laidByTextAt_later rfl rfl tie noOwnUnsafe
theorem fnFine_row_tie : Rows.fnFineRow.laidByTextAt .later Tryz.pinned [.sentinel, .sentinel, .sentinel, .sentinel, .sentinel, .sentinel, .sentinel, .sentinel, .sentinel] true :=
  OpenClaim.laidByTextAt_later rfl rfl tie noOwnUnsafe
theorem fnFineHash_row_tie : Rows.fnFineHashRow.laidByTextAt .later Tryz.pinned [.sentinel, .sentinel, .sentinel, .sentinel, .sentinel, .sentinel, .sentinel, .sentinel, .sentinel] true :=
  OpenClaim.laidByTextAt_later rfl rfl tie noOwnUnsafe
theorem fnTickFine_row_tie : Rows.fnTickFineRow.laidByTextAt .later Tryz.pinned [.sentinel, .sentinel, .sentinel, .sentinel, .sentinel, .sentinel, .sentinel, .sentinel, .sentinel] true :=
  OpenClaim.laidByTextAt_later rfl rfl tie noOwnUnsafe
theorem fnFineTagUpto_row_tie : Rows.fnFineTagUptoRow.laidByTextAt .later Tryz.pinned [.sentinel, .sentinel, .sentinel, .sentinel, .sentinel, .sentinel, .sentinel, .sentinel, .sentinel] true :=
  OpenClaim.laidByTextAt_later rfl rfl tie noOwnUnsafe
theorem fnOrderUpto_row_tie : Rows.fnOrderUptoRow.laidByTextAt .later Tryz.pinned [.sentinel, .sentinel, .sentinel, .sentinel, .sentinel, .sentinel, .sentinel, .sentinel, .sentinel] true :=
  OpenClaim.laidByTextAt_later rfl rfl tie noOwnUnsafe
theorem fnOrderRunUpto_row_tie : Rows.fnOrderRunUptoRow.laidByTextAt .later Tryz.pinned [.sentinel, .sentinel, .sentinel, .sentinel, .sentinel, .sentinel, .sentinel, .sentinel, .sentinel] true :=
  OpenClaim.laidByTextAt_later rfl rfl tie noOwnUnsafe
theorem fnFineUpto_row_tie : Rows.fnFineUptoRow.laidByTextAt .later Tryz.pinned [.sentinel, .sentinel, .sentinel, .sentinel, .sentinel, .sentinel, .sentinel, .sentinel, .sentinel] true :=
  OpenClaim.laidByTextAt_later rfl rfl tie noOwnUnsafe
theorem fnFineHashUpto_row_tie : Rows.fnFineHashUptoRow.laidByTextAt .later Tryz.pinned [.sentinel, .sentinel, .sentinel, .sentinel, .sentinel, .sentinel, .sentinel, .sentinel, .sentinel] true :=
  OpenClaim.laidByTextAt_later rfl rfl tie noOwnUnsafe
theorem fnTickFineUpto_row_tie : Rows.fnTickFineUptoRow.laidByTextAt .later Tryz.pinned [.sentinel, .sentinel, .sentinel, .sentinel, .sentinel, .sentinel, .sentinel, .sentinel, .sentinel] true :=
  OpenClaim.laidByTextAt_later rfl rfl tie noOwnUnsafe
end Go.Proofs.YtpcjdalgebgofaaGreatDoor

/-
  DERIVED. GIVEN WITH THE SEED: THE CARDS: each row of YtkgfmgajhgfgjaaGreatDoorRows.lean that lists a variable, with what it lists TIED to the program's text (the seventh form; the later family's looks); each row that meets fmt, with fmt's text TOLD by the authors' own Lean function (tested against real Go, not proved from fmt's source: count such statements apart). THE CARD IS WHAT COUNTS. Prove the row's statement (the work); the ties are given (YtkgfmgajhgfgjaaGreatDoorTie.lean); close each card by the builder's one call (the guide's Derived/Test/ToyasCard.lean, 'card_holds'). Laid BY PROGRAM, IN A SANDBOX (cutbox-door.mjs). By AI agents, Wed Nov 11 2026. No macro, syntax, notation, axiom, sorry.
-/
import Derived.Test.YtkgfmgajhgfgjaaGreatDoorRows
import GoSem.ClaimSeven
namespace Go.Proofs.YtkgfmgajhgfgjaaGreatDoor
namespace Rows

/-- THE TIED CARD OF 'laws.FnSubmitHonest'. -/
def fnSubmitHonestCard : Claim7 := { stood := { row := fnSubmitHonestRow, standIns := [], harness := (true, "b0a1be76f220a99d07bf4ff6015560a876f1e9de50d8d9e73498c52e5c8aef0e"), looks := true }, kinds := [], alts := [], goes := true, laidByText := true, laidKinds := [.data, .data, .data, .data, .handle, .sentinel, .sentinel, .sentinel, .sentinel, .sentinel, .sentinel, .sentinel, .sentinel, .sentinel, .sentinel, .sentinel, .pinned], laidTests := true, laidLooks := .later }
def FnSubmitHonestCardSaid : Prop := Claim7.holds Tryz.pinned (.plain (OpenSpec.ofChange fnSubmitHonestSpec)) fnSubmitHonestCard

/-- THE TIED CARD OF 'laws.FnServiceInvalid'. -/
def fnServiceInvalidCard : Claim7 := { stood := { row := fnServiceInvalidRow, standIns := [], harness := (true, "b0a1be76f220a99d07bf4ff6015560a876f1e9de50d8d9e73498c52e5c8aef0e"), looks := true }, kinds := [], alts := [], goes := true, laidByText := true, laidKinds := [.data, .data, .data, .data, .handle, .sentinel, .sentinel, .sentinel, .sentinel, .sentinel, .sentinel, .sentinel, .sentinel, .sentinel, .sentinel, .sentinel, .pinned], laidTests := true, laidLooks := .later }
def FnServiceInvalidCardSaid : Prop := Claim7.holds Tryz.pinned (.plain (OpenSpec.ofChange fnServiceInvalidSpec)) fnServiceInvalidCard

/-- THE TIED CARD OF 'laws.FnSubmitOthers'. -/
def fnSubmitOthersCard : Claim7 := { stood := { row := fnSubmitOthersRow, standIns := [], harness := (true, "b0a1be76f220a99d07bf4ff6015560a876f1e9de50d8d9e73498c52e5c8aef0e"), looks := true }, kinds := [], alts := [], goes := true, laidByText := true, laidKinds := [.data, .data, .data, .data, .handle, .sentinel, .sentinel, .sentinel, .sentinel, .sentinel, .sentinel, .sentinel, .sentinel, .sentinel, .sentinel, .sentinel, .pinned], laidTests := true, laidLooks := .later }
def FnSubmitOthersCardSaid : Prop := Claim7.holds Tryz.pinned (.plain (OpenSpec.ofChange fnSubmitOthersSpec)) fnSubmitOthersCard

/-- THE TIED CARD OF 'laws.FnSubmitRefused'. -/
def fnSubmitRefusedCard : Claim7 := { stood := { row := fnSubmitRefusedRow, standIns := [], harness := (true, "b0a1be76f220a99d07bf4ff6015560a876f1e9de50d8d9e73498c52e5c8aef0e"), looks := true }, kinds := [], alts := [], goes := true, laidByText := true, laidKinds := [.data, .data, .data, .data, .handle, .sentinel, .sentinel, .sentinel, .sentinel, .sentinel, .sentinel, .sentinel, .sentinel, .sentinel, .sentinel, .sentinel, .pinned], laidTests := true, laidLooks := .later }
def FnSubmitRefusedCardSaid : Prop := Claim7.holds Tryz.pinned (.plain (OpenSpec.ofChange fnSubmitRefusedSpec)) fnSubmitRefusedCard

/-- THE TIED CARD OF 'laws.FnSubmitTwice'. -/
def fnSubmitTwiceCard : Claim7 := { stood := { row := fnSubmitTwiceRow, standIns := [], harness := (true, "b0a1be76f220a99d07bf4ff6015560a876f1e9de50d8d9e73498c52e5c8aef0e"), looks := true }, kinds := [], alts := [], goes := true, laidByText := true, laidKinds := [.data, .data, .data, .data, .handle, .sentinel, .sentinel, .sentinel, .sentinel, .sentinel, .sentinel, .sentinel, .sentinel, .sentinel, .sentinel, .sentinel, .pinned], laidTests := true, laidLooks := .later }
def FnSubmitTwiceCardSaid : Prop := Claim7.holds Tryz.pinned (.plain (OpenSpec.ofChange fnSubmitTwiceSpec)) fnSubmitTwiceCard

/-- THE TIED CARD OF 'laws.FnSubmitBoard'. -/
def fnSubmitBoardCard : Claim7 := { stood := { row := fnSubmitBoardRow, standIns := [], harness := (true, "b0a1be76f220a99d07bf4ff6015560a876f1e9de50d8d9e73498c52e5c8aef0e"), looks := true }, kinds := [], alts := [], goes := true, laidByText := true, laidKinds := [.data, .data, .data, .data, .handle, .sentinel, .sentinel, .sentinel, .sentinel, .sentinel, .sentinel, .sentinel, .sentinel, .sentinel, .sentinel, .sentinel, .pinned], laidTests := true, laidLooks := .later }
def FnSubmitBoardCardSaid : Prop := Claim7.holds Tryz.pinned (.plain (OpenSpec.ofChange fnSubmitBoardSpec)) fnSubmitBoardCard

/-- THE TIED CARD OF 'laws.FnSubmitVerdict'. -/
def fnSubmitVerdictCard : Claim7 := { stood := { row := fnSubmitVerdictRow, standIns := [], harness := (true, "b0a1be76f220a99d07bf4ff6015560a876f1e9de50d8d9e73498c52e5c8aef0e"), looks := true }, kinds := [], alts := [], goes := true, laidByText := true, laidKinds := [.data, .data, .data, .data, .handle, .sentinel, .sentinel, .sentinel, .sentinel, .sentinel, .sentinel, .sentinel, .sentinel, .sentinel, .sentinel, .sentinel, .pinned], laidTests := true, laidLooks := .later }
def FnSubmitVerdictCardSaid : Prop := Claim7.holds Tryz.pinned (.plain (OpenSpec.ofChange fnSubmitVerdictSpec)) fnSubmitVerdictCard

/-- THE TIED CARD OF 'laws.FnSubmitWitness'. -/
def fnSubmitWitnessCard : Claim7 := { stood := { row := fnSubmitWitnessRow, standIns := [], harness := (true, "b0a1be76f220a99d07bf4ff6015560a876f1e9de50d8d9e73498c52e5c8aef0e"), looks := true }, kinds := [], alts := [], goes := true, laidByText := true, laidKinds := [.data, .data, .data, .data, .handle, .sentinel, .sentinel, .sentinel, .sentinel, .sentinel, .sentinel, .sentinel, .sentinel, .sentinel, .sentinel, .sentinel, .pinned], laidTests := true, laidLooks := .later }
def FnSubmitWitnessCardSaid : Prop := Claim7.holds Tryz.pinned (.plain (OpenSpec.ofChange fnSubmitWitnessSpec)) fnSubmitWitnessCard

/-- THE TIED CARD OF 'laws.FnRevokeSubmit'. -/
def fnRevokeSubmitCard : Claim7 := { stood := { row := fnRevokeSubmitRow, standIns := [], harness := (true, "b0a1be76f220a99d07bf4ff6015560a876f1e9de50d8d9e73498c52e5c8aef0e"), looks := true }, kinds := [], alts := [], goes := true, laidByText := true, laidKinds := [.data, .data, .data, .data, .handle, .sentinel, .sentinel, .sentinel, .sentinel, .sentinel, .sentinel, .sentinel, .sentinel, .sentinel, .sentinel, .sentinel, .pinned], laidTests := true, laidLooks := .later }
def FnRevokeSubmitCardSaid : Prop := Claim7.holds Tryz.pinned (.plain (OpenSpec.ofChange fnRevokeSubmitSpec)) fnRevokeSubmitCard

/-- THE TIED CARD OF 'laws.FnSubmit'. -/
def fnSubmitCard : Claim7 := { stood := { row := fnSubmitRow, standIns := [], harness := (true, "b0a1be76f220a99d07bf4ff6015560a876f1e9de50d8d9e73498c52e5c8aef0e"), looks := true }, kinds := [], alts := [], goes := true, laidByText := true, laidKinds := [.data, .data, .data, .data, .handle, .sentinel, .sentinel, .sentinel, .sentinel, .sentinel, .sentinel, .sentinel, .sentinel, .sentinel, .sentinel, .sentinel, .pinned], laidTests := true, laidLooks := .later }
def FnSubmitCardSaid : Prop := Claim7.holds Tryz.pinned (.plain (OpenSpec.ofChange fnSubmitSpec)) fnSubmitCard

/-- THE TIED CARD OF 'laws.FnExactServiceSubmit'. -/
def fnExactServiceSubmitCard : Claim7 := { stood := { row := fnExactServiceSubmitRow, standIns := [], harness := (true, "b0a1be76f220a99d07bf4ff6015560a876f1e9de50d8d9e73498c52e5c8aef0e"), looks := true }, kinds := [], alts := [], goes := true, laidByText := true, laidKinds := [.data, .data, .data, .data, .handle, .sentinel, .sentinel, .sentinel, .sentinel, .sentinel, .sentinel, .sentinel, .sentinel, .sentinel, .sentinel, .sentinel, .pinned], laidTests := true, laidLooks := .later }
def FnExactServiceSubmitCardSaid : Prop := Claim7.holds Tryz.pinned (.plain (OpenSpec.ofChange fnExactServiceSubmitSpec)) fnExactServiceSubmitCard
end Rows
end Go.Proofs.YtkgfmgajhgfgjaaGreatDoor

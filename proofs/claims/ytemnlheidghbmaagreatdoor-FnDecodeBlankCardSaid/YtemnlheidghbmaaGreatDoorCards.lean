/-
  DERIVED. GIVEN WITH THE SEED: THE CARDS: each row of YtemnlheidghbmaaGreatDoorRows.lean that lists a variable, with what it lists TIED to the program's text (the seventh form; the later family's looks); each row that meets fmt, with fmt's text TOLD by the authors' own Lean function (tested against real Go, not proved from fmt's source: count such statements apart). THE CARD IS WHAT COUNTS. Prove the row's statement (the work); the ties are given (YtemnlheidghbmaaGreatDoorTie.lean); close each card by the builder's one call (the guide's Derived/Test/ToyasCard.lean, 'card_holds'). Laid BY PROGRAM, IN A SANDBOX (cutbox-door.mjs). By AI agents, Wed Nov 11 2026. No macro, syntax, notation, axiom, sorry.
-/
import Derived.Test.YtemnlheidghbmaaGreatDoorRows
import GoSem.ClaimSeven
namespace Go.Proofs.YtemnlheidghbmaaGreatDoor
namespace Rows

/-- THE TIED CARD OF 'laws.FnFineTag'. -/
def fnFineTagCard : Claim7 := { stood := { row := fnFineTagRow, standIns := [], harness := (true, "e066af2f78b941883bf3ccab5d05f3efad1a1c508f5e97e0f8a74c0f7d2f2a77"), looks := true }, kinds := [], alts := [], goes := true, laidByText := true, laidKinds := [.sentinel, .sentinel, .sentinel, .sentinel, .sentinel, .sentinel, .sentinel, .sentinel, .sentinel], laidTests := true, laidLooks := .later }
def FnFineTagCardSaid : Prop := Claim7.holds Tryz.pinned (.plain (OpenSpec.ofChange fnFineTagSpec)) fnFineTagCard

/-- THE TIED CARD OF 'laws.FnOrder'. -/
def fnOrderCard : Claim7 := { stood := { row := fnOrderRow, standIns := [], harness := (true, "e066af2f78b941883bf3ccab5d05f3efad1a1c508f5e97e0f8a74c0f7d2f2a77"), looks := true }, kinds := [], alts := [], goes := true, laidByText := true, laidKinds := [.sentinel, .sentinel, .sentinel, .sentinel, .sentinel, .sentinel, .sentinel, .sentinel, .sentinel], laidTests := true, laidLooks := .later }
def FnOrderCardSaid : Prop := Claim7.holds Tryz.pinned (.plain (OpenSpec.ofChange fnOrderSpec)) fnOrderCard

/-- THE TIED CARD OF 'laws.FnOrderRun'. -/
def fnOrderRunCard : Claim7 := { stood := { row := fnOrderRunRow, standIns := [], harness := (true, "e066af2f78b941883bf3ccab5d05f3efad1a1c508f5e97e0f8a74c0f7d2f2a77"), looks := true }, kinds := [], alts := [], goes := true, laidByText := true, laidKinds := [.sentinel, .sentinel, .sentinel, .sentinel, .sentinel, .sentinel, .sentinel, .sentinel, .sentinel], laidTests := true, laidLooks := .later }
def FnOrderRunCardSaid : Prop := Claim7.holds Tryz.pinned (.plain (OpenSpec.ofChange fnOrderRunSpec)) fnOrderRunCard

/-- THE TIED CARD OF 'laws.FnFine'. -/
def fnFineCard : Claim7 := { stood := { row := fnFineRow, standIns := [], harness := (true, "e066af2f78b941883bf3ccab5d05f3efad1a1c508f5e97e0f8a74c0f7d2f2a77"), looks := true }, kinds := [], alts := [], goes := true, laidByText := true, laidKinds := [.sentinel, .sentinel, .sentinel, .sentinel, .sentinel, .sentinel, .sentinel, .sentinel, .sentinel], laidTests := true, laidLooks := .later }
def FnFineCardSaid : Prop := Claim7.holds Tryz.pinned (.plain (OpenSpec.ofChange fnFineSpec)) fnFineCard

/-- THE TIED CARD OF 'laws.FnFineHash'. -/
def fnFineHashCard : Claim7 := { stood := { row := fnFineHashRow, standIns := [], harness := (true, "e066af2f78b941883bf3ccab5d05f3efad1a1c508f5e97e0f8a74c0f7d2f2a77"), looks := true }, kinds := [], alts := [], goes := true, laidByText := true, laidKinds := [.sentinel, .sentinel, .sentinel, .sentinel, .sentinel, .sentinel, .sentinel, .sentinel, .sentinel], laidTests := true, laidLooks := .later }
def FnFineHashCardSaid : Prop := Claim7.holds Tryz.pinned (.plain (OpenSpec.ofChange fnFineHashSpec)) fnFineHashCard

/-- THE TIED CARD OF 'laws.FnTickFine'. -/
def fnTickFineCard : Claim7 := { stood := { row := fnTickFineRow, standIns := [], harness := (true, "e066af2f78b941883bf3ccab5d05f3efad1a1c508f5e97e0f8a74c0f7d2f2a77"), looks := true }, kinds := [], alts := [], goes := true, laidByText := true, laidKinds := [.sentinel, .sentinel, .sentinel, .sentinel, .sentinel, .sentinel, .sentinel, .sentinel, .sentinel], laidTests := true, laidLooks := .later }
def FnTickFineCardSaid : Prop := Claim7.holds Tryz.pinned (.plain (OpenSpec.ofChange fnTickFineSpec)) fnTickFineCard

/-- THE TIED CARD OF 'laws.FnEncode'. -/
def fnEncodeCard : Claim7 := { stood := { row := fnEncodeRow, standIns := [], harness := (true, "e066af2f78b941883bf3ccab5d05f3efad1a1c508f5e97e0f8a74c0f7d2f2a77"), looks := true }, kinds := [], alts := [], goes := true, laidByText := true, laidKinds := [.data, .data, .data, .data, .sentinel, .sentinel, .pinned], laidTests := true, laidLooks := .later }
def FnEncodeCardSaid : Prop := Claim7.holds Tryz.pinned (.plain (OpenSpec.ofChange fnEncodeSpec)) fnEncodeCard

/-- THE TIED CARD OF 'laws.FnDecode'. -/
def fnDecodeCard : Claim7 := { stood := { row := fnDecodeRow, standIns := [], harness := (true, "e066af2f78b941883bf3ccab5d05f3efad1a1c508f5e97e0f8a74c0f7d2f2a77"), looks := true }, kinds := [], alts := [], goes := true, laidByText := true, laidKinds := [.data, .data, .data, .data, .sentinel, .sentinel, .pinned], laidTests := true, laidLooks := .later }
def FnDecodeCardSaid : Prop := Claim7.holds Tryz.pinned (.plain (OpenSpec.ofChange fnDecodeSpec)) fnDecodeCard

/-- THE TIED CARD OF 'laws.FnDecodeBlank'. -/
def fnDecodeBlankCard : Claim7 := { stood := { row := fnDecodeBlankRow, standIns := [], harness := (true, "e066af2f78b941883bf3ccab5d05f3efad1a1c508f5e97e0f8a74c0f7d2f2a77"), looks := true }, kinds := [], alts := [], goes := true, laidByText := true, laidKinds := [.data, .data, .data, .data, .sentinel, .sentinel, .pinned], laidTests := true, laidLooks := .later }
def FnDecodeBlankCardSaid : Prop := Claim7.holds Tryz.pinned (.plain (OpenSpec.ofChange fnDecodeBlankSpec)) fnDecodeBlankCard

/-- THE TIED CARD OF 'laws.FnDecodeCut'. -/
def fnDecodeCutCard : Claim7 := { stood := { row := fnDecodeCutRow, standIns := [], harness := (true, "e066af2f78b941883bf3ccab5d05f3efad1a1c508f5e97e0f8a74c0f7d2f2a77"), looks := true }, kinds := [], alts := [], goes := true, laidByText := true, laidKinds := [.data, .data, .data, .data, .sentinel, .sentinel, .pinned], laidTests := true, laidLooks := .later }
def FnDecodeCutCardSaid : Prop := Claim7.holds Tryz.pinned (.plain (OpenSpec.ofChange fnDecodeCutSpec)) fnDecodeCutCard

/-- THE SECOND FORM's CARD OF 'laws.FnFineTag'. -/
def fnFineTagUptoCard : Claim7 := { stood := { row := fnFineTagUptoRow, standIns := [], harness := (true, "e066af2f78b941883bf3ccab5d05f3efad1a1c508f5e97e0f8a74c0f7d2f2a77"), looks := true }, kinds := [], alts := [], goes := true, laidByText := true, laidKinds := [.sentinel, .sentinel, .sentinel, .sentinel, .sentinel, .sentinel, .sentinel, .sentinel, .sentinel], laidTests := true, laidLooks := .later }
def FnFineTagUptoCardSaid : Prop := Claim7.holds Tryz.pinned (.plain (OpenSpec.upto fnFineTagSpec)) fnFineTagUptoCard

/-- THE SECOND FORM's CARD OF 'laws.FnOrder'. -/
def fnOrderUptoCard : Claim7 := { stood := { row := fnOrderUptoRow, standIns := [], harness := (true, "e066af2f78b941883bf3ccab5d05f3efad1a1c508f5e97e0f8a74c0f7d2f2a77"), looks := true }, kinds := [], alts := [], goes := true, laidByText := true, laidKinds := [.sentinel, .sentinel, .sentinel, .sentinel, .sentinel, .sentinel, .sentinel, .sentinel, .sentinel], laidTests := true, laidLooks := .later }
def FnOrderUptoCardSaid : Prop := Claim7.holds Tryz.pinned (.plain (OpenSpec.upto fnOrderSpec)) fnOrderUptoCard

/-- THE SECOND FORM's CARD OF 'laws.FnOrderRun'. -/
def fnOrderRunUptoCard : Claim7 := { stood := { row := fnOrderRunUptoRow, standIns := [], harness := (true, "e066af2f78b941883bf3ccab5d05f3efad1a1c508f5e97e0f8a74c0f7d2f2a77"), looks := true }, kinds := [], alts := [], goes := true, laidByText := true, laidKinds := [.sentinel, .sentinel, .sentinel, .sentinel, .sentinel, .sentinel, .sentinel, .sentinel, .sentinel], laidTests := true, laidLooks := .later }
def FnOrderRunUptoCardSaid : Prop := Claim7.holds Tryz.pinned (.plain (OpenSpec.upto fnOrderRunSpec)) fnOrderRunUptoCard

/-- THE SECOND FORM's CARD OF 'laws.FnFine'. -/
def fnFineUptoCard : Claim7 := { stood := { row := fnFineUptoRow, standIns := [], harness := (true, "e066af2f78b941883bf3ccab5d05f3efad1a1c508f5e97e0f8a74c0f7d2f2a77"), looks := true }, kinds := [], alts := [], goes := true, laidByText := true, laidKinds := [.sentinel, .sentinel, .sentinel, .sentinel, .sentinel, .sentinel, .sentinel, .sentinel, .sentinel], laidTests := true, laidLooks := .later }
def FnFineUptoCardSaid : Prop := Claim7.holds Tryz.pinned (.plain (OpenSpec.upto fnFineSpec)) fnFineUptoCard

/-- THE SECOND FORM's CARD OF 'laws.FnFineHash'. -/
def fnFineHashUptoCard : Claim7 := { stood := { row := fnFineHashUptoRow, standIns := [], harness := (true, "e066af2f78b941883bf3ccab5d05f3efad1a1c508f5e97e0f8a74c0f7d2f2a77"), looks := true }, kinds := [], alts := [], goes := true, laidByText := true, laidKinds := [.sentinel, .sentinel, .sentinel, .sentinel, .sentinel, .sentinel, .sentinel, .sentinel, .sentinel], laidTests := true, laidLooks := .later }
def FnFineHashUptoCardSaid : Prop := Claim7.holds Tryz.pinned (.plain (OpenSpec.upto fnFineHashSpec)) fnFineHashUptoCard

/-- THE SECOND FORM's CARD OF 'laws.FnTickFine'. -/
def fnTickFineUptoCard : Claim7 := { stood := { row := fnTickFineUptoRow, standIns := [], harness := (true, "e066af2f78b941883bf3ccab5d05f3efad1a1c508f5e97e0f8a74c0f7d2f2a77"), looks := true }, kinds := [], alts := [], goes := true, laidByText := true, laidKinds := [.sentinel, .sentinel, .sentinel, .sentinel, .sentinel, .sentinel, .sentinel, .sentinel, .sentinel], laidTests := true, laidLooks := .later }
def FnTickFineUptoCardSaid : Prop := Claim7.holds Tryz.pinned (.plain (OpenSpec.upto fnTickFineSpec)) fnTickFineUptoCard

/-- THE SECOND FORM's CARD OF 'laws.FnEncode'. -/
def fnEncodeUptoCard : Claim7 := { stood := { row := fnEncodeUptoRow, standIns := [], harness := (true, "e066af2f78b941883bf3ccab5d05f3efad1a1c508f5e97e0f8a74c0f7d2f2a77"), looks := true }, kinds := [], alts := [], goes := true, laidByText := true, laidKinds := [.data, .data, .data, .data, .sentinel, .sentinel, .pinned], laidTests := true, laidLooks := .later }
def FnEncodeUptoCardSaid : Prop := Claim7.holds Tryz.pinned (.plain (OpenSpec.upto fnEncodeSpec)) fnEncodeUptoCard

/-- THE SECOND FORM's CARD OF 'laws.FnDecode'. -/
def fnDecodeUptoCard : Claim7 := { stood := { row := fnDecodeUptoRow, standIns := [], harness := (true, "e066af2f78b941883bf3ccab5d05f3efad1a1c508f5e97e0f8a74c0f7d2f2a77"), looks := true }, kinds := [], alts := [], goes := true, laidByText := true, laidKinds := [.data, .data, .data, .data, .sentinel, .sentinel, .pinned], laidTests := true, laidLooks := .later }
def FnDecodeUptoCardSaid : Prop := Claim7.holds Tryz.pinned (.plain (OpenSpec.upto fnDecodeSpec)) fnDecodeUptoCard

/-- THE SECOND FORM's CARD OF 'laws.FnDecodeBlank'. -/
def fnDecodeBlankUptoCard : Claim7 := { stood := { row := fnDecodeBlankUptoRow, standIns := [], harness := (true, "e066af2f78b941883bf3ccab5d05f3efad1a1c508f5e97e0f8a74c0f7d2f2a77"), looks := true }, kinds := [], alts := [], goes := true, laidByText := true, laidKinds := [.data, .data, .data, .data, .sentinel, .sentinel, .pinned], laidTests := true, laidLooks := .later }
def FnDecodeBlankUptoCardSaid : Prop := Claim7.holds Tryz.pinned (.plain (OpenSpec.upto fnDecodeBlankSpec)) fnDecodeBlankUptoCard

/-- THE SECOND FORM's CARD OF 'laws.FnDecodeCut'. -/
def fnDecodeCutUptoCard : Claim7 := { stood := { row := fnDecodeCutUptoRow, standIns := [], harness := (true, "e066af2f78b941883bf3ccab5d05f3efad1a1c508f5e97e0f8a74c0f7d2f2a77"), looks := true }, kinds := [], alts := [], goes := true, laidByText := true, laidKinds := [.data, .data, .data, .data, .sentinel, .sentinel, .pinned], laidTests := true, laidLooks := .later }
def FnDecodeCutUptoCardSaid : Prop := Claim7.holds Tryz.pinned (.plain (OpenSpec.upto fnDecodeCutSpec)) fnDecodeCutUptoCard
end Rows
end Go.Proofs.YtemnlheidghbmaaGreatDoor

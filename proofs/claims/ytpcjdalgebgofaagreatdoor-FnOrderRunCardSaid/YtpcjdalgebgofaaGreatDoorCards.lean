/-
  DERIVED. GIVEN WITH THE SEED: THE CARDS: each row of YtpcjdalgebgofaaGreatDoorRows.lean that lists a variable, with what it lists TIED to the program's text (the seventh form; the later family's looks); each row that meets fmt, with fmt's text TOLD by the authors' own Lean function (tested against real Go, not proved from fmt's source: count such statements apart). THE CARD IS WHAT COUNTS. Prove the row's statement (the work); the ties are given (YtpcjdalgebgofaaGreatDoorTie.lean); close each card by the builder's one call (the guide's Derived/Test/ToyasCard.lean, 'card_holds'). Laid BY PROGRAM, IN A SANDBOX (cutbox-door.mjs). By AI agents, Wed Nov 11 2026. No macro, syntax, notation, axiom, sorry.
-/
import Derived.Test.YtpcjdalgebgofaaGreatDoorRows
import GoSem.ClaimSeven
namespace Go.Proofs.YtpcjdalgebgofaaGreatDoor
namespace Rows

/-- THE TIED CARD OF 'laws.FnFineTag'. -/
def fnFineTagCard : Claim7 := { stood := { row := fnFineTagRow, standIns := [], harness := (true, "d3645635afe14c5759e4960957f95ad637a23c04710c0623bd126b0a2a5ff0ca"), looks := true }, kinds := [], alts := [], goes := true, laidByText := true, laidKinds := [.sentinel, .sentinel, .sentinel, .sentinel, .sentinel, .sentinel, .sentinel, .sentinel, .sentinel], laidTests := true, laidLooks := .later }
def FnFineTagCardSaid : Prop := Claim7.holds Tryz.pinned (.plain (OpenSpec.ofChange fnFineTagSpec)) fnFineTagCard

/-- THE TIED CARD OF 'laws.FnOrder'. -/
def fnOrderCard : Claim7 := { stood := { row := fnOrderRow, standIns := [], harness := (true, "d3645635afe14c5759e4960957f95ad637a23c04710c0623bd126b0a2a5ff0ca"), looks := true }, kinds := [], alts := [], goes := true, laidByText := true, laidKinds := [.sentinel, .sentinel, .sentinel, .sentinel, .sentinel, .sentinel, .sentinel, .sentinel, .sentinel], laidTests := true, laidLooks := .later }
def FnOrderCardSaid : Prop := Claim7.holds Tryz.pinned (.plain (OpenSpec.ofChange fnOrderSpec)) fnOrderCard

/-- THE TIED CARD OF 'laws.FnOrderRun'. -/
def fnOrderRunCard : Claim7 := { stood := { row := fnOrderRunRow, standIns := [], harness := (true, "d3645635afe14c5759e4960957f95ad637a23c04710c0623bd126b0a2a5ff0ca"), looks := true }, kinds := [], alts := [], goes := true, laidByText := true, laidKinds := [.sentinel, .sentinel, .sentinel, .sentinel, .sentinel, .sentinel, .sentinel, .sentinel, .sentinel], laidTests := true, laidLooks := .later }
def FnOrderRunCardSaid : Prop := Claim7.holds Tryz.pinned (.plain (OpenSpec.ofChange fnOrderRunSpec)) fnOrderRunCard

/-- THE TIED CARD OF 'laws.FnFine'. -/
def fnFineCard : Claim7 := { stood := { row := fnFineRow, standIns := [], harness := (true, "d3645635afe14c5759e4960957f95ad637a23c04710c0623bd126b0a2a5ff0ca"), looks := true }, kinds := [], alts := [], goes := true, laidByText := true, laidKinds := [.sentinel, .sentinel, .sentinel, .sentinel, .sentinel, .sentinel, .sentinel, .sentinel, .sentinel], laidTests := true, laidLooks := .later }
def FnFineCardSaid : Prop := Claim7.holds Tryz.pinned (.plain (OpenSpec.ofChange fnFineSpec)) fnFineCard

/-- THE TIED CARD OF 'laws.FnFineHash'. -/
def fnFineHashCard : Claim7 := { stood := { row := fnFineHashRow, standIns := [], harness := (true, "d3645635afe14c5759e4960957f95ad637a23c04710c0623bd126b0a2a5ff0ca"), looks := true }, kinds := [], alts := [], goes := true, laidByText := true, laidKinds := [.sentinel, .sentinel, .sentinel, .sentinel, .sentinel, .sentinel, .sentinel, .sentinel, .sentinel], laidTests := true, laidLooks := .later }
def FnFineHashCardSaid : Prop := Claim7.holds Tryz.pinned (.plain (OpenSpec.ofChange fnFineHashSpec)) fnFineHashCard

/-- THE TIED CARD OF 'laws.FnTickFine'. -/
def fnTickFineCard : Claim7 := { stood := { row := fnTickFineRow, standIns := [], harness := (true, "d3645635afe14c5759e4960957f95ad637a23c04710c0623bd126b0a2a5ff0ca"), looks := true }, kinds := [], alts := [], goes := true, laidByText := true, laidKinds := [.sentinel, .sentinel, .sentinel, .sentinel, .sentinel, .sentinel, .sentinel, .sentinel, .sentinel], laidTests := true, laidLooks := .later }
def FnTickFineCardSaid : Prop := Claim7.holds Tryz.pinned (.plain (OpenSpec.ofChange fnTickFineSpec)) fnTickFineCard

/-- THE SECOND FORM's CARD OF 'laws.FnFineTag'. -/
def fnFineTagUptoCard : Claim7 := { stood := { row := fnFineTagUptoRow, standIns := [], harness := (true, "d3645635afe14c5759e4960957f95ad637a23c04710c0623bd126b0a2a5ff0ca"), looks := true }, kinds := [], alts := [], goes := true, laidByText := true, laidKinds := [.sentinel, .sentinel, .sentinel, .sentinel, .sentinel, .sentinel, .sentinel, .sentinel, .sentinel], laidTests := true, laidLooks := .later }
def FnFineTagUptoCardSaid : Prop := Claim7.holds Tryz.pinned (.plain (OpenSpec.upto fnFineTagSpec)) fnFineTagUptoCard

/-- THE SECOND FORM's CARD OF 'laws.FnOrder'. -/
def fnOrderUptoCard : Claim7 := { stood := { row := fnOrderUptoRow, standIns := [], harness := (true, "d3645635afe14c5759e4960957f95ad637a23c04710c0623bd126b0a2a5ff0ca"), looks := true }, kinds := [], alts := [], goes := true, laidByText := true, laidKinds := [.sentinel, .sentinel, .sentinel, .sentinel, .sentinel, .sentinel, .sentinel, .sentinel, .sentinel], laidTests := true, laidLooks := .later }
def FnOrderUptoCardSaid : Prop := Claim7.holds Tryz.pinned (.plain (OpenSpec.upto fnOrderSpec)) fnOrderUptoCard

/-- THE SECOND FORM's CARD OF 'laws.FnOrderRun'. -/
def fnOrderRunUptoCard : Claim7 := { stood := { row := fnOrderRunUptoRow, standIns := [], harness := (true, "d3645635afe14c5759e4960957f95ad637a23c04710c0623bd126b0a2a5ff0ca"), looks := true }, kinds := [], alts := [], goes := true, laidByText := true, laidKinds := [.sentinel, .sentinel, .sentinel, .sentinel, .sentinel, .sentinel, .sentinel, .sentinel, .sentinel], laidTests := true, laidLooks := .later }
def FnOrderRunUptoCardSaid : Prop := Claim7.holds Tryz.pinned (.plain (OpenSpec.upto fnOrderRunSpec)) fnOrderRunUptoCard

/-- THE SECOND FORM's CARD OF 'laws.FnFine'. -/
def fnFineUptoCard : Claim7 := { stood := { row := fnFineUptoRow, standIns := [], harness := (true, "d3645635afe14c5759e4960957f95ad637a23c04710c0623bd126b0a2a5ff0ca"), looks := true }, kinds := [], alts := [], goes := true, laidByText := true, laidKinds := [.sentinel, .sentinel, .sentinel, .sentinel, .sentinel, .sentinel, .sentinel, .sentinel, .sentinel], laidTests := true, laidLooks := .later }
def FnFineUptoCardSaid : Prop := Claim7.holds Tryz.pinned (.plain (OpenSpec.upto fnFineSpec)) fnFineUptoCard

/-- THE SECOND FORM's CARD OF 'laws.FnFineHash'. -/
def fnFineHashUptoCard : Claim7 := { stood := { row := fnFineHashUptoRow, standIns := [], harness := (true, "d3645635afe14c5759e4960957f95ad637a23c04710c0623bd126b0a2a5ff0ca"), looks := true }, kinds := [], alts := [], goes := true, laidByText := true, laidKinds := [.sentinel, .sentinel, .sentinel, .sentinel, .sentinel, .sentinel, .sentinel, .sentinel, .sentinel], laidTests := true, laidLooks := .later }
def FnFineHashUptoCardSaid : Prop := Claim7.holds Tryz.pinned (.plain (OpenSpec.upto fnFineHashSpec)) fnFineHashUptoCard

/-- THE SECOND FORM's CARD OF 'laws.FnTickFine'. -/
def fnTickFineUptoCard : Claim7 := { stood := { row := fnTickFineUptoRow, standIns := [], harness := (true, "d3645635afe14c5759e4960957f95ad637a23c04710c0623bd126b0a2a5ff0ca"), looks := true }, kinds := [], alts := [], goes := true, laidByText := true, laidKinds := [.sentinel, .sentinel, .sentinel, .sentinel, .sentinel, .sentinel, .sentinel, .sentinel, .sentinel], laidTests := true, laidLooks := .later }
def FnTickFineUptoCardSaid : Prop := Claim7.holds Tryz.pinned (.plain (OpenSpec.upto fnTickFineSpec)) fnTickFineUptoCard
end Rows
end Go.Proofs.YtpcjdalgebgofaaGreatDoor

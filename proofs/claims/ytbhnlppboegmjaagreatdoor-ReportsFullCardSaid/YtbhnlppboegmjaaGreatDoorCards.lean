/-
  DERIVED. GIVEN WITH THE SEED: THE CARDS: each row of YtbhnlppboegmjaaGreatDoorRows.lean that lists a variable, with what it lists TIED to the program's text (the seventh form; the later family's looks); each row that meets fmt, with fmt's text TOLD by the authors' own Lean function (tested against real Go, not proved from fmt's source: count such statements apart). THE CARD IS WHAT COUNTS. Prove the row's statement (the work); the ties are given (YtbhnlppboegmjaaGreatDoorTie.lean); close each card by the builder's one call (the guide's Derived/Test/ToyasCard.lean, 'card_holds'). Laid BY PROGRAM, IN A SANDBOX (cutbox-door.mjs). By AI agents, Wed Nov 11 2026. No macro, syntax, notation, axiom, sorry.
-/
import Derived.Test.YtbhnlppboegmjaaGreatDoorRows
import GoSem.ClaimSeven
namespace Go.Proofs.YtbhnlppboegmjaaGreatDoor
namespace Rows

/-- THE TIED CARD OF 'columnsevenlaw35.ReportsLines'. -/
def reportsLinesCard : Claim7 := { stood := { row := reportsLinesRow, standIns := [], harness := (true, "58e3303b4be8c2f300b4e2b5cdad585186427165941bc809f9be80179879cbe8"), looks := true }, kinds := [], alts := [], laidByText := true, laidKinds := [.data, .data, .data, .data, .sentinel, .sentinel, .data, .data, .data, .pinned], laidTests := true, laidLooks := .later }
def ReportsLinesCardSaid : Prop := Claim7.holds Tryz.pinned (.plain (OpenSpec.ofChange reportsLinesSpec)) reportsLinesCard

/-- THE TIED CARD OF 'columnsevenlaw35.ReportsPages'. -/
def reportsPagesCard : Claim7 := { stood := { row := reportsPagesRow, standIns := [], harness := (true, "58e3303b4be8c2f300b4e2b5cdad585186427165941bc809f9be80179879cbe8"), looks := true }, kinds := [], alts := [], laidByText := true, laidKinds := [.data, .data, .data, .data, .sentinel, .sentinel, .data, .data, .data, .pinned], laidTests := true, laidLooks := .later }
def ReportsPagesCardSaid : Prop := Claim7.holds Tryz.pinned (.plain (OpenSpec.ofChange reportsPagesSpec)) reportsPagesCard

/-- THE TIED CARD OF 'columnsevenlaw35.ReportsText'. -/
def reportsTextCard : Claim7 := { stood := { row := reportsTextRow, standIns := [], harness := (true, "58e3303b4be8c2f300b4e2b5cdad585186427165941bc809f9be80179879cbe8"), looks := true }, kinds := [], alts := [], laidByText := true, laidKinds := [.data, .data, .data, .data, .sentinel, .sentinel, .data, .data, .data, .pinned], laidTests := true, laidLooks := .later }
def ReportsTextCardSaid : Prop := Claim7.holds Tryz.pinned (.plain (OpenSpec.ofChange reportsTextSpec)) reportsTextCard

/-- THE TIED CARD OF 'columnsevenlaw35.ReportsTotals'. -/
def reportsTotalsCard : Claim7 := { stood := { row := reportsTotalsRow, standIns := [], harness := (true, "58e3303b4be8c2f300b4e2b5cdad585186427165941bc809f9be80179879cbe8"), looks := true }, kinds := [], alts := [], laidByText := true, laidKinds := [.data, .data, .data, .data, .sentinel, .sentinel, .data, .data, .data, .pinned], laidTests := true, laidLooks := .later }
def ReportsTotalsCardSaid : Prop := Claim7.holds Tryz.pinned (.plain (OpenSpec.ofChange reportsTotalsSpec)) reportsTotalsCard

/-- THE TIED CARD OF 'columnsevenlaw35.ReportsFull'. -/
def reportsFullCard : Claim7 := { stood := { row := reportsFullRow, standIns := [], harness := (true, "58e3303b4be8c2f300b4e2b5cdad585186427165941bc809f9be80179879cbe8"), looks := true }, kinds := [], alts := [], laidByText := true, laidKinds := [.data, .data, .data, .data, .sentinel, .sentinel, .data, .data, .data, .pinned], laidTests := true, laidLooks := .later }
def ReportsFullCardSaid : Prop := Claim7.holds Tryz.pinned (.plain (OpenSpec.ofChange reportsFullSpec)) reportsFullCard

/-- THE SECOND FORM's CARD OF 'columnsevenlaw35.ReportsLines'. -/
def reportsLinesUptoCard : Claim7 := { stood := { row := reportsLinesUptoRow, standIns := [], harness := (true, "58e3303b4be8c2f300b4e2b5cdad585186427165941bc809f9be80179879cbe8"), looks := true }, kinds := [], alts := [], laidByText := true, laidKinds := [.data, .data, .data, .data, .sentinel, .sentinel, .data, .data, .data, .pinned], laidTests := true, laidLooks := .later }
def ReportsLinesUptoCardSaid : Prop := Claim7.holds Tryz.pinned (.plain (OpenSpec.upto reportsLinesSpec)) reportsLinesUptoCard

/-- THE SECOND FORM's CARD OF 'columnsevenlaw35.ReportsPages'. -/
def reportsPagesUptoCard : Claim7 := { stood := { row := reportsPagesUptoRow, standIns := [], harness := (true, "58e3303b4be8c2f300b4e2b5cdad585186427165941bc809f9be80179879cbe8"), looks := true }, kinds := [], alts := [], laidByText := true, laidKinds := [.data, .data, .data, .data, .sentinel, .sentinel, .data, .data, .data, .pinned], laidTests := true, laidLooks := .later }
def ReportsPagesUptoCardSaid : Prop := Claim7.holds Tryz.pinned (.plain (OpenSpec.upto reportsPagesSpec)) reportsPagesUptoCard

/-- THE SECOND FORM's CARD OF 'columnsevenlaw35.ReportsText'. -/
def reportsTextUptoCard : Claim7 := { stood := { row := reportsTextUptoRow, standIns := [], harness := (true, "58e3303b4be8c2f300b4e2b5cdad585186427165941bc809f9be80179879cbe8"), looks := true }, kinds := [], alts := [], laidByText := true, laidKinds := [.data, .data, .data, .data, .sentinel, .sentinel, .data, .data, .data, .pinned], laidTests := true, laidLooks := .later }
def ReportsTextUptoCardSaid : Prop := Claim7.holds Tryz.pinned (.plain (OpenSpec.upto reportsTextSpec)) reportsTextUptoCard

/-- THE SECOND FORM's CARD OF 'columnsevenlaw35.ReportsTotals'. -/
def reportsTotalsUptoCard : Claim7 := { stood := { row := reportsTotalsUptoRow, standIns := [], harness := (true, "58e3303b4be8c2f300b4e2b5cdad585186427165941bc809f9be80179879cbe8"), looks := true }, kinds := [], alts := [], laidByText := true, laidKinds := [.data, .data, .data, .data, .sentinel, .sentinel, .data, .data, .data, .pinned], laidTests := true, laidLooks := .later }
def ReportsTotalsUptoCardSaid : Prop := Claim7.holds Tryz.pinned (.plain (OpenSpec.upto reportsTotalsSpec)) reportsTotalsUptoCard

/-- THE SECOND FORM's CARD OF 'columnsevenlaw35.ReportsFull'. -/
def reportsFullUptoCard : Claim7 := { stood := { row := reportsFullUptoRow, standIns := [], harness := (true, "58e3303b4be8c2f300b4e2b5cdad585186427165941bc809f9be80179879cbe8"), looks := true }, kinds := [], alts := [], laidByText := true, laidKinds := [.data, .data, .data, .data, .sentinel, .sentinel, .data, .data, .data, .pinned], laidTests := true, laidLooks := .later }
def ReportsFullUptoCardSaid : Prop := Claim7.holds Tryz.pinned (.plain (OpenSpec.upto reportsFullSpec)) reportsFullUptoCard
end Rows
end Go.Proofs.YtbhnlppboegmjaaGreatDoor

/-
  DERIVED. GIVEN WITH THE SEED: THE CARDS: each row of YtabgobmeibjeeaaGreatDoorRows.lean that lists a variable, with what it lists TIED to the program's text (the seventh form; the later family's looks); each row that meets fmt, with fmt's text TOLD by the authors' own Lean function (tested against real Go, not proved from fmt's source: count such statements apart). THE CARD IS WHAT COUNTS. Prove the row's statement (the work); the ties are given (YtabgobmeibjeeaaGreatDoorTie.lean); close each card by the builder's one call (the guide's Derived/Test/ToyasCard.lean, 'card_holds'). Laid BY PROGRAM, IN A SANDBOX (cutbox-door.mjs). By AI agents, Wed Nov 11 2026. No macro, syntax, notation, axiom, sorry.
-/
import Derived.Test.YtabgobmeibjeeaaGreatDoorRows
import GoSem.ClaimSeven
namespace Go.Proofs.YtabgobmeibjeeaaGreatDoor
namespace Rows

/-- THE TIED CARD OF 'columnsevenlaw34.SortsOrder'. -/
def sortsOrderCard : Claim7 := { stood := { row := sortsOrderRow, standIns := [], harness := (true, "a7402b8a05c1bd2063a10b1f86198cab474fb5430fa068df2f39387ad6ecc082"), looks := true }, kinds := [], alts := [], laidByText := true, laidKinds := [.data, .data, .data, .data, .sentinel, .sentinel, .data, .pinned], laidTests := true, laidLooks := .later }
def SortsOrderCardSaid : Prop := Claim7.holds Tryz.pinned (.plain (OpenSpec.ofChange sortsOrderSpec)) sortsOrderCard

/-- THE TIED CARD OF 'columnsevenlaw34.SortsCompare'. -/
def sortsCompareCard : Claim7 := { stood := { row := sortsCompareRow, standIns := [], harness := (true, "a7402b8a05c1bd2063a10b1f86198cab474fb5430fa068df2f39387ad6ecc082"), looks := true }, kinds := [], alts := [], laidByText := true, laidKinds := [.data, .data, .data, .data, .sentinel, .sentinel, .data, .pinned], laidTests := true, laidLooks := .later }
def SortsCompareCardSaid : Prop := Claim7.holds Tryz.pinned (.plain (OpenSpec.ofChange sortsCompareSpec)) sortsCompareCard

/-- THE TIED CARD OF 'columnsevenlaw34.SortsNumbers'. -/
def sortsNumbersCard : Claim7 := { stood := { row := sortsNumbersRow, standIns := [], harness := (true, "a7402b8a05c1bd2063a10b1f86198cab474fb5430fa068df2f39387ad6ecc082"), looks := true }, kinds := [], alts := [], laidByText := true, laidKinds := [.data, .data, .data, .data, .sentinel, .sentinel, .data, .pinned], laidTests := true, laidLooks := .later }
def SortsNumbersCardSaid : Prop := Claim7.holds Tryz.pinned (.plain (OpenSpec.ofChange sortsNumbersSpec)) sortsNumbersCard

/-- THE TIED CARD OF 'columnsevenlaw34.SortsMerge'. -/
def sortsMergeCard : Claim7 := { stood := { row := sortsMergeRow, standIns := [], harness := (true, "a7402b8a05c1bd2063a10b1f86198cab474fb5430fa068df2f39387ad6ecc082"), looks := true }, kinds := [], alts := [], laidByText := true, laidKinds := [.data, .data, .data, .data, .sentinel, .sentinel, .data, .pinned], laidTests := true, laidLooks := .later }
def SortsMergeCardSaid : Prop := Claim7.holds Tryz.pinned (.plain (OpenSpec.ofChange sortsMergeSpec)) sortsMergeCard

/-- THE TIED CARD OF 'columnsevenlaw34.SortsScript'. -/
def sortsScriptCard : Claim7 := { stood := { row := sortsScriptRow, standIns := [], harness := (true, "a7402b8a05c1bd2063a10b1f86198cab474fb5430fa068df2f39387ad6ecc082"), looks := true }, kinds := [], alts := [], laidByText := true, laidKinds := [.data, .data, .data, .data, .sentinel, .sentinel, .data, .pinned], laidTests := true, laidLooks := .later }
def SortsScriptCardSaid : Prop := Claim7.holds Tryz.pinned (.plain (OpenSpec.ofChange sortsScriptSpec)) sortsScriptCard

/-- THE TIED CARD OF 'columnsevenlaw34.SortsErrors'. -/
def sortsErrorsCard : Claim7 := { stood := { row := sortsErrorsRow, standIns := [], harness := (true, "a7402b8a05c1bd2063a10b1f86198cab474fb5430fa068df2f39387ad6ecc082"), looks := true }, kinds := [], alts := [], laidByText := true, laidKinds := [.data, .data, .data, .data, .sentinel, .sentinel, .data, .pinned], laidTests := true, laidLooks := .later }
def SortsErrorsCardSaid : Prop := Claim7.holds Tryz.pinned (.plain (OpenSpec.ofChange sortsErrorsSpec)) sortsErrorsCard

/-- THE SECOND FORM's CARD OF 'columnsevenlaw34.SortsOrder'. -/
def sortsOrderUptoCard : Claim7 := { stood := { row := sortsOrderUptoRow, standIns := [], harness := (true, "a7402b8a05c1bd2063a10b1f86198cab474fb5430fa068df2f39387ad6ecc082"), looks := true }, kinds := [], alts := [], laidByText := true, laidKinds := [.data, .data, .data, .data, .sentinel, .sentinel, .data, .pinned], laidTests := true, laidLooks := .later }
def SortsOrderUptoCardSaid : Prop := Claim7.holds Tryz.pinned (.plain (OpenSpec.upto sortsOrderSpec)) sortsOrderUptoCard

/-- THE SECOND FORM's CARD OF 'columnsevenlaw34.SortsCompare'. -/
def sortsCompareUptoCard : Claim7 := { stood := { row := sortsCompareUptoRow, standIns := [], harness := (true, "a7402b8a05c1bd2063a10b1f86198cab474fb5430fa068df2f39387ad6ecc082"), looks := true }, kinds := [], alts := [], laidByText := true, laidKinds := [.data, .data, .data, .data, .sentinel, .sentinel, .data, .pinned], laidTests := true, laidLooks := .later }
def SortsCompareUptoCardSaid : Prop := Claim7.holds Tryz.pinned (.plain (OpenSpec.upto sortsCompareSpec)) sortsCompareUptoCard

/-- THE SECOND FORM's CARD OF 'columnsevenlaw34.SortsNumbers'. -/
def sortsNumbersUptoCard : Claim7 := { stood := { row := sortsNumbersUptoRow, standIns := [], harness := (true, "a7402b8a05c1bd2063a10b1f86198cab474fb5430fa068df2f39387ad6ecc082"), looks := true }, kinds := [], alts := [], laidByText := true, laidKinds := [.data, .data, .data, .data, .sentinel, .sentinel, .data, .pinned], laidTests := true, laidLooks := .later }
def SortsNumbersUptoCardSaid : Prop := Claim7.holds Tryz.pinned (.plain (OpenSpec.upto sortsNumbersSpec)) sortsNumbersUptoCard

/-- THE SECOND FORM's CARD OF 'columnsevenlaw34.SortsMerge'. -/
def sortsMergeUptoCard : Claim7 := { stood := { row := sortsMergeUptoRow, standIns := [], harness := (true, "a7402b8a05c1bd2063a10b1f86198cab474fb5430fa068df2f39387ad6ecc082"), looks := true }, kinds := [], alts := [], laidByText := true, laidKinds := [.data, .data, .data, .data, .sentinel, .sentinel, .data, .pinned], laidTests := true, laidLooks := .later }
def SortsMergeUptoCardSaid : Prop := Claim7.holds Tryz.pinned (.plain (OpenSpec.upto sortsMergeSpec)) sortsMergeUptoCard

/-- THE SECOND FORM's CARD OF 'columnsevenlaw34.SortsScript'. -/
def sortsScriptUptoCard : Claim7 := { stood := { row := sortsScriptUptoRow, standIns := [], harness := (true, "a7402b8a05c1bd2063a10b1f86198cab474fb5430fa068df2f39387ad6ecc082"), looks := true }, kinds := [], alts := [], laidByText := true, laidKinds := [.data, .data, .data, .data, .sentinel, .sentinel, .data, .pinned], laidTests := true, laidLooks := .later }
def SortsScriptUptoCardSaid : Prop := Claim7.holds Tryz.pinned (.plain (OpenSpec.upto sortsScriptSpec)) sortsScriptUptoCard

/-- THE SECOND FORM's CARD OF 'columnsevenlaw34.SortsErrors'. -/
def sortsErrorsUptoCard : Claim7 := { stood := { row := sortsErrorsUptoRow, standIns := [], harness := (true, "a7402b8a05c1bd2063a10b1f86198cab474fb5430fa068df2f39387ad6ecc082"), looks := true }, kinds := [], alts := [], laidByText := true, laidKinds := [.data, .data, .data, .data, .sentinel, .sentinel, .data, .pinned], laidTests := true, laidLooks := .later }
def SortsErrorsUptoCardSaid : Prop := Claim7.holds Tryz.pinned (.plain (OpenSpec.upto sortsErrorsSpec)) sortsErrorsUptoCard
end Rows
end Go.Proofs.YtabgobmeibjeeaaGreatDoor

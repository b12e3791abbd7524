/-
  DERIVED. GIVEN WITH THE SEED: THE CARDS: each row of YtlhdliikahebhaaGreatDoorRows.lean that lists a variable, with what it lists TIED to the program's text (the seventh form; the later family's looks); each row that meets fmt, with fmt's text TOLD by the authors' own Lean function (tested against real Go, not proved from fmt's source: count such statements apart). THE CARD IS WHAT COUNTS. Prove the row's statement (the work); the ties are given (YtlhdliikahebhaaGreatDoorTie.lean); close each card by the builder's one call (the guide's Derived/Test/ToyasCard.lean, 'card_holds'). Laid BY PROGRAM, IN A SANDBOX (cutbox-door.mjs). By AI agents, Wed Nov 11 2026. No macro, syntax, notation, axiom, sorry.
-/
import Derived.Test.YtlhdliikahebhaaGreatDoorRows
import GoSem.ClaimSeven
namespace Go.Proofs.YtlhdliikahebhaaGreatDoor
namespace Rows

/-- THE TIED CARD OF 'columnsevenlaw37.ScreensDesk'. -/
def screensDeskCard : Claim7 := { stood := { row := screensDeskRow, standIns := [], harness := (true, "319b331c7f1712a29ebb4265de87e0f84212ad39f153d82d4dcdb9328d5f1342"), looks := true }, kinds := [], alts := [], laidByText := true, laidKinds := [.sentinel, .sentinel, .data, .data, .data, .data, .listed, .pinned, .data, .data, .data, .data], laidTests := true, laidLooks := .later }
def ScreensDeskCardSaid : Prop := Claim7.holds Tryz.pinned (.plain (OpenSpec.ofChange screensDeskSpec)) screensDeskCard

/-- THE SECOND FORM's CARD OF 'columnsevenlaw37.ScreensDesk'. -/
def screensDeskUptoCard : Claim7 := { stood := { row := screensDeskUptoRow, standIns := [], harness := (true, "319b331c7f1712a29ebb4265de87e0f84212ad39f153d82d4dcdb9328d5f1342"), looks := true }, kinds := [], alts := [], laidByText := true, laidKinds := [.sentinel, .sentinel, .data, .data, .data, .data, .listed, .pinned, .data, .data, .data, .data], laidTests := true, laidLooks := .later }
def ScreensDeskUptoCardSaid : Prop := Claim7.holds Tryz.pinned (.plain (OpenSpec.upto screensDeskSpec)) screensDeskUptoCard
end Rows
end Go.Proofs.YtlhdliikahebhaaGreatDoor

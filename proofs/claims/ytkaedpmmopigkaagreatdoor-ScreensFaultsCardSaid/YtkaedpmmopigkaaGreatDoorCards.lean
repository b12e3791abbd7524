/-
  DERIVED. GIVEN WITH THE SEED: THE CARDS: each row of YtkaedpmmopigkaaGreatDoorRows.lean that lists a variable, with what it lists TIED to the program's text (the seventh form; the later family's looks); each row that meets fmt, with fmt's text TOLD by the authors' own Lean function (tested against real Go, not proved from fmt's source: count such statements apart). THE CARD IS WHAT COUNTS. Prove the row's statement (the work); the ties are given (YtkaedpmmopigkaaGreatDoorTie.lean); close each card by the builder's one call (the guide's Derived/Test/ToyasCard.lean, 'card_holds'). Laid BY PROGRAM, IN A SANDBOX (cutbox-door.mjs). By AI agents, Wed Nov 11 2026. No macro, syntax, notation, axiom, sorry.
-/
import Derived.Test.YtkaedpmmopigkaaGreatDoorRows
import GoSem.ClaimSeven
namespace Go.Proofs.YtkaedpmmopigkaaGreatDoor
namespace Rows

/-- THE TIED CARD OF 'columnsevenlaw37.ScreensParse'. -/
def screensParseCard : Claim7 := { stood := { row := screensParseRow, standIns := [], harness := (true, "26af6259670eab0ebe7f0c0bf0785faa2b5cb443433d069198986a063fe716f6"), looks := true }, kinds := [], alts := [], laidByText := true, laidKinds := [.data, .data, .data, .data, .sentinel, .sentinel, .listed, .data, .data, .data, .data, .pinned], laidTests := true, laidLooks := .later }
def ScreensParseCardSaid : Prop := Claim7.holds Tryz.pinned (.plain (OpenSpec.ofChange screensParseSpec)) screensParseCard

/-- THE TIED CARD OF 'columnsevenlaw37.ScreensFaults'. -/
def screensFaultsCard : Claim7 := { stood := { row := screensFaultsRow, standIns := [], harness := (true, "26af6259670eab0ebe7f0c0bf0785faa2b5cb443433d069198986a063fe716f6"), looks := true }, kinds := [], alts := [], laidByText := true, laidKinds := [.data, .data, .data, .data, .sentinel, .sentinel, .listed, .data, .data, .data, .data, .pinned], laidTests := true, laidLooks := .later }
def ScreensFaultsCardSaid : Prop := Claim7.holds Tryz.pinned (.plain (OpenSpec.ofChange screensFaultsSpec)) screensFaultsCard

/-- THE TIED CARD OF 'columnsevenlaw37.ScreensShow'. -/
def screensShowCard : Claim7 := { stood := { row := screensShowRow, standIns := [], harness := (true, "26af6259670eab0ebe7f0c0bf0785faa2b5cb443433d069198986a063fe716f6"), looks := true }, kinds := [], alts := [], laidByText := true, laidKinds := [.data, .data, .data, .data, .sentinel, .sentinel, .listed, .data, .data, .data, .data, .pinned], laidTests := true, laidLooks := .later }
def ScreensShowCardSaid : Prop := Claim7.holds Tryz.pinned (.plain (OpenSpec.ofChange screensShowSpec)) screensShowCard

/-- THE TIED CARD OF 'columnsevenlaw37.ScreensAccept'. -/
def screensAcceptCard : Claim7 := { stood := { row := screensAcceptRow, standIns := [], harness := (true, "26af6259670eab0ebe7f0c0bf0785faa2b5cb443433d069198986a063fe716f6"), looks := true }, kinds := [], alts := [], laidByText := true, laidKinds := [.data, .data, .data, .data, .sentinel, .sentinel, .listed, .data, .data, .data, .data, .pinned], laidTests := true, laidLooks := .later }
def ScreensAcceptCardSaid : Prop := Claim7.holds Tryz.pinned (.plain (OpenSpec.ofChange screensAcceptSpec)) screensAcceptCard

/-- THE TIED CARD OF 'columnsevenlaw37.ScreensErrors'. -/
def screensErrorsCard : Claim7 := { stood := { row := screensErrorsRow, standIns := [], harness := (true, "26af6259670eab0ebe7f0c0bf0785faa2b5cb443433d069198986a063fe716f6"), looks := true }, kinds := [], alts := [], laidByText := true, laidKinds := [.data, .data, .data, .data, .sentinel, .sentinel, .listed, .data, .data, .data, .data, .pinned], laidTests := true, laidLooks := .later }
def ScreensErrorsCardSaid : Prop := Claim7.holds Tryz.pinned (.plain (OpenSpec.ofChange screensErrorsSpec)) screensErrorsCard

/-- THE SECOND FORM's CARD OF 'columnsevenlaw37.ScreensParse'. -/
def screensParseUptoCard : Claim7 := { stood := { row := screensParseUptoRow, standIns := [], harness := (true, "26af6259670eab0ebe7f0c0bf0785faa2b5cb443433d069198986a063fe716f6"), looks := true }, kinds := [], alts := [], laidByText := true, laidKinds := [.data, .data, .data, .data, .sentinel, .sentinel, .listed, .data, .data, .data, .data, .pinned], laidTests := true, laidLooks := .later }
def ScreensParseUptoCardSaid : Prop := Claim7.holds Tryz.pinned (.plain (OpenSpec.upto screensParseSpec)) screensParseUptoCard

/-- THE SECOND FORM's CARD OF 'columnsevenlaw37.ScreensFaults'. -/
def screensFaultsUptoCard : Claim7 := { stood := { row := screensFaultsUptoRow, standIns := [], harness := (true, "26af6259670eab0ebe7f0c0bf0785faa2b5cb443433d069198986a063fe716f6"), looks := true }, kinds := [], alts := [], laidByText := true, laidKinds := [.data, .data, .data, .data, .sentinel, .sentinel, .listed, .data, .data, .data, .data, .pinned], laidTests := true, laidLooks := .later }
def ScreensFaultsUptoCardSaid : Prop := Claim7.holds Tryz.pinned (.plain (OpenSpec.upto screensFaultsSpec)) screensFaultsUptoCard

/-- THE SECOND FORM's CARD OF 'columnsevenlaw37.ScreensShow'. -/
def screensShowUptoCard : Claim7 := { stood := { row := screensShowUptoRow, standIns := [], harness := (true, "26af6259670eab0ebe7f0c0bf0785faa2b5cb443433d069198986a063fe716f6"), looks := true }, kinds := [], alts := [], laidByText := true, laidKinds := [.data, .data, .data, .data, .sentinel, .sentinel, .listed, .data, .data, .data, .data, .pinned], laidTests := true, laidLooks := .later }
def ScreensShowUptoCardSaid : Prop := Claim7.holds Tryz.pinned (.plain (OpenSpec.upto screensShowSpec)) screensShowUptoCard

/-- THE SECOND FORM's CARD OF 'columnsevenlaw37.ScreensAccept'. -/
def screensAcceptUptoCard : Claim7 := { stood := { row := screensAcceptUptoRow, standIns := [], harness := (true, "26af6259670eab0ebe7f0c0bf0785faa2b5cb443433d069198986a063fe716f6"), looks := true }, kinds := [], alts := [], laidByText := true, laidKinds := [.data, .data, .data, .data, .sentinel, .sentinel, .listed, .data, .data, .data, .data, .pinned], laidTests := true, laidLooks := .later }
def ScreensAcceptUptoCardSaid : Prop := Claim7.holds Tryz.pinned (.plain (OpenSpec.upto screensAcceptSpec)) screensAcceptUptoCard

/-- THE SECOND FORM's CARD OF 'columnsevenlaw37.ScreensErrors'. -/
def screensErrorsUptoCard : Claim7 := { stood := { row := screensErrorsUptoRow, standIns := [], harness := (true, "26af6259670eab0ebe7f0c0bf0785faa2b5cb443433d069198986a063fe716f6"), looks := true }, kinds := [], alts := [], laidByText := true, laidKinds := [.data, .data, .data, .data, .sentinel, .sentinel, .listed, .data, .data, .data, .data, .pinned], laidTests := true, laidLooks := .later }
def ScreensErrorsUptoCardSaid : Prop := Claim7.holds Tryz.pinned (.plain (OpenSpec.upto screensErrorsSpec)) screensErrorsUptoCard
end Rows
end Go.Proofs.YtkaedpmmopigkaaGreatDoor

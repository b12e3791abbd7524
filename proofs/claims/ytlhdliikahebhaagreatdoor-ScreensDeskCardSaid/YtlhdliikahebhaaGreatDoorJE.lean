/- Proved here: what ScreensDesk's card wants of the program, beside what its law computes; one condition: the law's lifted proof. -/
import Derived.Test.YtlhdliikahebhaaGreatDoorTF
import Derived.Test.YtlhdliikahebhaaGreatDoorJD
import Derived.Test.YtlhdliikahebhaaGreatDoorCards
import Derived.Test.YtlhdliikahebhaaGreatDoorJG
namespace Go.Proofs.YtlhdliikahebhaaGreatDoor.screensDesk
open Go.ChangeShapes Go.WideShapes Go.ChangeAt Go.RowKit
set_option linter.unusedVariables false
theorem proved_of (lifted : Lf) : Rows.ScreensDeskCardSaid :=
  Claim7.holds_tied_plain_at .later [] [.sentinel, .sentinel, .data, .data, .data, .data, .listed, .pinned, .data, .data, .data, .data] true (true, "319b331c7f1712a29ebb4265de87e0f84212ad39f153d82d4dcdb9328d5f1342") true
    (over lifted) (fun _ h => by cases h) (by kernel_rfl) (fun _ h => by cases h) screensDesk_row_tie rfl ⟨rfl, rfl⟩ (by kernel_rfl) rfl
    (fun f fn hf zY => by
      obtain rfl : f = 3 := Option.some.inj ((show Tryz.prog.funcNamed "columnseven/columnsevenlaw37.ScreensDesk" = some 3 from named3).symm.trans hf) |>.symm
      obtain rfl : fn = Tryz.f3 := (Option.some.inj (Tryz.func3.symm.trans zY)).symm
      exact ⟨by kernel_rfl, fun j t ht => by
        rw [Tryz.params3] at ht
        have hm : t ∈ [22, 23, 24] := by simpa using Array.mem_of_getElem? ht
        have xw : ([22, 23, 24].all fun u => !Tryz.prog.wantsStandIn u) = true := by kernel_rfl
        exact (show Tryz.prog.wantsStandIn t = false by simpa using List.all_eq_true.1 xw t hm)⟩)
    goes3
end Go.Proofs.YtlhdliikahebhaaGreatDoor.screensDesk

/- Proved here: facts on the program that the row's cells name; no condition. -/
import Derived.Test.YtkaedpmmopigkaaGreatDoorRows
import Derived.Test.YtkaedpmmopigkaaGreatDoorChecked
import Derived.JoinedOf
import Derived.KernelRfl
namespace Go.Proofs.YtkaedpmmopigkaaGreatDoor
set_option maxRecDepth 100000
theorem joined6 : joinedFacts Tryz.prog 6 Tryz.f6 Rows.screensAcceptSpec Rows.screensAcceptRow = true := by kernel_rfl
theorem named6 : Tryz.prog.funcNamed Rows.screensAcceptRow.func = some 6 := by kernel_rfl
end Go.Proofs.YtkaedpmmopigkaaGreatDoor

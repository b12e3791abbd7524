/- Proved here: facts on the program that the row's cells name; no condition. -/
import Derived.Test.YtkaedpmmopigkaaGreatDoorRows
import Derived.Test.YtkaedpmmopigkaaGreatDoorChecked
import Derived.JoinedOf
import Derived.KernelRfl
namespace Go.Proofs.YtkaedpmmopigkaaGreatDoor
set_option maxRecDepth 100000
theorem joined4 : joinedFacts Tryz.prog 4 Tryz.f4 Rows.screensFaultsSpec Rows.screensFaultsRow = true := by kernel_rfl
theorem named4 : Tryz.prog.funcNamed Rows.screensFaultsRow.func = some 4 := by kernel_rfl
end Go.Proofs.YtkaedpmmopigkaaGreatDoor

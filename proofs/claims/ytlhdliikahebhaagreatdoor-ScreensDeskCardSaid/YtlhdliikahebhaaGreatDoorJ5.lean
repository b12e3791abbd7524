/- Proved here: facts on the program that the row names; no condition. -/
import Derived.Test.YtlhdliikahebhaaGreatDoorRows
import Derived.Test.YtlhdliikahebhaaGreatDoorChecked
import Derived.JoinedOf
import Derived.KernelRfl
namespace Go.Proofs.YtlhdliikahebhaaGreatDoor
open Go
set_option maxRecDepth 100000
theorem jf12 : ((Rows.screensDeskRow.named == Tryz.prog.varsNamed 3)) = true := by kernel_rfl
end Go.Proofs.YtlhdliikahebhaaGreatDoor

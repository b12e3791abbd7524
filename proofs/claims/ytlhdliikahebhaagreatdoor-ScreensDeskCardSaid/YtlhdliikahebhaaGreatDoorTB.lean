/- Proved here: facts on the program that the row names; no condition. -/
import Derived.Test.YtlhdliikahebhaaGreatDoorTA
namespace Go.Proofs.YtlhdliikahebhaaGreatDoor
open Go
set_option maxRecDepth 100000
theorem t_hd : ∀ os tape, varsDone Tryz.prog 400 661 os tape = true := fun _ _ => by kernel_rfl
end Go.Proofs.YtlhdliikahebhaaGreatDoor

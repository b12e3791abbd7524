/- Proved here: facts on the program that the row names; no condition. -/
import Derived.Test.YtlhdliikahebhaaGreatDoorTA
namespace Go.Proofs.YtlhdliikahebhaaGreatDoor
open Go
set_option maxRecDepth 100000
theorem t_h2b : ∀ os tape, (DataW.laidRun Tryz.prog (varsWorld Tryz.prog 400 661 os tape).memory 8 (laidT.map (·.1))).map (fun x => laidRowsB Tryz.prog (varsWorld Tryz.prog 400 661 os tape).memory x.2) = some true := fun _ _ => by kernel_rfl
end Go.Proofs.YtlhdliikahebhaaGreatDoor

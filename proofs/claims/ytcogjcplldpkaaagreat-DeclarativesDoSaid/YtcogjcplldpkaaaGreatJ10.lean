/- Proved here: facts on the program that the row's cells name; no condition. -/
import Derived.Test.YtcogjcplldpkaaaGreatRows
import Derived.Test.YtcogjcplldpkaaaGreatChecked
import Derived.JoinedOf
import Derived.KernelRfl
namespace Go.Proofs.YtcogjcplldpkaaaGreat
set_option maxRecDepth 100000
theorem lr1 : (List.range' 176 176).all (rowFine Tryz.prog) = true := by kernel_rfl
end Go.Proofs.YtcogjcplldpkaaaGreat

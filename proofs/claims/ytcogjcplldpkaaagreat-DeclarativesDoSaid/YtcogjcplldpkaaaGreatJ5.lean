/- Proved here: facts on the program that the row's cells name; no condition. -/
import Derived.Test.YtcogjcplldpkaaaGreatRows
import Derived.Test.YtcogjcplldpkaaaGreatChecked
import Derived.JoinedOf
import Derived.KernelRfl
namespace Go.Proofs.YtcogjcplldpkaaaGreat
set_option maxRecDepth 100000
theorem jf12 : ((Rows.declarativesDoRow.named == Tryz.prog.varsNamed 3)) = true := by kernel_rfl
end Go.Proofs.YtcogjcplldpkaaaGreat

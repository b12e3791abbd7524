/- Proved here: facts on the program that the row's cells name; no condition. -/
import Derived.Test.YtcogjcplldpkaaaGreatRows
import Derived.Test.YtcogjcplldpkaaaGreatChecked
import Derived.JoinedOf
import Derived.KernelRfl
namespace Go.Proofs.YtcogjcplldpkaaaGreat
set_option maxRecDepth 100000
theorem lr0 : (List.range' 0 176).all (rowFine Tryz.prog) = true := by kernel_rfl
theorem lg : Tryz.prog.globals.all (fun g => decide (g.type < Tryz.prog.types.size)) = true := by kernel_rfl
theorem lf : Tryz.prog.funcs.all (fun f => f.params.all fun t => decide (t < Tryz.prog.types.size)) = true := by kernel_rfl
end Go.Proofs.YtcogjcplldpkaaaGreat

/- Proved here: facts on the program that the row names; no condition. -/
import Derived.Test.YtlhdliikahebhaaGreatDoorRows
import Derived.Test.YtlhdliikahebhaaGreatDoorChecked
import Derived.ClosedOfChecked
import Derived.KernelRfl
namespace Go.Proofs.YtlhdliikahebhaaGreatDoor
open Go Go.ClosedOfChecked
set_option maxRecDepth 100000
theorem c_ty : Tryz.checked.prog.types = Tryz.checked.src.types := by kernel_rfl
theorem c_rest : (Tryz.checked.prog.globals.all (fun g => decide (g.type < Tryz.checked.prog.types.size)) && Tryz.checked.prog.funcs.all (fun f => f.params.all fun t => decide (t < Tryz.checked.prog.types.size))) = true := by kernel_rfl
theorem c_keys : keysListB Tryz.checked.prog = true := by kernel_rfl
theorem c_all : laidOutB Tryz.checked.prog = true ∧ mapsRowed Tryz.checked.prog = true ∧ Tryz.checked.prog.plainKeys = true := closed_of_checked Tryz.checked c_ty c_rest c_keys
theorem laidOut : laidOutB Tryz.prog = true := c_all.1
end Go.Proofs.YtlhdliikahebhaaGreatDoor

/- Proved here: facts on the program that the row names; no condition. -/
import Derived.Test.YtlhdliikahebhaaGreatDoorRows
import Derived.Test.YtlhdliikahebhaaGreatDoorChecked
import Derived.JoinedOf
import Derived.KernelRfl
namespace Go.Proofs.YtlhdliikahebhaaGreatDoor
open Go
set_option maxRecDepth 100000
theorem jf0 : (Rows.screensDeskRow.wf (OpenSpec.ofChange Rows.screensDeskSpec)) = true := by kernel_rfl
theorem jf3 : (Tryz.f3.params.all (Tryz.prog.readableRec ·)) = true := by kernel_rfl
theorem jf4 : (namedTie Tryz.prog Rows.screensDeskRow.named Rows.screensDeskSpec.vars) = true := by kernel_rfl
theorem jf5 : ((Rows.screensDeskRow.stops == [])) = true := by kernel_rfl
theorem jf6 : ((Tryz.prog.stops == [])) = true := by kernel_rfl
theorem jf7 : ((Rows.screensDeskRow.knobs == [])) = true := by kernel_rfl
theorem jf8 : ((Tryz.prog.stopKnobs == [])) = true := by kernel_rfl
theorem jf13 : ((Rows.screensDeskRow.maps == (Tryz.f3.params.toList ++ Rows.screensDeskSpec.plain.varTypes Tryz.prog).any (Tryz.prog.mapsRec ·))) = true := by kernel_rfl
theorem jf14 : ((Rows.screensDeskRow.ifaces == (Tryz.f3.params.toList ++ Rows.screensDeskSpec.plain.varTypes Tryz.prog).any (Tryz.prog.ifacesRec ·))) = true := by kernel_rfl
theorem jf15 : ((Rows.screensDeskRow.mapsOut == Tryz.prog.mapsAmong Tryz.f3.resultTypes.toList)) = true := by kernel_rfl
theorem jf16 : ((Rows.screensDeskRow.loops == (Tryz.f3.params.toList ++ Rows.screensDeskSpec.plain.varTypes Tryz.prog).any (Tryz.prog.loopsFrom ·))) = true := by kernel_rfl
theorem jf17 : ((Rows.screensDeskRow.wideKeys == (Tryz.f3.params.toList ++ Rows.screensDeskSpec.plain.varTypes Tryz.prog ++ Tryz.f3.resultTypes.toList).any (Tryz.prog.wideKeysFrom ·))) = true := by kernel_rfl
theorem jf18 : (Rows.screensDeskSpec.vars.all (Tryz.prog.varReadable ·)) = true := by kernel_rfl
theorem jf19 : (Tryz.f3.resultTypes.all (fun t => Tryz.prog.readableRec t && decide (t < Tryz.prog.types.size))) = true := by kernel_rfl
theorem jf20 : ((Rows.screensDeskRow.ifacesOut == Tryz.f3.resultTypes.toList.any (Tryz.prog.ifacesRec ·))) = true := by kernel_rfl
theorem jf21 : ((Rows.screensDeskRow.loopsOut == Tryz.f3.resultTypes.toList.any (Tryz.prog.loopsFrom ·))) = true := by kernel_rfl
theorem jf23 : (Rows.screensDeskRow.shortTexts.isNone) = true := by kernel_rfl
theorem jf27 : ((Tryz.prog.make == some Rows.screensDeskRow.make)) = true := by kernel_rfl
theorem jf28 : ((Rows.screensDeskRow.kinds == (if Rows.screensDeskRow.domain.isEmpty then [] else Tryz.f3.params.toList.map fun t => match Tryz.prog.underlying t with | some (.int k) => some k | _ => none))) = true := by kernel_rfl
theorem jf29 : ((Rows.screensDeskRow.pinned == Rows.screensDeskRow.pinnedBy)) = true := by kernel_rfl
theorem jf30 : ((Rows.screensDeskRow.veiled == (Tryz.f3.params.toList ++ Rows.screensDeskSpec.plain.varTypes Tryz.prog ++ Tryz.f3.resultTypes.toList).any (Tryz.prog.veiledRec ·))) = true := by kernel_rfl
theorem jf31 : (Rows.screensDeskRow.veiledFits Tryz.prog Tryz.f3.params.toList (Tryz.f3.params.toList ++ Rows.screensDeskSpec.plain.varTypes Tryz.prog ++ Tryz.f3.resultTypes.toList)) = true := by kernel_rfl
end Go.Proofs.YtlhdliikahebhaaGreatDoor

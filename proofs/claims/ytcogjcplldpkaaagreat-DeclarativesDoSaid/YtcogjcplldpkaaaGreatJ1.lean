/- Proved here: facts on the program that the row's cells name; no condition. -/
import Derived.Test.YtcogjcplldpkaaaGreatRows
import Derived.Test.YtcogjcplldpkaaaGreatChecked
import Derived.JoinedOf
import Derived.KernelRfl
namespace Go.Proofs.YtcogjcplldpkaaaGreat
set_option maxRecDepth 100000
theorem jf0 : (Rows.declarativesDoRow.wf (OpenSpec.ofChange Rows.declarativesDoSpec)) = true := by kernel_rfl
theorem jf2 : (mapsRowed Tryz.prog) = true := by kernel_rfl
theorem jf3 : (Tryz.f3.params.all (Tryz.prog.readableRec ·)) = true := by kernel_rfl
theorem jf4 : (namedTie Tryz.prog Rows.declarativesDoRow.named Rows.declarativesDoSpec.vars) = true := by kernel_rfl
theorem jf5 : ((Rows.declarativesDoRow.stops == [])) = true := by kernel_rfl
theorem jf6 : ((Tryz.prog.stops == [])) = true := by kernel_rfl
theorem jf7 : ((Rows.declarativesDoRow.knobs == [])) = true := by kernel_rfl
theorem jf8 : ((Tryz.prog.stopKnobs == [])) = true := by kernel_rfl
theorem jf13 : ((Rows.declarativesDoRow.maps == (Tryz.f3.params.toList ++ Rows.declarativesDoSpec.plain.varTypes Tryz.prog).any (Tryz.prog.mapsRec ·))) = true := by kernel_rfl
theorem jf14 : ((Rows.declarativesDoRow.ifaces == (Tryz.f3.params.toList ++ Rows.declarativesDoSpec.plain.varTypes Tryz.prog).any (Tryz.prog.ifacesRec ·))) = true := by kernel_rfl
theorem jf15 : ((Rows.declarativesDoRow.mapsOut == Tryz.prog.mapsAmong Tryz.f3.resultTypes.toList)) = true := by kernel_rfl
theorem jf16 : ((Rows.declarativesDoRow.loops == (Tryz.f3.params.toList ++ Rows.declarativesDoSpec.plain.varTypes Tryz.prog).any (Tryz.prog.loopsFrom ·))) = true := by kernel_rfl
theorem jf17 : ((Rows.declarativesDoRow.wideKeys == (Tryz.f3.params.toList ++ Rows.declarativesDoSpec.plain.varTypes Tryz.prog ++ Tryz.f3.resultTypes.toList).any (Tryz.prog.wideKeysFrom ·))) = true := by kernel_rfl
theorem jf18 : (Rows.declarativesDoSpec.vars.all (Tryz.prog.varReadable ·)) = true := by kernel_rfl
theorem jf19 : (Tryz.f3.resultTypes.all (fun t => Tryz.prog.readableRec t && decide (t < Tryz.prog.types.size))) = true := by kernel_rfl
theorem jf20 : ((Rows.declarativesDoRow.ifacesOut == Tryz.f3.resultTypes.toList.any (Tryz.prog.ifacesRec ·))) = true := by kernel_rfl
theorem jf21 : ((Rows.declarativesDoRow.loopsOut == Tryz.f3.resultTypes.toList.any (Tryz.prog.loopsFrom ·))) = true := by kernel_rfl
theorem jf22 : ((Rows.declarativesDoRow.plainKeys == Tryz.prog.plainKeys)) = true := by kernel_rfl
theorem jf23 : (Rows.declarativesDoRow.shortTexts.isNone) = true := by kernel_rfl
theorem jf27 : ((Tryz.prog.make == some Rows.declarativesDoRow.make)) = true := by kernel_rfl
theorem jf28 : ((Rows.declarativesDoRow.kinds == (if Rows.declarativesDoRow.domain.isEmpty then [] else Tryz.f3.params.toList.map fun t => match Tryz.prog.underlying t with | some (.int k) => some k | _ => none))) = true := by kernel_rfl
theorem jf29 : ((Rows.declarativesDoRow.pinned == Rows.declarativesDoRow.pinnedBy)) = true := by kernel_rfl
theorem jf30 : ((Rows.declarativesDoRow.veiled == (Tryz.f3.params.toList ++ Rows.declarativesDoSpec.plain.varTypes Tryz.prog ++ Tryz.f3.resultTypes.toList).any (Tryz.prog.veiledRec ·))) = true := by kernel_rfl
theorem jf31 : (Rows.declarativesDoRow.veiledFits Tryz.prog Tryz.f3.params.toList (Tryz.f3.params.toList ++ Rows.declarativesDoSpec.plain.varTypes Tryz.prog ++ Tryz.f3.resultTypes.toList)) = true := by kernel_rfl
end Go.Proofs.YtcogjcplldpkaaaGreat

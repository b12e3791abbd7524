/- Proved here: facts on the program that the row's cells name; no condition. -/
import Derived.Test.YtcogjcplldpkaaaGreatJ1
import Derived.Test.YtcogjcplldpkaaaGreatJ2
import Derived.Test.YtcogjcplldpkaaaGreatJ3
import Derived.Test.YtcogjcplldpkaaaGreatJ4
import Derived.Test.YtcogjcplldpkaaaGreatJ5
import Derived.Test.YtcogjcplldpkaaaGreatJ6
import Derived.Test.YtcogjcplldpkaaaGreatJ7
import Derived.Test.YtcogjcplldpkaaaGreatJ8
import Derived.Test.YtcogjcplldpkaaaGreatJ9
import Derived.Test.YtcogjcplldpkaaaGreatJ10
import Derived.Test.YtcogjcplldpkaaaGreatJ11
import Derived.Test.YtcogjcplldpkaaaGreatJ12
namespace Go.Proofs.YtcogjcplldpkaaaGreat
set_option maxRecDepth 100000
theorem band {a b : Bool} (h : a = true) (k : b = true) : (a && b) = true := by rw [h, k]; rfl
theorem laid_range : List.range Tryz.prog.types.size = List.range' 0 176 ++ (List.range' 176 176 ++ (List.range' 352 176 ++ (List.range' 528 174))) := by kernel_rfl
theorem jf1 : laidOutB Tryz.prog = true := by
  unfold laidOutB
  rw [laid_range]
  simp only [List.all_append, lr0, lr1, lr2, lr3, lg, lf, Bool.and_self]
theorem joined : joinedFacts Tryz.prog 3 Tryz.f3 Rows.declarativesDoSpec Rows.declarativesDoRow = true := by
  delta joinedFacts
  exact band (band (band (band (band (band (band (band (band (band (band (band (band (band (band (band (band (band (band (band (band (band (band (band (band (band (band (band (band (band (band (jf0) jf1) jf2) jf3) jf4) jf5) jf6) jf7) jf8) jf9) jf10) jf11) jf12) jf13) jf14) jf15) jf16) jf17) jf18) jf19) jf20) jf21) jf22) jf23) jf24) jf25) jf26) jf27) jf28) jf29) jf30) jf31
theorem named0 : Tryz.prog.funcNamed Rows.declarativesDoRow.func = some 3 := by kernel_rfl
end Go.Proofs.YtcogjcplldpkaaaGreat

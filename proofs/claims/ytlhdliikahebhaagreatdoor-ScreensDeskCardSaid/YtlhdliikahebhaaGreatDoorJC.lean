/- Proved here: facts on the program that the row names; no condition. -/
import Derived.Test.YtlhdliikahebhaaGreatDoorJ1
import Derived.Test.YtlhdliikahebhaaGreatDoorJ2
import Derived.Test.YtlhdliikahebhaaGreatDoorJ3
import Derived.Test.YtlhdliikahebhaaGreatDoorJ4
import Derived.Test.YtlhdliikahebhaaGreatDoorJ5
import Derived.Test.YtlhdliikahebhaaGreatDoorJ6
import Derived.Test.YtlhdliikahebhaaGreatDoorJ7
import Derived.Test.YtlhdliikahebhaaGreatDoorJ8
import Derived.Test.YtlhdliikahebhaaGreatDoorJ9
import Derived.Test.YtlhdliikahebhaaGreatDoorJB
import Derived.JoinedOf
namespace Go.Proofs.YtlhdliikahebhaaGreatDoor
open Go
set_option maxRecDepth 100000
theorem jf1 : (laidOutB Tryz.prog) = true := c_all.1
theorem jf2 : (mapsRowed Tryz.prog) = true := c_all.2.1
theorem band {a b : Bool} (h : a = true) (k : b = true) : (a && b) = true := by rw [h, k]; rfl
theorem joined3 : joinedFacts Tryz.prog 3 Tryz.f3 Rows.screensDeskSpec Rows.screensDeskRow = true := by
  delta joinedFacts
  exact band (band (band (band (band (band (band (band (band (band (band (band (band (band (band (band (band (band (band (band (band (band (band (band (band (band (band (band (band (band (band (jf0) jf1) jf2) jf3) jf4) jf5) jf6) jf7) jf8) jf9) jf10) jf11) jf12) jf13) jf14) jf15) jf16) jf17) jf18) jf19) jf20) jf21) jf22) jf23) jf24) jf25) jf26) jf27) jf28) jf29) jf30) jf31
theorem named3 : Tryz.prog.funcNamed Rows.screensDeskRow.func = some 3 := by kernel_rfl
end Go.Proofs.YtlhdliikahebhaaGreatDoor

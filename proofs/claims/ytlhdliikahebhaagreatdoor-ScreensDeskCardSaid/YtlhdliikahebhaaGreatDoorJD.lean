/- Proved here: what ScreensDesk's row wants of the program, beside what its law computes; one condition: the law's lifted proof. -/
import Derived.Test.YtlhdliikahebhaaGreatDoorJC
import Derived.WalkKit
import Derived.ProofKit
import Derived.OpenShut
import Derived.ShutString
import Derived.ChangeOld
import Derived.Below
import Derived.LaidMore
import Derived.Lay
import Derived.SevenTiedAt
import Derived.Stop.Joined
namespace Go.Proofs.YtlhdliikahebhaaGreatDoor.screensDesk
open Go.ChangeShapes Go.WideShapes Go.ChangeAt Go.RowKit
set_option linter.unusedVariables false
/-- what the lifted proof says -/
def Lf : Prop := ∀ (os : Os) (started : os.Started) (H : Type) (enc : TypeId × Value → H), ReturnsInHanded {} Tryz.checked os 3 .any (fun w args => (Rows.screensDeskSpec.pre enc Tryz.prog Tryz.f3 Rows.screensDeskRow.domain false w args ∧ laidMetH Tryz.prog Rows.screensDeskRow.laid w) ∧ sizedMet enc Tryz.prog Tryz.f3 (OpenSpec.ofChange Rows.screensDeskSpec) false w args)
      (Rows.screensDeskSpec.post enc Tryz.prog Tryz.f3 false true false false)
theorem over (lifted : Lf) : Rows.screensDeskRow.holds Tryz.pinned (OpenSpec.ofChange Rows.screensDeskSpec) :=
  OpenClaim.holds_of_wide 3 Tryz.f3 rfl rfl rfl rfl rfl rfl rfl ⟨rfl, rfl, rfl, rfl, rfl⟩ rfl rfl rfl rfl rfl named3 Tryz.func3 joined3
    (of_decide_eq_true (by kernel_rfl)) (by unfold Func.isWrapper; first | (rw [if_pos (by decide +kernel)]; kernel_rfl) | (rw [if_neg (by decide +kernel)]; exact ⟨rfl, rfl⟩))
    (fun os started H enc _ => lifted os started H enc)
end Go.Proofs.YtlhdliikahebhaaGreatDoor.screensDesk

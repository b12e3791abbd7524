/- Proved here: no function of the program starts a goroutine; no condition. -/
import Derived.Test.YtlhdliikahebhaaGreatDoorJC
import Derived.Test.YtlhdliikahebhaaGreatDoorCards
namespace Go.Proofs.YtlhdliikahebhaaGreatDoor
theorem goesN : Tryz.prog.funcs.any Func.goes = false := by kernel_rfl
theorem goes_none {P : Program} (h : P.funcs.any Func.goes = false) (f : FuncId) : P.goes f = false := by
  have hg : ∀ g : Nat, (P.funcs[g]?).any Func.goes = false := fun g => by
    cases hq : P.funcs[g]? with
    | none => rfl
    | some fn =>
      obtain ⟨hl, he⟩ := Array.getElem?_eq_some_iff.1 hq
      have := (Array.any_eq_false.1 h) g hl
      rw [he] at this
      simpa using this
  have hc : ((P.closure f).any fun g => (P.funcs[g]?).any Func.goes) = false := by simp [hg]
  unfold Program.goes
  rw [hc, h, Bool.and_false, Bool.or_false]
theorem goes3 : false = Rows.screensDeskRow.goesBy Tryz.prog := by
  unfold OpenClaim.goesBy Program.goesAt Program.goesFrom
  rw [named3, Option.any_some, goes_none goesN]
  rfl
end Go.Proofs.YtlhdliikahebhaaGreatDoor

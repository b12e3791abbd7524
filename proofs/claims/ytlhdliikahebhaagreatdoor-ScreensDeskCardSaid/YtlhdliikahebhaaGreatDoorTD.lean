/- Proved here: facts on the program that the row names; no condition. -/
import Derived.Test.YtlhdliikahebhaaGreatDoorTA
namespace Go.Proofs.YtlhdliikahebhaaGreatDoor
open Go
set_option maxRecDepth 100000
def keysB : List MemPlace → Nat → Bool
  | [], _ => true
  | .cell b off :: l, m => Nat.blt off 1024 && (!Nat.testBit m (b * 1024 + off)) && keysB l (m ||| (1 <<< (b * 1024 + off)))
  | .map _ :: _, _ => false
theorem keysB_ok : ∀ {l : List MemPlace} {m : Nat}, keysB l m = true → l.Nodup ∧ ∀ b off, MemPlace.cell b off ∈ l → off < 1024 ∧ m.testBit (b * 1024 + off) = false
  | [], _, _ => ⟨List.nodup_nil, fun _ _ h => by cases h⟩
  | .map _ :: _, _, h => by cases h
  | .cell b off :: l, m, h => by
    simp only [keysB, Bool.and_eq_true, Bool.not_eq_true'] at h
    obtain ⟨⟨h1, h2⟩, h3⟩ := h
    have h1' : off < 1024 := by simp [Nat.blt] at h1; omega
    obtain ⟨n, k⟩ := keysB_ok h3
    have k' : ∀ b' off', MemPlace.cell b' off' ∈ l → off' < 1024 ∧ m.testBit (b' * 1024 + off') = false ∧ b' * 1024 + off' ≠ b * 1024 + off := fun b' off' hm => by
      obtain ⟨q1, q2⟩ := k b' off' hm
      rw [Nat.testBit_or, Bool.or_eq_false_iff, Nat.shiftLeft_eq, Nat.one_mul, Nat.testBit_two_pow] at q2
      exact ⟨q1, q2.1, fun e => by simp [e] at q2⟩
    refine ⟨List.nodup_cons.2 ⟨fun hm => (k' b off hm).2.2 rfl, n⟩, fun b' off' hm => ?_⟩
    rcases List.mem_cons.1 hm with e | hm
    · cases e; exact ⟨h1', h2⟩
    · exact ⟨(k' b' off' hm).1, (k' b' off' hm).2.1⟩
theorem t_h2a : ∀ os tape, (DataW.laidRun Tryz.prog (varsWorld Tryz.prog 400 661 os tape).memory 8 (laidT.map (·.1))).map (fun x => keysB x.2 0) = some true := fun _ _ => by kernel_rfl
end Go.Proofs.YtlhdliikahebhaaGreatDoor

/- Proved here: arguments of the six Sorts laws as data of the abstract machine, and a world in which the listed variables are laid; no condition. -/
import Derived.Test.YtabgobmeibjeeaaGreatDoorLo18
import Derived.Test.YtabgobmeibjeeaaGreatDoorS20
import Derived.Test.YtabgobmeibjeeaaGreatDoorTie
import Derived.WalkKit
import Derived.ProofKit
import Derived.OpenShut
import Derived.ShutString
import Derived.ChangeOld
import Derived.Below
import Derived.LaidMore
import Derived.Lay
import Derived.SevenTiedAt
import Derived.Stop.Joined
namespace Go.Proofs.YtabgobmeibjeeaaGreatDoor
open Go.ChangeShapes Go.WideShapes Go.ChangeAt Go.RowKit
set_option linter.unusedVariables false
set_option maxRecDepth 100000

theorem own : ownKnob Tryz.prog.godebug = none := by kernel_rfl
theorem laidOut : laidOutB Tryz.prog = true := by kernel_rfl
theorem ty3 : Tryz.prog.underlying 3 = some (.int .i64) := by kernel_rfl
theorem ty4 : Tryz.prog.underlying 4 = some .bool := by kernel_rfl
theorem ty5 : Tryz.prog.underlying 5 = some (.int .u8) := by kernel_rfl
theorem ty23 : Tryz.prog.underlying 23 = some (.slice 83) := by kernel_rfl
theorem ty24 : Tryz.prog.underlying 24 = some (.slice 37) := by kernel_rfl
theorem ty37 : Tryz.prog.underlying 37 = some (.int .u32) := by kernel_rfl
theorem ty38 : Tryz.prog.underlying 38 = some (.array 3 37) := by kernel_rfl
theorem ty43 : Tryz.prog.underlying 43 = some (.slice 5) := by kernel_rfl
theorem ty47 : Tryz.prog.underlying 47 = some (.int .i16) := by kernel_rfl
theorem ty61 : Tryz.prog.underlying 61 = some (.slice 24) := by kernel_rfl
theorem ty83 : Tryz.prog.underlying 83 = some (.array 3 5) := by kernel_rfl
def laidL : List (String × DataW Unit) := Rows.sortsCompareRow.laid
theorem door_met (os : Os) (args : Array Value) : laidMetH Tryz.prog laidL ((World.laidAll Tryz.prog os laidL).forCall (fun _ _ => 0) ⟨#[], args, []⟩).memory := by
  rw [MakeChecks.laidMetH_plain _ _ _ (by kernel_rfl)]
  exact laidMet_laidAll _ (by kernel_rfl) (by kernel_rfl)

/-- an argument of several cells -/
theorem vr_agg {W : World} {ds : List D} {cs : Array Value} (h : VL W rho0 [] ds cs.toList) (hf : freeL ds) : VR W rho0 [] (.agg ds) (.agg cs) := by
  obtain ⟨l⟩ := cs
  refine VR.agg ds l ?_ ?_ (fun j d v h1 h2 => h.get h1 h2)
  · exact h.len
  · rw [List.all_eq_true]
    intro d hd
    have := hf d hd
    cases d <;> first | rfl | (simp [D.free] at this)
theorem okWide_array {P : Program} {w : World} {r : Reach} {base : Nat} {t : TypeId} {v : Value} {k : Nat} {e : TypeId} (ht : P.underlying t = some (.array k e)) (h : Value.okWide P w r base t v) : ∃ cs, v = .agg cs := by
  simp only [Value.okWide, ht] at h
  obtain ⟨cs, h1, _⟩ := h
  exact ⟨cs, h1⟩
/-- the keys -/
theorem keysArg {ds : List D} (h : Sh Tryz.prog 3 23 ds) : ∃ (x : D) (l : List (Nat × Nat × Nat)), ds = [x] ∧ SlD 3 (triRows l) x ∧ (∀ t ∈ l, t.1 < 256 ∧ t.2.1 < 256 ∧ t.2.2 < 256) ∧ l.length ≤ 9223372036854775807 := by
  have e1 : Tryz.prog.cellsOf 83 = 3 := by kernel_rfl
  obtain ⟨x, rows, rfl, hS, hm, hr⟩ := Sh.slice ty23 h
  rw [e1] at hS
  have key : ∀ r ∈ rows, ∃ a : {t : Nat × Nat × Nat // t.1 < 256 ∧ t.2.1 < 256 ∧ t.2.2 < 256}, r = [D.int .u8 (a.1.1 : Int), .int .u8 (a.1.2.1 : Int), .int .u8 (a.1.2.2 : Int)] := fun r hr' => by
    obtain ⟨parts, rfl, hp, hf⟩ := Sh.array ty83 (hr r hr')
    match parts, hp, hf with
    | [p0, p1, p2], _, hf =>
      obtain ⟨n0, rfl, w0⟩ := Sh.int ty5 (hf p0 (by simp))
      obtain ⟨n1, rfl, w1⟩ := Sh.int ty5 (hf p1 (by simp))
      obtain ⟨n2, rfl, w2⟩ := Sh.int ty5 (hf p2 (by simp))
      obtain ⟨m0, rfl, b0⟩ := u8_nat w0
      obtain ⟨m1, rfl, b1⟩ := u8_nat w1
      obtain ⟨m2, rfl, b2⟩ := u8_nat w2
      exact ⟨⟨(m0, m1, m2), b0, b1, b2⟩, rfl⟩
  obtain ⟨l, rfl⟩ := rows_of (f := fun a : {t : Nat × Nat × Nat // t.1 < 256 ∧ t.2.1 < 256 ∧ t.2.2 < 256} => [D.int .u8 (a.1.1 : Int), .int .u8 (a.1.2.1 : Int), .int .u8 (a.1.2.2 : Int)]) key
  refine ⟨x, l.map (·.1), rfl, ?_, ?_, ?_⟩
  · have : triRows (l.map (·.1)) = l.map fun a => [D.int .u8 (a.1.1 : Int), .int .u8 (a.1.2.1 : Int), .int .u8 (a.1.2.2 : Int)] := by simp [triRows]
    rw [this]; exact hS
  · intro t ht
    simp only [List.mem_map] at ht
    obtain ⟨a, _, rfl⟩ := ht
    exact a.2
  · simp only [List.length_map] at hm ⊢
    have : maxLen ≤ 9223372036854775807 := by decide
    omega
theorem u32_nat {n : Int} (h : (Lit.int .u32 n).wf = true) : ∃ m : Nat, n = m ∧ m < 4294967296 := by
  have b : 0 ≤ n ∧ n ≤ 4294967295 := by simpa [Lit.wf, IntKind.min, IntKind.max, IntKind.signed, IntKind.bits] using h
  exact ⟨n.toNat, by omega, by omega⟩
theorem i16_int {n : Int} (h : (Lit.int .i16 n).wf = true) : -32768 ≤ n ∧ n ≤ 32767 := by
  simpa [Lit.wf, IntKind.min, IntKind.max, IntKind.signed, IntKind.bits] using h
/-- three records -/
theorem threeArg {ds : List D} (h : Sh Tryz.prog 3 38 ds) : ∃ X : Nat → Nat, ds = [.int .u32 (X 0), .int .u32 (X 1), .int .u32 (X 2)] ∧ ∀ i, X i < 4294967296 := by
  obtain ⟨parts, rfl, hp, hf⟩ := Sh.array ty38 h
  match parts, hp, hf with
  | [p0, p1, p2], _, hf =>
    obtain ⟨n0, rfl, w0⟩ := Sh.int ty37 (hf p0 (by simp))
    obtain ⟨n1, rfl, w1⟩ := Sh.int ty37 (hf p1 (by simp))
    obtain ⟨n2, rfl, w2⟩ := Sh.int ty37 (hf p2 (by simp))
    obtain ⟨m0, rfl, b0⟩ := u32_nat w0
    obtain ⟨m1, rfl, b1⟩ := u32_nat w1
    obtain ⟨m2, rfl, b2⟩ := u32_nat w2
    refine ⟨fun i => if i = 0 then m0 else if i = 1 then m1 else m2, rfl, fun i => ?_⟩
    dsimp only
    split
    · exact b0
    · split
      · exact b1
      · exact b2
def numRows (l : List Nat) : List (List D) := l.map fun n : Nat => [.int .u32 (n : Int)]
theorem numRows_of {rows : List (List D)} (hr : ∀ r ∈ rows, Sh Tryz.prog 2 37 r) : ∃ l : List Nat, rows = numRows l ∧ ∀ n ∈ l, n < 4294967296 := by
  obtain ⟨l, rfl⟩ := rows_of (f := fun a : {n : Nat // n < 4294967296} => [D.int .u32 (a.1 : Int)]) (rows := rows) (fun r h => by
    obtain ⟨n0, rfl, w0⟩ := Sh.int ty37 (hr r h)
    obtain ⟨m0, rfl, b0⟩ := u32_nat w0
    exact ⟨⟨m0, b0⟩, rfl⟩)
  refine ⟨l.map (·.1), by simp [numRows, Function.comp_def], fun n hn => ?_⟩
  simp only [List.mem_map] at hn
  obtain ⟨a, _, rfl⟩ := hn
  exact a.2
/-- a list of records -/
theorem numsArg {ds : List D} (h : Sh Tryz.prog 3 24 ds) : ∃ (x : D) (l : List Nat), ds = [x] ∧ SlD 1 (numRows l) x ∧ (∀ n ∈ l, n < 4294967296) ∧ l.length ≤ 9223372036854775807 := by
  have e1 : Tryz.prog.cellsOf 37 = 1 := by kernel_rfl
  obtain ⟨x, rows, rfl, hS, hm, hr⟩ := Sh.slice ty24 h
  rw [e1] at hS
  obtain ⟨l, rfl, hl⟩ := numRows_of hr
  refine ⟨x, l, rfl, hS, hl, ?_⟩
  have : maxLen ≤ 9223372036854775807 := by decide
  simp only [numRows, List.length_map] at hm
  omega
end Go.Proofs.YtabgobmeibjeeaaGreatDoor

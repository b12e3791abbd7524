/- Proved here: DeclarativesRules returns true for every input (any list of sections), and leaves its argument as it was; no condition. The frame of the text follows the kit's proof-skeleton. -/
import Derived.Test.YtnihohodcogpeaaE11
import Derived.Test.YtnihohodcogpeaaLo18
import Derived.WalkKit
import Derived.ProofKit
import Derived.OpenShut
import Derived.ShutString
import Derived.ChangeOld
import Derived.Below
namespace Go.Proofs.Ytnihohodcogpeaa.declarativesRules
open Go.ChangeShapes Go.WideShapes Go.ChangeAt Go.RowKit
set_option linter.unusedVariables false

theorem own : ownKnob Try.prog.godebug = none := by kernel_rfl
theorem laidOut : laidOutB Try.prog = true := by kernel_rfl

/-- the law's first argument -/
theorem sections {ds : List D} (h : Sh Try.prog 3 22 ds) : ∃ (x : D) (l : List Uu), ds = [x] ∧ SlD 3 (uRows l) x := by
  have e1 : Try.prog.cellsOf 43 = 3 := by kernel_rfl
  obtain ⟨x, rows, rfl, hS, _, hr⟩ := Sh.slice Try.underlying22 h
  rw [e1] at hS
  obtain ⟨l, rfl⟩ := rows_of (f := Uu.row) (rows := rows) (fun r hr' => by
    obtain ⟨parts, rfl, hp, hf⟩ := Sh.struct Try.underlying43 (hr r hr')
    obtain ⟨r0, h0, s0⟩ := hf 0 _ rfl
    obtain ⟨r1, h1, s1⟩ := hf 1 _ rfl
    obtain ⟨r2, h2, s2⟩ := hf 2 _ rfl
    obtain ⟨n0, rfl, w0⟩ := Sh.int Try.underlying5 s0
    obtain ⟨n1, rfl, w1⟩ := Sh.int Try.underlying5 s1
    obtain ⟨n2, rfl, w2⟩ := Sh.int Try.underlying5 s2
    obtain ⟨m0, rfl, b0⟩ := u8_nat w0
    obtain ⟨m1, rfl, b1⟩ := u8_nat w1
    obtain ⟨m2, rfl, b2⟩ := u8_nat w2
    match parts, hp, h0, h1, h2 with
    | [p0, p1, p2], _, h0, h1, h2 =>
      simp at h0 h1 h2
      subst h0 h1 h2
      exact ⟨⟨m0, m1, m2, b0, b1, b2⟩, rfl⟩)
  exact ⟨x, l, rfl, hS⟩

set_option maxRecDepth 100000 in
theorem lifted (os : Os) (started : os.Started) (H : Type) (enc : TypeId × Value → H) :
    ReturnsInHanded {} Try.checked os 3 .any (Rows.declarativesRulesSpec.pre6 enc Try.prog Try.f3 Rows.declarativesRulesRow.domain false) (Rows.declarativesRulesSpec.post enc Try.prog Try.f3 false true false false) := by
  refine returnsInHanded_of_change (C := Try.checked) own started (by kernel_rfl) Try.func3
    (ChangeSpec.witness6 (enc := enc) (C := Try.checked) false ⟨#[], #[.slice none 0 0], []⟩ 8 (by kernel_rfl) (by kernel_rfl) (by kernel_rfl) (by kernel_rfl)) ?_
  intro W base args ds gs before hval0 hW hcnd _
  have hval : ∀ (j : Nat) t v, Try.f3.params[j]? = some t → args[j]? = some v → Value.okWide Try.prog W .any base t v := hval0
  have hW' := hW
  obtain ⟨p, q, hA0, hV, rfl, hfz, hnd⟩ := hW
  have hA : DataW.TrodAll enc Try.prog W 0 (fun _ => true) true Try.f3.params.toList args.toList ds p := hA0
  rw [Try.params3] at hA hval
  obtain ⟨v0, vs0, d0, ds0, p0, q0, hargs, rfl, rfl, h0, r0⟩ := trodAll_cons hA
  obtain ⟨rfl, rfl, rfl⟩ := trodAll_nil r0
  obtain rfl : args = #[v0] := by cases args; simp_all
  obtain ⟨rfl, rfl⟩ := trodVars_none hV
  obtain ⟨a0, len0, cap0, rfl⟩ := okWide_slice Try.underlying22 (hval 0 22 v0 rfl rfl)
  have k0 := h0
  have lt0 : ∀ x ∈ p0, x.block < W.heap.size := by obtain ⟨m, hm⟩ := k0; exact DataW.trod_lt m _ _ _ hm
  obtain ⟨fuel, hf⟩ := h0
  obtain ⟨ds0, hvl, hsh, _, _⟩ := open_any 3 22 fuel _ _ (by kernel_rfl) hf
  obtain ⟨x, l, rfl, hS⟩ := sections hsh
  clear hA0 hval0
  have hx : VR W rho0 [] x (.slice a0 len0 cap0) := by
    simp only [Value.cells] at hvl
    cases hvl with | cons h _ => exact h
  refine (call0 mixed LP_ok (lawRules_run (d := 9) (by omega) _ hS) (w := W) (.cons hx .nil)).mono fun e W' ⟨he, bel⟩ => ?_
  subst he
  exact ⟨_, rfl, _, _, _, [], _, [], hW', trodAll_mk1 (shut_bool Try.underlying4 _), (trodAll_cons_mk (Below.trod laidOut (by kernel_rfl) (of_decide_eq_true (by kernel_rfl)) k0 bel lt0) trodAll_mk0), rfl, bel.frame _, fun h => by cases h⟩

theorem over : Rows.declarativesRulesRow.holds Try.pinned (OpenSpec.ofChange Rows.declarativesRulesSpec) :=
  OpenClaim.holds_of_wide 3 Try.f3 rfl rfl rfl rfl rfl rfl rfl ⟨rfl, rfl, rfl, rfl, rfl⟩ rfl rfl rfl rfl rfl (by kernel_rfl) Try.func3 (by kernel_rfl)
    (of_decide_eq_true (by kernel_rfl)) (by unfold Func.isWrapper; first | (rw [if_pos (by decide +kernel)]; kernel_rfl) | (rw [if_neg (by decide +kernel)]; exact ⟨rfl, rfl⟩))
    (fun os started H enc _ => lifted os started H enc)

/-- ████ THE STATEMENT ████ -/
theorem proved : Rows.DeclarativesRulesSaid := over
#print axioms proved
end Go.Proofs.Ytnihohodcogpeaa.declarativesRules

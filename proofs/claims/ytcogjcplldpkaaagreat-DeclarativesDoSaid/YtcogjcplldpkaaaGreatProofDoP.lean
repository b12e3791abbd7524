/- Proved here: DeclarativesDo returns true for every input (any sections, any acts), and leaves its arguments as they were; no condition. The frame of the text follows the kit's proof-skeleton. -/
import Derived.Test.YtcogjcplldpkaaaGreatM6
import Derived.Test.YtcogjcplldpkaaaGreatJC
import Derived.WalkKit
import Derived.ProofKit
import Derived.OpenShut
import Derived.ShutString
import Derived.ChangeOld
import Derived.Below
namespace Go.Proofs.YtcogjcplldpkaaaGreat.declarativesDo
open Go.ChangeShapes Go.WideShapes Go.ChangeAt Go.RowKit
set_option linter.unusedVariables false
set_option maxRecDepth 100000

theorem own : ownKnob Tryz.prog.godebug = none := by kernel_rfl
theorem laidOut : laidOutB Tryz.prog = true := jf1

/-- the law's first argument -/
theorem sections {ds : List D} (h : Sh Tryz.prog 3 22 ds) : ∃ (x : D) (l : List Uu), ds = [x] ∧ SlD 3 (uRows l) x := by
  have e1 : Tryz.prog.cellsOf 82 = 3 := by kernel_rfl
  obtain ⟨x, rows, rfl, hS, _, hr⟩ := Sh.slice Tryz.underlying22 h
  rw [e1] at hS
  obtain ⟨l, rfl⟩ := rows_of (f := Uu.row) (rows := rows) (fun r hr' => by
    obtain ⟨parts, rfl, hp, hf⟩ := Sh.struct Tryz.underlying82 (hr r hr')
    obtain ⟨r0, h0, s0⟩ := hf 0 _ rfl
    obtain ⟨r1, h1, s1⟩ := hf 1 _ rfl
    obtain ⟨r2, h2, s2⟩ := hf 2 _ rfl
    obtain ⟨n0, rfl, w0⟩ := Sh.int Tryz.underlying5 s0
    obtain ⟨n1, rfl, w1⟩ := Sh.int Tryz.underlying5 s1
    obtain ⟨n2, rfl, w2⟩ := Sh.int Tryz.underlying5 s2
    obtain ⟨m0, rfl, b0⟩ := u8_nat w0
    obtain ⟨m1, rfl, b1⟩ := u8_nat w1
    obtain ⟨m2, rfl, b2⟩ := u8_nat w2
    match parts, hp, h0, h1, h2 with
    | [p0, p1, p2], _, h0, h1, h2 =>
      simp at h0 h1 h2
      subst h0 h1 h2
      exact ⟨⟨m0, m1, m2, b0, b1, b2⟩, rfl⟩)
  exact ⟨x, l, rfl, hS⟩

/-- the law's second argument -/
theorem actsArg {ds : List D} (h : Sh Tryz.prog 3 23 ds) : ∃ (x : D) (l : List Ac), ds = [x] ∧ SlD 4 (acRows l) x := by
  have e1 : Tryz.prog.cellsOf 52 = 4 := by kernel_rfl
  obtain ⟨x, rows, rfl, hS, _, hr⟩ := Sh.slice Tryz.underlying23 h
  rw [e1] at hS
  obtain ⟨l, rfl⟩ := rows_of (f := Ac.row) (rows := rows) (fun r hr' => by
    obtain ⟨parts, rfl, hp, hf⟩ := Sh.struct Tryz.underlying52 (hr r hr')
    obtain ⟨r0, h0, s0⟩ := hf 0 _ rfl
    obtain ⟨r1, h1, s1⟩ := hf 1 _ rfl
    obtain ⟨r2, h2, s2⟩ := hf 2 _ rfl
    obtain ⟨r3, h3, s3⟩ := hf 3 _ rfl
    obtain ⟨n0, rfl, w0⟩ := Sh.int Tryz.underlying5 s0
    obtain ⟨n1, rfl, w1⟩ := Sh.int Tryz.underlying5 s1
    obtain ⟨n2, rfl, w2⟩ := Sh.int Tryz.underlying5 s2
    obtain ⟨n3, rfl, w3⟩ := Sh.int Tryz.underlying5 s3
    obtain ⟨m0, rfl, b0⟩ := u8_nat w0
    obtain ⟨m1, rfl, b1⟩ := u8_nat w1
    obtain ⟨m2, rfl, b2⟩ := u8_nat w2
    obtain ⟨m3, rfl, b3⟩ := u8_nat w3
    match parts, hp, h0, h1, h2, h3 with
    | [p0, p1, p2, p3], _, h0, h1, h2, h3 =>
      simp at h0 h1 h2 h3
      subst h0 h1 h2 h3
      exact ⟨⟨m0, m1, m2, m3, b0, b1, b2, b3⟩, rfl⟩)
  exact ⟨x, l, rfl, hS⟩

set_option maxRecDepth 100000 in
theorem lifted (os : Os) (started : os.Started) (H : Type) (enc : TypeId × Value → H) :
    ReturnsInHanded {} Tryz.checked os 3 .any (Rows.declarativesDoSpec.pre6 enc Tryz.prog Tryz.f3 Rows.declarativesDoRow.domain false) (Rows.declarativesDoSpec.post enc Tryz.prog Tryz.f3 false true false false) := by
  refine returnsInHanded_of_change (C := Tryz.checked) own started (by kernel_rfl) Tryz.func3
    (ChangeSpec.witness6 (enc := enc) (C := Tryz.checked) false ⟨#[], #[.slice none 0 0, .slice none 0 0], []⟩ 8 (by kernel_rfl) (by kernel_rfl) (by kernel_rfl) (by kernel_rfl)) ?_
  intro W base args ds gs before hval0 hW hcnd _
  have hval : ∀ (j : Nat) t v, Tryz.f3.params[j]? = some t → args[j]? = some v → Value.okWide Tryz.prog W .any base t v := hval0
  have hW' := hW
  obtain ⟨p, q, hA0, hV, rfl, hfz, hnd⟩ := hW
  have hA : DataW.TrodAll enc Tryz.prog W 0 (fun _ => true) true Tryz.f3.params.toList args.toList ds p := hA0
  rw [Tryz.params3] at hA hval
  obtain ⟨v0, vs0, d0, ds0, p0, q0, hargs, rfl, rfl, h0, r0⟩ := trodAll_cons hA
  obtain ⟨v1, vs1, d1, ds1, p1, q1, hargs1, rfl, rfl, h1, r1⟩ := trodAll_cons r0
  obtain ⟨rfl, rfl, rfl⟩ := trodAll_nil r1
  subst hargs1
  obtain rfl : args = #[v0, v1] := by cases args; simp_all
  obtain ⟨rfl, rfl⟩ := trodVars_none hV
  obtain ⟨a0, len0, cap0, rfl⟩ := okWide_slice Tryz.underlying22 (hval 0 22 v0 rfl rfl)
  obtain ⟨a1, len1, cap1, rfl⟩ := okWide_slice Tryz.underlying23 (hval 1 23 v1 rfl rfl)
  have k0 := h0
  have lt0 : ∀ x ∈ p0, x.block < W.heap.size := by obtain ⟨m, hm⟩ := k0; exact DataW.trod_lt m _ _ _ hm
  have k1 := h1
  have lt1 : ∀ x ∈ p1, x.block < W.heap.size := by obtain ⟨m, hm⟩ := k1; exact DataW.trod_lt m _ _ _ hm
  obtain ⟨fuel, hf⟩ := h0
  obtain ⟨dd0, hvl0, hsh0, _, _⟩ := open_any (G := GT) 3 22 fuel _ _ (by kernel_rfl) hf
  obtain ⟨x, l, rfl, hS⟩ := sections hsh0
  obtain ⟨fuel1, hf1⟩ := h1
  obtain ⟨dd1, hvl1, hsh1, _, _⟩ := open_any (G := GT) 3 23 fuel1 _ _ (by kernel_rfl) hf1
  obtain ⟨y, acts, rfl, hY⟩ := actsArg hsh1
  clear hA0 hval0
  have hx0 : VR W (rho0 GT) [] x (.slice a0 len0 cap0) := by
    simp only [Value.cells] at hvl0
    cases hvl0 with | cons h _ => exact h
  have hx1 : VR W (rho0 GT) [] y (.slice a1 len1 cap1) := by
    simp only [Value.cells] at hvl1
    cases hvl1 with | cons h _ => exact h
  refine (call0 mixed LP_ok (lawDo_run (d := 12) (by omega) _ hS hY) (w := W) (glob_none W) (.cons hx0 (.cons hx1 .nil))).mono fun e W' ⟨he, bel⟩ => ?_
  subst he
  exact ⟨_, rfl, _, _, _, [], _, [], hW', trodAll_mk1 (shut_bool Tryz.underlying4 _), (trodAll_cons_mk (Below.trod laidOut (by kernel_rfl) (of_decide_eq_true (by kernel_rfl)) k0 bel lt0) (trodAll_cons_mk (Below.trod laidOut (by kernel_rfl) (of_decide_eq_true (by kernel_rfl)) k1 bel lt1) trodAll_mk0)), rfl, bel.frame _, fun h => by cases h⟩

theorem over : Rows.declarativesDoRow.holds Tryz.pinned (OpenSpec.ofChange Rows.declarativesDoSpec) :=
  OpenClaim.holds_of_wide 3 Tryz.f3 rfl rfl rfl rfl rfl rfl rfl ⟨rfl, rfl, rfl, rfl, rfl⟩ rfl rfl rfl rfl rfl named0 Tryz.func3 joined
    (of_decide_eq_true (by kernel_rfl)) (by unfold Func.isWrapper; first | (rw [if_pos (by decide +kernel)]; kernel_rfl) | (rw [if_neg (by decide +kernel)]; exact ⟨rfl, rfl⟩))
    (fun os started H enc _ => lifted os started H enc)

/-- ████ THE STATEMENT ████ -/
theorem proved : Rows.DeclarativesDoSaid := over
#print axioms proved
end Go.Proofs.YtcogjcplldpkaaaGreat.declarativesDo

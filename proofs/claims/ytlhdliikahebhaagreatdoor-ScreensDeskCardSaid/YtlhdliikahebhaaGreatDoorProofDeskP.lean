/- Proved here: ScreensDesk returns true for every input, where the listed package variables start as the program's text lays them, and leaves its arguments as they were; then the tied card; no further condition. -/
import Derived.Test.YtlhdliikahebhaaGreatDoorN13
import Derived.Test.YtlhdliikahebhaaGreatDoorJE
namespace Go.Proofs.YtlhdliikahebhaaGreatDoor.screensDesk
open Go.ChangeShapes Go.WideShapes Go.ChangeAt Go.RowKit
set_option linter.unusedVariables false
set_option linter.unusedSimpArgs false

set_option maxRecDepth 100000 in
theorem lifted : Lf := by
  intro os started H enc
  refine returnsInHanded_of_change_and (C := Tryz.checked) (X := fun w _ => laidMetH Tryz.prog Pj w) (fun _ _ _ hh h => h.of_heap hh) own started (by kernel_rfl) Tryz.func3
    (ChangeSpec.witness_shaped (enc := enc) (C := Tryz.checked) (os := os) (X := fun w _ => laidMetH Tryz.prog Pj w) false (World.laidAll Tryz.prog os Pj) #[.slice none 0 0, .int .u32 0, .slice none 0 0] 8 (World.laidAll_os _ _ _)
      (World.shaped_of_ZipB (by kernel_rfl) (by kernel_rfl)) (by kernel_rfl) (by kernel_rfl) (by kernel_rfl) (door_met os _)) ?_
  intro W base args ds gs before hval0 hW hcnd _ hL _
  have qB : ∀ (j : Nat) t v, Tryz.f3.params[j]? = some t → args[j]? = some v → Value.okWide Tryz.prog W .any base t v := hval0
  have hW' := hW
  obtain ⟨p, q, rZ, hV, rfl, hfz, yF⟩ := hW
  have hA : DataW.TrodAll enc Tryz.prog W 0 (fun _ => true) true Tryz.f3.params.toList args.toList ds p := rZ
  rw [Tryz.params3] at hA qB
  obtain ⟨v0, vs0, d0, ds0, p0, q0, hargs0, rfl, rfl, h0, r0⟩ := trodAll_cons hA
  obtain ⟨v1, vs1, d1, ds1, p1, q1, hargs1, rfl, rfl, h1, r1⟩ := trodAll_cons r0
  obtain ⟨v2, vs2, d2, ds2, p2, q2, hargs2, rfl, rfl, h2, r2⟩ := trodAll_cons r1
  obtain ⟨rfl, rfl, rfl⟩ := trodAll_nil r2
  subst hargs2
  subst hargs1
  obtain rfl : args = #[v0, v1, v2] := by cases args; simp_all
  obtain ⟨rfl, rfl⟩ := trodVars_none hV
  obtain ⟨a0, len0, cap0, rfl⟩ := okWide_slice ty22 (qB 0 22 v0 rfl rfl)
  obtain ⟨ha0, rfl⟩ := okWide_int ty23 (qB 1 23 v1 rfl rfl)
  obtain ⟨a2, len2, cap2, rfl⟩ := okWide_slice ty24 (qB 2 24 v2 rfl rfl)
  have k0 := h0
  have lt0 : ∀ x ∈ p0, x.block < W.heap.size := by obtain ⟨m, hm⟩ := k0; exact DataW.trod_lt m _ _ _ hm
  obtain ⟨fuel0, uX⟩ := h0
  obtain ⟨dd0, hvl0, hsh0, hfr0, _⟩ := Mo (G := GT) 3 22 fuel0 _ _ (by kernel_rfl) uX
  obtain ⟨x0, l0, rfl, hS0⟩ := fieldsArg hsh0
  have ku : VR W (Jv GT) [] x0 (.slice a0 len0 cap0) := by
    simp only [Value.cells] at hvl0
    cases hvl0 with | cons h _ => exact h
  have k1 := h1
  have lt1 : ∀ x ∈ p1, x.block < W.heap.size := by obtain ⟨m, hm⟩ := k1; exact DataW.trod_lt m _ _ _ hm
  obtain ⟨fuel1, hf1⟩ := h1
  obtain ⟨dd1, hvl1, hsh1, hfr1, _⟩ := Mo (G := GT) 3 23 fuel1 _ _ (by kernel_rfl) hf1
  obtain ⟨ha, rfl, hw1⟩ := Sh.int ty23 hsh1
  obtain ⟨m1, rfl, wS⟩ := u32_nat hw1
  have hx1 : VR W (Jv GT) [] (.int .u32 (m1 : Nat)) (.int .u32 ha0) := by
    simp only [Value.cells] at hvl1
    cases hvl1 with | cons h _ => exact h
  have k2 := h2
  have lt2 : ∀ x ∈ p2, x.block < W.heap.size := by obtain ⟨m, hm⟩ := k2; exact DataW.trod_lt m _ _ _ hm
  obtain ⟨fuel2, hf2⟩ := h2
  obtain ⟨dd2, hvl2, hsh2, hfr2, _⟩ := Mo (G := GT) 3 24 fuel2 _ _ (by kernel_rfl) hf2
  obtain ⟨x2, ls2, rfl, hL2⟩ := linesArg hsh2
  have hx2 : VR W (Jv GT) [] x2 (.slice a2 len2 cap2) := by
    simp only [Value.cells] at hvl2
    cases hvl2 with | cons h _ => exact h
  clear rZ hval0
  refine (call0 mixed LP_ok (by decide) (lawD_run (d := 70) (by omega) _ hS0 hL2 wS) (w := W) (glob_ok hL) (.cons ku (.cons hx1 (.cons hx2 .nil)))).mono fun e W' ⟨he, bel⟩ => ?_
  subst he
  exact ⟨_, rfl, _, _, _, [], _, [], hW', trodAll_mk1 (shut_bool ty4 _), (trodAll_cons_mk (Below.trod laidOut (by kernel_rfl) (of_decide_eq_true (by kernel_rfl)) k0 bel lt0) (trodAll_cons_mk (Below.trod laidOut (by kernel_rfl) (of_decide_eq_true (by kernel_rfl)) k1 bel lt1) (trodAll_cons_mk (Below.trod laidOut (by kernel_rfl) (of_decide_eq_true (by kernel_rfl)) k2 bel lt2) trodAll_mk0))), rfl, bel.frame _, fun h => by cases h⟩
theorem proved : Rows.ScreensDeskCardSaid := proved_of lifted
end Go.Proofs.YtlhdliikahebhaaGreatDoor.screensDesk

/- Proved xk: ScreensAccept returns true for every input, where the listed package variables start as the program's text lays them, and leaves its arguments as they were; then the tied card; no further condition. The frame of the text follows the kit's worked proofs. -/
import Derived.Test.YtkaedpmmopigkaaGreatDoorM6
import Derived.Test.YtkaedpmmopigkaaGreatDoorJA
import Derived.Test.YtkaedpmmopigkaaGreatDoorCards
namespace Go.Proofs.YtkaedpmmopigkaaGreatDoor.screensAccept
open Go.ChangeShapes Go.WideShapes Go.ChangeAt Go.RowKit
set_option linter.unusedVariables false
set_option linter.unusedSimpArgs false

set_option maxRecDepth 100000 in
theorem lifted (os : Os) (started : os.Started) (H : Type) (enc : TypeId × Value → H) :
    ReturnsInHanded {} Tryz.checked os 6 .any (fun w args => (Rows.screensAcceptSpec.pre enc Tryz.prog Tryz.f6 Rows.screensAcceptRow.domain false w args ∧ laidMetH Tryz.prog Rows.screensAcceptRow.laid w) ∧ sizedMet enc Tryz.prog Tryz.f6 (OpenSpec.ofChange Rows.screensAcceptSpec) false w args)
      (Rows.screensAcceptSpec.post enc Tryz.prog Tryz.f6 false true false false) := by
  refine returnsInHanded_of_change_and (C := Tryz.checked) (X := fun w _ => laidMetH Tryz.prog Ny w) (fun _ _ _ hh h => h.of_heap hh) own started (by kernel_rfl) Tryz.func6
    (ChangeSpec.witness_shaped (enc := enc) (C := Tryz.checked) (os := os) (X := fun w _ => laidMetH Tryz.prog Ny w) false (World.laidAll Tryz.prog os Ny) #[.slice none 0 0, .slice none 0 0] 8 (World.laidAll_os _ _ _)
      (World.shaped_of_ZipB (by kernel_rfl) (by kernel_rfl)) (by kernel_rfl) (by kernel_rfl) (by kernel_rfl) (door_met os _)) ?_
  intro W base args ds gs before hval0 hW hcnd _ hL _
  have vY : ∀ (j : Nat) t v, Tryz.f6.params[j]? = some t → args[j]? = some v → Value.okWide Tryz.prog W .any base t v := hval0
  have hW' := hW
  obtain ⟨p, q, ku, hV, rfl, hfz, hnd⟩ := hW
  have hA : DataW.TrodAll enc Tryz.prog W 0 (fun _ => true) true Tryz.f6.params.toList args.toList ds p := ku
  rw [Tryz.params6] at hA vY
  obtain ⟨v0, vs0, d0, ds0, p0, q0, hargs0, rfl, rfl, h0, r0⟩ := trodAll_cons hA
  obtain ⟨v1, vs1, d1, ds1, p1, q1, hargs1, rfl, rfl, h1, r1⟩ := trodAll_cons r0
  obtain ⟨rfl, rfl, rfl⟩ := trodAll_nil r1
  subst hargs1
  obtain rfl : args = #[v0, v1] := by cases args; simp_all
  obtain ⟨rfl, rfl⟩ := trodVars_none hV
  obtain ⟨a0, len0, cap0, rfl⟩ := okWide_slice ty22 (vY 0 22 v0 rfl rfl)
  obtain ⟨a1, len1, cap1, rfl⟩ := okWide_slice ty64 (vY 1 64 v1 rfl rfl)
  have k0 := h0
  have lt0 : ∀ x ∈ p0, x.block < W.heap.size := by obtain ⟨m, hm⟩ := k0; exact DataW.trod_lt m _ _ _ hm
  obtain ⟨fuel0, kL⟩ := h0
  obtain ⟨dd0, hvl0, hsh0, hfr0, _⟩ := Nr (G := GT) 3 22 fuel0 _ _ (by kernel_rfl) kL
  obtain ⟨x0, l0, rfl, hS0⟩ := fieldsArg hsh0
  have hx0 : VR W (Ky GT) [] x0 (.slice a0 len0 cap0) := by
    simp only [Value.cells] at hvl0
    cases hvl0 with | cons h _ => exact h
  have k1 := h1
  have lt1 : ∀ x ∈ p1, x.block < W.heap.size := by obtain ⟨m, hm⟩ := k1; exact DataW.trod_lt m _ _ _ hm
  obtain ⟨fuel1, hf1⟩ := h1
  obtain ⟨dd1, hvl1, hsh1, hfr1, _⟩ := Nr (G := GT) 3 64 fuel1 _ _ (by kernel_rfl) hf1
  obtain ⟨x1, ls1, rfl, hL1⟩ := linesArg hsh1
  have hx1 : VR W (Ky GT) [] x1 (.slice a1 len1 cap1) := by
    simp only [Value.cells] at hvl1
    cases hvl1 with | cons h _ => exact h
  clear ku hval0
  refine (call0 mixed LP_ok (law6_run (d := 60) (by omega) _ hS0 hL1) (w := W) (glob_ok hL) (.cons hx0 (.cons hx1 .nil))).mono fun e W' ⟨he, bel⟩ => ?_
  subst he
  exact ⟨_, rfl, _, _, _, [], _, [], hW', trodAll_mk1 (shut_bool ty4 _), (trodAll_cons_mk (Below.trod laidOut (by kernel_rfl) (of_decide_eq_true (by kernel_rfl)) k0 bel lt0) (trodAll_cons_mk (Below.trod laidOut (by kernel_rfl) (of_decide_eq_true (by kernel_rfl)) k1 bel lt1) trodAll_mk0)), rfl, bel.frame _, fun h => by cases h⟩

theorem over : Rows.screensAcceptRow.holds Tryz.pinned (OpenSpec.ofChange Rows.screensAcceptSpec) :=
  OpenClaim.holds_of_wide 6 Tryz.f6 rfl rfl rfl rfl rfl rfl rfl ⟨rfl, rfl, rfl, rfl, rfl⟩ rfl rfl rfl rfl rfl named6 Tryz.func6 joined6
    (of_decide_eq_true (by kernel_rfl)) (by unfold Func.isWrapper; first | (rw [if_pos (by decide +kernel)]; kernel_rfl) | (rw [if_neg (by decide +kernel)]; exact ⟨rfl, rfl⟩))
    (fun os started H enc _ => lifted os started H enc)

/-- ████ THE STATEMENT ████ -/
theorem proved : Rows.ScreensAcceptCardSaid :=
  Claim7.holds_tied_plain_at .later [] [.data, .data, .data, .data, .sentinel, .sentinel, .listed, .data, .data, .data, .data, .pinned] true (true, "26af6259670eab0ebe7f0c0bf0785faa2b5cb443433d069198986a063fe716f6") true
    over (fun _ h => by cases h) (by kernel_rfl) (fun _ h => by cases h) screensAccept_row_tie rfl ⟨rfl, rfl⟩ (by kernel_rfl) rfl
    (fun f fn hf zJ => by
      obtain rfl : f = 6 := Option.some.inj ((show Tryz.prog.funcNamed "columnseven/columnsevenlaw37.ScreensAccept" = some 6 by kernel_rfl).symm.trans hf) |>.symm
      obtain rfl : fn = Tryz.f6 := (Option.some.inj (Tryz.func6.symm.trans zJ)).symm
      exact ⟨by kernel_rfl, fun j t ht => by
        rw [Tryz.params6] at ht
        have hm : t ∈ [22, 64] := by simpa using Array.mem_of_getElem? ht
        have xq : ([22, 64].all fun u => !Tryz.prog.wantsStandIn u) = true := by kernel_rfl
        exact (show Tryz.prog.wantsStandIn t = false by simpa using List.all_eq_true.1 xq t hm)⟩)
    (by kernel_rfl)
#print axioms proved
end Go.Proofs.YtkaedpmmopigkaaGreatDoor.screensAccept

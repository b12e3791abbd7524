/- Proved here: ScreensErrors returns true for every input, where the listed package variables start as the program's text lays them, and leaves its arguments as they were; then the tied card; no further condition. The frame of the text follows the kit's worked proofs. -/
import Derived.Test.YtkaedpmmopigkaaGreatDoorM6
import Derived.Test.YtkaedpmmopigkaaGreatDoorCards
namespace Go.Proofs.YtkaedpmmopigkaaGreatDoor.screensErrors
open Go.ChangeShapes Go.WideShapes Go.ChangeAt Go.RowKit
set_option linter.unusedVariables false
set_option linter.unusedSimpArgs false

set_option maxRecDepth 100000 in
theorem lifted (os : Os) (started : os.Started) (H : Type) (enc : TypeId × Value → H) :
    ReturnsInHanded {} Tryz.checked os 7 .any (fun w args => (Rows.screensErrorsSpec.pre enc Tryz.prog Tryz.f7 Rows.screensErrorsRow.domain false w args ∧ laidMetH Tryz.prog Rows.screensErrorsRow.laid w) ∧ sizedMet enc Tryz.prog Tryz.f7 (OpenSpec.ofChange Rows.screensErrorsSpec) false w args)
      (Rows.screensErrorsSpec.post enc Tryz.prog Tryz.f7 false true false false) := by
  refine returnsInHanded_of_change_and (C := Tryz.checked) (X := fun w _ => laidMetH Tryz.prog L8 w) (fun _ _ _ hh h => h.of_heap hh) own started (by kernel_rfl) Tryz.func7
    (ChangeSpec.witness_shaped (enc := enc) (C := Tryz.checked) (os := os) (X := fun w _ => laidMetH Tryz.prog L8 w) false (World.laidAll Tryz.prog os L8) #[.slice none 0 0, .int .u8 0, .int .u8 0] 8 (World.laidAll_os _ _ _)
      (World.shaped_of_ZipB (by kernel_rfl) (by kernel_rfl)) (by kernel_rfl) (by kernel_rfl) (by kernel_rfl) (door_met os _)) ?_
  intro W base args ds gs before hval0 hW hcnd _ hL _
  have hval : ∀ (j : Nat) t v, Tryz.f7.params[j]? = some t → args[j]? = some v → Value.okWide Tryz.prog W .any base t v := hval0
  have hW' := hW
  obtain ⟨p, q, hA0, hV, rfl, hfz, hnd⟩ := hW
  have hA : DataW.TrodAll enc Tryz.prog W 0 (fun _ => true) true Tryz.f7.params.toList args.toList ds p := hA0
  rw [Tryz.params7] at hA hval
  obtain ⟨v0, vs0, d0, ds0, p0, q0, hargs0, rfl, rfl, h0, r0⟩ := trodAll_cons hA
  obtain ⟨v1, vs1, d1, ds1, p1, q1, hargs1, rfl, rfl, h1, r1⟩ := trodAll_cons r0
  obtain ⟨v2, vs2, d2, ds2, p2, q2, hargs2, rfl, rfl, h2, r2⟩ := trodAll_cons r1
  obtain ⟨rfl, rfl, rfl⟩ := trodAll_nil r2
  subst hargs2
  subst hargs1
  obtain rfl : args = #[v0, v1, v2] := by cases args; simp_all
  obtain ⟨rfl, rfl⟩ := trodVars_none hV
  obtain ⟨a0, len0, cap0, rfl⟩ := okWide_slice ty22 (hval 0 22 v0 rfl rfl)
  obtain ⟨na0, rfl⟩ := okWide_int ty5 (hval 1 5 v1 rfl rfl)
  obtain ⟨nb0, rfl⟩ := okWide_int ty5 (hval 2 5 v2 rfl rfl)
  have k0 := h0
  have lt0 : ∀ x ∈ p0, x.block < W.heap.size := by obtain ⟨m, hm⟩ := k0; exact DataW.trod_lt m _ _ _ hm
  obtain ⟨fuel0, hf0⟩ := h0
  obtain ⟨dd0, hvl0, hsh0, hfr0, _⟩ := Jt (G := GT) 3 22 fuel0 _ _ (by kernel_rfl) hf0
  obtain ⟨x0, l0, rfl, hS0⟩ := fieldsArg hsh0
  have hx0 : VR W (Jg GT) [] x0 (.slice a0 len0 cap0) := by
    simp only [Value.cells] at hvl0
    cases hvl0 with | cons h _ => exact h
  have k1 := h1
  have lt1 : ∀ x ∈ p1, x.block < W.heap.size := by obtain ⟨m, hm⟩ := k1; exact DataW.trod_lt m _ _ _ hm
  obtain ⟨fuel1, hf1⟩ := h1
  obtain ⟨dd1, hvl1, hsh1, hfr1, _⟩ := Jt (G := GT) 3 5 fuel1 _ _ (by kernel_rfl) hf1
  obtain ⟨na, rfl, hw1⟩ := Sh.int ty5 hsh1
  obtain ⟨m1, rfl, hm1⟩ := P6 hw1
  have hx1 : VR W (Jg GT) [] (.int .u8 ((UInt8.ofNat m1).toNat : Nat)) (.int .u8 na0) := by
    simp only [Value.cells] at hvl1
    rw [show (UInt8.ofNat m1).toNat = m1 by simp [UInt8.toNat_ofNat, Nat.mod_eq_of_lt hm1]]
    cases hvl1 with | cons h _ => exact h
  have k2 := h2
  have lt2 : ∀ x ∈ p2, x.block < W.heap.size := by obtain ⟨m, hm⟩ := k2; exact DataW.trod_lt m _ _ _ hm
  obtain ⟨fuel2, hf2⟩ := h2
  obtain ⟨dd2, hvl2, hsh2, hfr2, _⟩ := Jt (G := GT) 3 5 fuel2 _ _ (by kernel_rfl) hf2
  obtain ⟨nb, rfl, hw2⟩ := Sh.int ty5 hsh2
  obtain ⟨m2, rfl, hm2⟩ := P6 hw2
  have hx2 : VR W (Jg GT) [] (.int .u8 ((UInt8.ofNat m2).toNat : Nat)) (.int .u8 nb0) := by
    simp only [Value.cells] at hvl2
    rw [show (UInt8.ofNat m2).toNat = m2 by simp [UInt8.toNat_ofNat, Nat.mod_eq_of_lt hm2]]
    cases hvl2 with | cons h _ => exact h
  clear hA0 hval0
  refine (call0 mixed LP_ok (law7_run (d := 60) (by omega) _ hS0) (w := W) (glob_ok hL) (.cons hx0 (.cons hx1 (.cons hx2 .nil)))).mono fun e W' ⟨he, bel⟩ => ?_
  subst he
  exact ⟨_, rfl, _, _, _, [], _, [], hW', trodAll_mk1 (shut_bool ty4 _), (trodAll_cons_mk (Below.trod laidOut (by kernel_rfl) (of_decide_eq_true (by kernel_rfl)) k0 bel lt0) (trodAll_cons_mk (Below.trod laidOut (by kernel_rfl) (of_decide_eq_true (by kernel_rfl)) k1 bel lt1) (trodAll_cons_mk (Below.trod laidOut (by kernel_rfl) (of_decide_eq_true (by kernel_rfl)) k2 bel lt2) trodAll_mk0))), rfl, bel.frame _, fun h => by cases h⟩

theorem over : Rows.screensErrorsRow.holds Tryz.pinned (OpenSpec.ofChange Rows.screensErrorsSpec) :=
  OpenClaim.holds_of_wide 7 Tryz.f7 rfl rfl rfl rfl rfl rfl rfl ⟨rfl, rfl, rfl, rfl, rfl⟩ rfl rfl rfl rfl rfl (by kernel_rfl) Tryz.func7 (by kernel_rfl)
    (of_decide_eq_true (by kernel_rfl)) (by unfold Func.isWrapper; first | (rw [if_pos (by decide +kernel)]; kernel_rfl) | (rw [if_neg (by decide +kernel)]; exact ⟨rfl, rfl⟩))
    (fun os started H enc _ => lifted os started H enc)

/-- ████ THE STATEMENT ████ -/
theorem proved : Rows.ScreensErrorsCardSaid :=
  Claim7.holds_tied_plain_at .later [] [.data, .data, .data, .data, .sentinel, .sentinel, .listed, .data, .data, .data, .data, .pinned] true (true, "26af6259670eab0ebe7f0c0bf0785faa2b5cb443433d069198986a063fe716f6") true
    over (fun _ h => by cases h) (by kernel_rfl) (fun _ h => by cases h) screensErrors_row_tie rfl ⟨rfl, rfl⟩ (by kernel_rfl) rfl
    (fun f fn hf hfn => by
      obtain rfl : f = 7 := Option.some.inj ((show Tryz.prog.funcNamed "columnseven/columnsevenlaw37.ScreensErrors" = some 7 by kernel_rfl).symm.trans hf) |>.symm
      obtain rfl : fn = Tryz.f7 := (Option.some.inj (Tryz.func7.symm.trans hfn)).symm
      exact ⟨by kernel_rfl, fun j t ht => by
        rw [Tryz.params7] at ht
        have hm : t ∈ [22, 5, 5] := by simpa using Array.mem_of_getElem? ht
        have hall : ([22, 5, 5].all fun u => !Tryz.prog.wantsStandIn u) = true := by kernel_rfl
        exact (show Tryz.prog.wantsStandIn t = false by simpa using List.all_eq_true.1 hall t hm)⟩)
    (by kernel_rfl)
#print axioms proved
end Go.Proofs.YtkaedpmmopigkaaGreatDoor.screensErrors

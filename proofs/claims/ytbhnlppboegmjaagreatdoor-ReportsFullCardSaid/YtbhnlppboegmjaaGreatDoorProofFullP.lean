/- Proved xg: ReportsFull returns true for every input, where the listed package variables start as the program's text lays them, and leaves its arguments as they were; then the tied card; no further condition. The frame of the text follows the kit's worked proofs. -/
import Derived.Test.YtbhnlppboegmjaaGreatDoorM5
import Derived.Test.YtbhnlppboegmjaaGreatDoorCards
namespace Go.Proofs.YtbhnlppboegmjaaGreatDoor.reportsFull
open Go.ChangeShapes Go.WideShapes Go.ChangeAt Go.RowKit
set_option linter.unusedVariables false
set_option linter.unusedSimpArgs false

set_option maxRecDepth 100000 in
theorem lifted (os : Os) (started : os.Started) (H : Type) (enc : TypeId × Value → H) :
    ReturnsInHanded {} Tryz.checked os 7 .any (fun w args => (Rows.reportsFullSpec.pre enc Tryz.prog Tryz.f7 Rows.reportsFullRow.domain false w args ∧ laidMetH Tryz.prog Rows.reportsFullRow.laid w) ∧ sizedMet enc Tryz.prog Tryz.f7 (OpenSpec.ofChange Rows.reportsFullSpec) false w args)
      (Rows.reportsFullSpec.post enc Tryz.prog Tryz.f7 false true false false) := by
  refine returnsInHanded_of_change_and (C := Tryz.checked) (X := fun w _ => laidMetH Tryz.prog Mg w) (fun _ _ _ hh h => h.of_heap hh) own started (by kernel_rfl) Tryz.func7
    (ChangeSpec.witness_shaped (enc := enc) (C := Tryz.checked) (os := os) (X := fun w _ => laidMetH Tryz.prog Mg w) false (World.laidAll Tryz.prog os Mg) #[.int .u16 0] 8 (World.laidAll_os _ _ _)
      (World.shaped_of_ZipB (by kernel_rfl) (by kernel_rfl)) (by kernel_rfl) (by kernel_rfl) (by kernel_rfl) (door_met os _)) ?_
  intro W base args ds gs before hval0 hW hcnd _ hL _
  have uQ : ∀ (j : Nat) t v, Tryz.f7.params[j]? = some t → args[j]? = some v → Value.okWide Tryz.prog W .any base t v := hval0
  have hW' := hW
  obtain ⟨p, q, qb, hV, rfl, hfz, hnd⟩ := hW
  have hA : DataW.TrodAll enc Tryz.prog W 0 (fun _ => true) true Tryz.f7.params.toList args.toList ds p := qb
  rw [Tryz.params7] at hA uQ
  obtain ⟨v0, vs0, d0, ds0, p0, q0, hargs0, rfl, rfl, h0, r0⟩ := trodAll_cons hA
  obtain ⟨rfl, rfl, rfl⟩ := trodAll_nil r0
  obtain rfl : args = #[v0] := by cases args; simp_all
  obtain ⟨rfl, rfl⟩ := trodVars_none hV
  obtain ⟨ha0, rfl⟩ := okWide_int ty22 (uQ 0 22 v0 rfl rfl)
  have k0 := h0
  have lt0 : ∀ x ∈ p0, x.block < W.heap.size := by obtain ⟨m, hm⟩ := k0; exact DataW.trod_lt m _ _ _ hm
  obtain ⟨fuel0, hf0⟩ := h0
  obtain ⟨dd0, hvl0, hsh0, hfr0, _⟩ := Nr (G := GT) 3 22 fuel0 _ _ (by kernel_rfl) hf0
  obtain ⟨ha, rfl, hw0⟩ := Sh.int ty22 hsh0
  obtain ⟨m0, rfl, qO⟩ := u16_nat hw0
  have hx0 : VR W (H8 GT) [] (.int .u16 (m0 : Nat)) (.int .u16 ha0) := by
    simp only [Value.cells] at hvl0
    cases hvl0 with | cons h _ => exact h
  clear qb hval0
  refine (call0 mixed LP_ok (law7_run (d := 62) (by omega) _ m0 qO) (w := W) (glob_ok hL) (.cons hx0 .nil)).mono fun e W' ⟨he, bel⟩ => ?_
  subst he
  exact ⟨_, rfl, _, _, _, [], _, [], hW', trodAll_mk1 (shut_bool ty4 _), (trodAll_cons_mk (Below.trod laidOut (by kernel_rfl) (of_decide_eq_true (by kernel_rfl)) k0 bel lt0) trodAll_mk0), rfl, bel.frame _, fun h => by cases h⟩

theorem over : Rows.reportsFullRow.holds Tryz.pinned (OpenSpec.ofChange Rows.reportsFullSpec) :=
  OpenClaim.holds_of_wide 7 Tryz.f7 rfl rfl rfl rfl rfl rfl rfl ⟨rfl, rfl, rfl, rfl, rfl⟩ rfl rfl rfl rfl rfl (by kernel_rfl) Tryz.func7 (by kernel_rfl)
    (of_decide_eq_true (by kernel_rfl)) (by unfold Func.isWrapper; first | (rw [if_pos (by decide +kernel)]; kernel_rfl) | (rw [if_neg (by decide +kernel)]; exact ⟨rfl, rfl⟩))
    (fun os started H enc _ => lifted os started H enc)

/-- ████ THE STATEMENT ████ -/
theorem proved : Rows.ReportsFullCardSaid :=
  Claim7.holds_tied_plain_at .later [] [.data, .data, .data, .data, .sentinel, .sentinel, .data, .data, .data, .pinned] true (true, "58e3303b4be8c2f300b4e2b5cdad585186427165941bc809f9be80179879cbe8") true
    over (fun _ h => by cases h) (by kernel_rfl) (fun _ h => by cases h) reportsFull_row_tie rfl ⟨rfl, rfl⟩ (by kernel_rfl) rfl
    (fun f fn hf z8 => by
      obtain rfl : f = 7 := Option.some.inj ((show Tryz.prog.funcNamed "columnseven/columnsevenlaw35.ReportsFull" = some 7 by kernel_rfl).symm.trans hf) |>.symm
      obtain rfl : fn = Tryz.f7 := (Option.some.inj (Tryz.func7.symm.trans z8)).symm
      exact ⟨by kernel_rfl, fun j t ht => by
        rw [Tryz.params7] at ht
        have hm : t ∈ [22] := by simpa using Array.mem_of_getElem? ht
        have xq : ([22].all fun u => !Tryz.prog.wantsStandIn u) = true := by kernel_rfl
        exact (show Tryz.prog.wantsStandIn t = false by simpa using List.all_eq_true.1 xq t hm)⟩)
    (by kernel_rfl)
#print axioms proved
end Go.Proofs.YtbhnlppboegmjaaGreatDoor.reportsFull

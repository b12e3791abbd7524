/- Proved here: ScreensFaults returns true for every input, where the listed package variables start as the program's text lays them, and leaves its arguments as they were; then the tied card; no further condition. The frame of the text follows the kit's worked proofs. -/
import Derived.Test.YtkaedpmmopigkaaGreatDoorM6
import Derived.Test.YtkaedpmmopigkaaGreatDoorJA
import Derived.Test.YtkaedpmmopigkaaGreatDoorCards
namespace Go.Proofs.YtkaedpmmopigkaaGreatDoor.screensFaults
open Go.ChangeShapes Go.WideShapes Go.ChangeAt Go.RowKit
set_option linter.unusedVariables false
set_option linter.unusedSimpArgs false

set_option maxRecDepth 100000 in
theorem lifted (os : Os) (started : os.Started) (H : Type) (enc : TypeId × Value → H) :
    ReturnsInHanded {} Tryz.checked os 4 .any (fun w args => (Rows.screensFaultsSpec.pre enc Tryz.prog Tryz.f4 Rows.screensFaultsRow.domain false w args ∧ laidMetH Tryz.prog Rows.screensFaultsRow.laid w) ∧ sizedMet enc Tryz.prog Tryz.f4 (OpenSpec.ofChange Rows.screensFaultsSpec) false w args)
      (Rows.screensFaultsSpec.post enc Tryz.prog Tryz.f4 false true false false) := by
  refine returnsInHanded_of_change_and (C := Tryz.checked) (X := fun w _ => laidMetH Tryz.prog Pb w) (fun _ _ _ hh h => h.of_heap hh) own started (by kernel_rfl) Tryz.func4
    (ChangeSpec.witness_shaped (enc := enc) (C := Tryz.checked) (os := os) (X := fun w _ => laidMetH Tryz.prog Pb w) false (World.laidAll Tryz.prog os Pb) #[.slice none 0 0, .agg #[.int .u8 0, .int .u8 0, .int .u8 0, .int .u8 0, .bool false, .bool false], .int .u8 0] 8 (World.laidAll_os _ _ _)
      (World.shaped_of_ZipB (by kernel_rfl) (by kernel_rfl)) (by kernel_rfl) (by kernel_rfl) (by kernel_rfl) (door_met os _)) ?_
  intro W base args ds gs before hval0 hW hcnd _ hL _
  have vN : ∀ (j : Nat) t v, Tryz.f4.params[j]? = some t → args[j]? = some v → Value.okWide Tryz.prog W .any base t v := hval0
  have hW' := hW
  obtain ⟨p, q, kP, hV, rfl, hfz, hnd⟩ := hW
  have hA : DataW.TrodAll enc Tryz.prog W 0 (fun _ => true) true Tryz.f4.params.toList args.toList ds p := kP
  rw [Tryz.params4] at hA vN
  obtain ⟨v0, vs0, d0, ds0, p0, q0, hargs0, rfl, rfl, h0, r0⟩ := trodAll_cons hA
  obtain ⟨v1, vs1, d1, ds1, p1, q1, hargs1, rfl, rfl, h1, r1⟩ := trodAll_cons r0
  obtain ⟨v2, vs2, d2, ds2, p2, q2, hargs2, rfl, rfl, h2, r2⟩ := trodAll_cons r1
  obtain ⟨rfl, rfl, rfl⟩ := trodAll_nil r2
  subst hargs2
  subst hargs1
  obtain rfl : args = #[v0, v1, v2] := by cases args; simp_all
  obtain ⟨rfl, rfl⟩ := trodVars_none hV
  obtain ⟨a0, len0, cap0, rfl⟩ := okWide_slice ty22 (vN 0 22 v0 rfl rfl)
  obtain ⟨a1, rfl, _⟩ := okWide_struct ty50s (vN 1 50 v1 rfl rfl)
  obtain ⟨na0, rfl⟩ := okWide_int ty5 (vN 2 5 v2 rfl rfl)
  have k0 := h0
  have lt0 : ∀ x ∈ p0, x.block < W.heap.size := by obtain ⟨m, hm⟩ := k0; exact DataW.trod_lt m _ _ _ hm
  obtain ⟨fuel0, kZ⟩ := h0
  obtain ⟨dd0, hvl0, hsh0, hfr0, _⟩ := Mf (G := GT) 3 22 fuel0 _ _ (by kernel_rfl) kZ
  obtain ⟨x0, l0, rfl, hS0⟩ := fieldsArg hsh0
  have hx0 : VR W (J6 GT) [] x0 (.slice a0 len0 cap0) := by
    simp only [Value.cells] at hvl0
    cases hvl0 with | cons h _ => exact h
  have k1 := h1
  have lt1 : ∀ x ∈ p1, x.block < W.heap.size := by obtain ⟨m, hm⟩ := k1; exact DataW.trod_lt m _ _ _ hm
  obtain ⟨fuel1, hf1⟩ := h1
  obtain ⟨dd1, hvl1, hsh1, hfr1, _⟩ := Mf (G := GT) 3 50 fuel1 _ _ (by kernel_rfl) hf1
  obtain ⟨f, rfl⟩ := fieldRow hsh1
  have hx1 : VR W (J6 GT) [] (.agg f.row) (.agg a1) := vr_agg hvl1 f.cells
  have k2 := h2
  have lt2 : ∀ x ∈ p2, x.block < W.heap.size := by obtain ⟨m, hm⟩ := k2; exact DataW.trod_lt m _ _ _ hm
  obtain ⟨fuel2, hf2⟩ := h2
  obtain ⟨dd2, hvl2, hsh2, hfr2, _⟩ := Mf (G := GT) 3 5 fuel2 _ _ (by kernel_rfl) hf2
  obtain ⟨na, rfl, hw2⟩ := Sh.int ty5 hsh2
  obtain ⟨m2, rfl, hm2⟩ := u8_nat hw2
  have hx2 : VR W (J6 GT) [] (.int .u8 ((UInt8.ofNat m2).toNat : Nat)) (.int .u8 na0) := by
    simp only [Value.cells] at hvl2
    rw [show (UInt8.ofNat m2).toNat = m2 by simp [UInt8.toNat_ofNat, Nat.mod_eq_of_lt hm2]]
    cases hvl2 with | cons h _ => exact h
  clear kP hval0
  refine (law4_call hS0 (glob_ok hL) (.cons hx0 (.cons hx1 (.cons hx2 .nil)))).mono fun e W' ⟨he, bel⟩ => ?_
  subst he
  exact ⟨_, rfl, _, _, _, [], _, [], hW', trodAll_mk1 (shut_bool ty4 _), (trodAll_cons_mk (Below.trod laidOut (by kernel_rfl) (of_decide_eq_true (by kernel_rfl)) k0 bel lt0) (trodAll_cons_mk (Below.trod laidOut (by kernel_rfl) (of_decide_eq_true (by kernel_rfl)) k1 bel lt1) (trodAll_cons_mk (Below.trod laidOut (by kernel_rfl) (of_decide_eq_true (by kernel_rfl)) k2 bel lt2) trodAll_mk0))), rfl, bel.frame _, fun h => by cases h⟩

theorem over : Rows.screensFaultsRow.holds Tryz.pinned (OpenSpec.ofChange Rows.screensFaultsSpec) :=
  OpenClaim.holds_of_wide 4 Tryz.f4 rfl rfl rfl rfl rfl rfl rfl ⟨rfl, rfl, rfl, rfl, rfl⟩ rfl rfl rfl rfl rfl named4 Tryz.func4 joined4
    (of_decide_eq_true (by kernel_rfl)) (by unfold Func.isWrapper; first | (rw [if_pos (by decide +kernel)]; kernel_rfl) | (rw [if_neg (by decide +kernel)]; exact ⟨rfl, rfl⟩))
    (fun os started H enc _ => lifted os started H enc)

/-- ████ THE STATEMENT ████ -/
theorem proved : Rows.ScreensFaultsCardSaid :=
  Claim7.holds_tied_plain_at .later [] [.data, .data, .data, .data, .sentinel, .sentinel, .listed, .data, .data, .data, .data, .pinned] true (true, "26af6259670eab0ebe7f0c0bf0785faa2b5cb443433d069198986a063fe716f6") true
    over (fun _ h => by cases h) (by kernel_rfl) (fun _ h => by cases h) screensFaults_row_tie rfl ⟨rfl, rfl⟩ (by kernel_rfl) rfl
    (fun f fn hf zA => by
      obtain rfl : f = 4 := Option.some.inj ((show Tryz.prog.funcNamed "columnseven/columnsevenlaw37.ScreensFaults" = some 4 by kernel_rfl).symm.trans hf) |>.symm
      obtain rfl : fn = Tryz.f4 := (Option.some.inj (Tryz.func4.symm.trans zA)).symm
      exact ⟨by kernel_rfl, fun j t ht => by
        rw [Tryz.params4] at ht
        have hm : t ∈ [22, 50, 5] := by simpa using Array.mem_of_getElem? ht
        have xA : ([22, 50, 5].all fun u => !Tryz.prog.wantsStandIn u) = true := by kernel_rfl
        exact (show Tryz.prog.wantsStandIn t = false by simpa using List.all_eq_true.1 xA t hm)⟩)
    (by kernel_rfl)
#print axioms proved
end Go.Proofs.YtkaedpmmopigkaaGreatDoor.screensFaults

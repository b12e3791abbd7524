/- Proved here: the abstract machine's addresses, loads, composites, stores and new blocks are the model's; no condition. -/
import Derived.Test.YtabgobmeibjeeaaGreatDoorLo5
namespace Go.Proofs.YtabgobmeibjeeaaGreatDoor
open Go.RowKit
set_option linter.unusedVariables false
set_option linter.unusedSimpArgs false

/-- cells and their values -/
def CR (w : World) (ρ : RMap) (H : List AObj) (cs : List D) (vs : Array Value) : Prop :=
  vs.size = cs.length ∧ ∀ (j : Nat) (d : D) (v : Value), cs[j]? = some d → vs[j]? = some v → VR w ρ H d v

section
variable {P : Program} {w : World} {ρ : RMap} {H : List AObj}

theorem VR.oneCell {d : D} {v : Value} (h : VR w ρ H d v) (hc : d.isCell = true) : v.oneCell' = true ∧ v.cells = #[v] := by
  cases h <;> simp [D.isCell] at hc <;> exact ⟨rfl, rfl⟩
theorem VR.cells {d : D} {v : Value} (h : VR w ρ H d v) (hv : d.val = true) : CR w ρ H d.cells v.cells ∧ (∀ x ∈ d.cells, x.isCell = true) ∧ ∀ u ∈ v.cells.toList, u.oneCell' = true := by
  have one : d.isCell = true → d.cells = [d] → CR w ρ H d.cells v.cells ∧ (∀ x ∈ d.cells, x.isCell = true) ∧ ∀ u ∈ v.cells.toList, u.oneCell' = true := by
    intro hc hd
    obtain ⟨h1, h2⟩ := h.oneCell hc
    rw [hd, h2]
    refine ⟨⟨rfl, fun j d' v' h3 h4 => ?_⟩, by simpa using hc, by simpa using h1⟩
    cases j with
    | zero => simp at h3 h4; subst h3 h4; exact h
    | succ j => simp at h3
  cases d with
  | agg cs =>
    cases h with
    | agg _ vs hl hc hh =>
      simp only [D.val] at hv
      refine ⟨⟨by simpa [Value.cells, D.cells] using hl, fun j d v h1 h2 => hh j d v h1 (by simpa [Value.cells] using h2)⟩, fun x hx => List.all_eq_true.1 hv x hx, fun u hu => ?_⟩
      simp only [Value.cells] at hu
      obtain ⟨j, hj, rfl⟩ := List.mem_iff_getElem.1 hu
      have hjc : j < cs.length := by rw [← hl]; exact hj
      exact ((hh j cs[j] vs[j] (List.getElem?_eq_getElem hjc) (List.getElem?_eq_getElem hj)).oneCell (List.all_eq_true.1 hv _ (List.getElem_mem hjc))).1
  | undef => simp [D.val, D.isCell] at hv
  | tup cs => simp [D.val, D.isCell] at hv
  | _ => exact one hv rfl
theorem CR.get {cs : List D} {vs : Array Value} (h : CR w ρ H cs vs) {j : Nat} {d : D} (hd : cs[j]? = some d) : ∃ v, vs[j]? = some v ∧ VR w ρ H d v := by
  have hj : j < vs.size := by rw [h.1]; exact lt_of_some hd
  exact ⟨vs[j], Array.getElem?_eq_getElem hj, h.2 j d _ hd (Array.getElem?_eq_getElem hj)⟩
theorem CR.agg {cs : List D} {vs : Array Value} (h : CR w ρ H cs vs) (hc : cs.all D.isCell = true) : VR w ρ H (.agg cs) (.agg vs) := by
  have := VR.agg (w := w) (ρ := ρ) (H := H) cs vs.toList (by simpa using h.1) hc (fun j d v h1 h2 => h.2 j d v h1 (by simpa using h2))
  simpa using this

/-! parts -/
theorem part_cells {row : List D} {o sz : Nat} {agg : Bool} {r : D} {b q : Nat} {f : Nat → Value} (hcell : row.all D.isCell = true) (hc : ∀ j d, row[o + j]? = some d → w.cell? ⟨b, q + j, none⟩ = some (f (o + j)) ∧ VR w ρ H d (f (o + j))) (h : partD row o sz agg = some r)
    {t : TypeId} (hsz : sizeT P t = some sz) (hagg : aggT P t = agg) : ∃ v, (Instr.loadAt t (.pointer (some ⟨b, q, none⟩))).run P w = .ok v w ∧ VR w ρ H r v := by
  have hrun : (Instr.loadAt t (.pointer (some ⟨b, q, none⟩))).run P w = (loadVar t ⟨b, q, none⟩).run P w := by simp [Instr.loadAt, Instr.sureAddr]
  rw [hrun]
  unfold partD at h
  cases agg with
  | true =>
    simp only [if_true] at h
    split at h
    · rename_i hle
      simp only [Option.some.injEq] at h
      subst h
      have hl := run_loadCells (P := P) w ⟨b, q, none⟩ sz (fun j => f (o + j)) (fun j hj => by
        have hj' : o + j < row.length := by omega
        have := (hc j row[o + j] (List.getElem?_eq_getElem hj')).1
        rwa [add_plain])
      refine ⟨_, by simp only [loadVar, Sem.run_bind, run_isAgg hsz, hagg, Result.andThen_ok, if_true, run_sizeOf hsz, hl, Sem.run_pure]; rfl, ?_⟩
      refine .agg _ _ (by simp; omega) (List.all_eq_true.2 fun x hx => List.all_eq_true.1 hcell x (mem_drop_take hx)) (fun j d v h1 h2 => ?_)
      obtain ⟨h3, h4⟩ := drop_take_get h1
      simp only [List.getElem?_map, List.getElem?_range h4, Option.map_some, Option.some.injEq] at h2
      subst h2
      exact (hc j d h3).2
    · simp at h
  | false =>
    simp only [Bool.false_eq_true, if_false] at h
    obtain ⟨h1, h2⟩ := hc 0 r (by simpa using h)
    simp only [Nat.add_zero] at h1 h2
    exact ⟨f o, by simp [loadVar, run_isAgg hsz, hagg, h1], h2⟩
theorem part_val {cs : List D} {vs : List Value} {o sz : Nat} {agg : Bool} {r : D} (hl : vs.length = cs.length) (hcell : cs.all D.isCell = true) (hv : ∀ (j : Nat) (d : D) (v : Value), cs[j]? = some d → vs[j]? = some v → VR w ρ H d v) (h : partD cs o sz agg = some r)
    {t : TypeId} (hsz : sizeT P t = some sz) (hagg : aggT P t = agg) : ∃ v, (part t vs.toArray o).run P w = .ok v w ∧ VR w ρ H r v := by
  unfold partD at h
  cases agg with
  | true =>
    simp only [if_true] at h
    split at h
    · rename_i hle
      simp only [Option.some.injEq] at h
      subst h
      refine ⟨.agg ((vs.drop o).take sz).toArray, by simp [part, run_isAgg hsz, hagg, run_sizeOf hsz, List.extract_eq_take_drop, Nat.add_sub_cancel_left], .agg _ _ (by simp; omega) (List.all_eq_true.2 fun x hx => List.all_eq_true.1 hcell x (mem_drop_take hx)) (fun j d v h1 h2 => ?_)⟩
      exact hv _ d v (drop_take_get h1).1 (drop_take_get h2).1
    · simp at h
  | false =>
    simp only [Bool.false_eq_true, if_false] at h
    have ho : o < vs.length := by rw [hl]; exact lt_of_some h
    exact ⟨vs[o], by simp [part, run_isAgg hsz, hagg, ho], hv o r _ h (List.getElem?_eq_getElem ho)⟩

theorem load_ok {S : St} (hr : Rel w ρ S.heap) {a r : D} {v : Value} {sz : Nat} {agg : Bool} (ha : VR w ρ S.heap a v) (h : loadD sz agg S a = some r) {t : TypeId} (hsz : sizeT P t = some sz) (hagg : aggT P t = agg) :
    ∃ v', (Instr.loadAt t v).run P w = .ok v' w ∧ VR w ρ S.heap r v' := by
  unfold loadD at h
  split at h
  · rename_i row o
    cases ha with
    | cptr _ _ b q f hc hv =>
      have h0 : row.drop o = row.drop o := rfl
      -- only the cells from o on are known: the earlier ones are no part of the load
      unfold partD at h
      cases agg with
      | true =>
        simp only [if_true] at h
        split at h
        · rename_i hle
          simp only [Option.some.injEq] at h
          subst h
          have hp : partD (row.drop o) 0 sz true = some (.agg ((row.drop o).take sz)) := by
            simp only [partD, if_true, List.drop_zero]
            rw [if_pos (by simp; omega)]
          refine part_cells (f := fun j => f (o + j)) ?_ (fun j d hj => ?_) hp hsz hagg
          · refine List.all_eq_true.2 fun x hx => ?_
            obtain ⟨j, hj, rfl⟩ := List.mem_iff_getElem.1 hx
            have h1 : row[o + j]? = some (row.drop o)[j] := by rw [← List.getElem?_drop, List.getElem?_eq_getElem hj]
            have h2 := (hc (o + j) _ h1 (by omega)).2.2
            generalize (row.drop o)[j] = x at h2
            cases x <;> simp [D.free, D.isCell] at h2 ⊢
          · simp only [Nat.zero_add, List.getElem?_drop] at hj
            have h1 := hc (o + j) d hj (by omega)
            have h2 := hv (o + j) d hj (by omega)
            simp only [Nat.zero_add]
            rw [show o + j - o = j by omega] at h1
            exact ⟨h1.1, h2⟩
        · simp at h
      | false =>
        simp only [Bool.false_eq_true, if_false] at h
        have h1 := hc o r h (Nat.le_refl _)
        rw [Nat.sub_self, Nat.add_zero] at h1
        exact ⟨f o, by simp [Instr.loadAt, Instr.sureAddr, loadVar, run_isAgg hsz, hagg, h1.1], hv o r h (Nat.le_refl _)⟩
  · rename_i g ver i o
    cases ha with
    | ptr _ _ _ _ ad ob hg hver hk3 hcur =>
      unfold rowsOf at h
      simp only [hg] at h
      by_cases hv : ob.ver = ver
      · simp only [hv, if_true] at h
        cases hrow : ob.rows[i]? with
        | none => simp [hrow] at h
        | some row =>
          simp only [hrow] at h
          obtain ⟨b, hρ, rfl⟩ := hcur hv
          obtain ⟨o1, ho1, cur, hc, hz, hcap, hl, hk, hh⟩ := hr.cel hρ hg hk3
          rw [hg] at ho1
          injection ho1 with ho1
          subst ho1
          refine part_cells (f := fun j => cur.getD (i * ob.sz + j) undef) (List.all_eq_true.2 fun x hx => ?_) (fun j d hj => ?_) h hsz hagg
          · obtain ⟨j, hj, rfl⟩ := List.mem_iff_getElem.1 hx
            exact (hh i row j _ hrow (List.getElem?_eq_getElem hj)).1
          · obtain ⟨_, _, v, hv1, hv2⟩ := hh i row (o + j) d hrow hj
            have hg1 : cur.getD (i * ob.sz + (o + j)) undef = v := by
              obtain ⟨h3, h4⟩ := Array.getElem?_eq_some_iff.1 hv1
              simp [Array.getD, h3, h4]
            refine ⟨?_, by rw [hg1]; exact hv2⟩
            rw [hg1, cell_of_row w b _ cur ob.elem (0, 0) hc, Nat.add_assoc]
            exact hv1
      · simp [hv] at h
  · simp at h

theorem faddr_ok {a r : D} {v : Value} {f : Field} {s : TypeId} {fs : Array Field} {k n : Nat} (hu : P.underlying s = some (.struct fs)) (hf : fs[k]? = some f) (hsz : sizeT P f.type = some n) (ha : VR w ρ H a v) (h : faddrD f.offset a = some r) :
    ∃ v', (Instr.fieldAt s v k).run P w = .ok v' w ∧ VR w ρ H r v' := by
  have hn : n ≠ 0 := by obtain ⟨_, _, _, _, _, h0⟩ := sizeT_some hsz; omega
  have hrun : ∀ ad : Addr, (Instr.fieldAt s (.pointer (some ad)) k).run P w = .ok (.pointer (some (ad.add f.offset))) w := by
    intro ad
    simp [Instr.fieldAt, run_underlying hu, hf, Instr.sureAddr, fieldPlace, run_sizeOf hsz, hn]
  unfold faddrD at h
  split at h
  · rename_i g ver i o
    simp only [Option.some.injEq] at h
    subst h
    cases ha with
    | ptr _ _ _ _ ad ob hg hver hk3 hcur =>
      refine ⟨_, hrun ad, .ptr g ver i _ _ ob hg hver hk3 fun e => ?_⟩
      obtain ⟨b, hρ, rfl⟩ := hcur e
      exact ⟨b, hρ, by rw [add_plain, Nat.add_assoc]⟩
  · rename_i row o
    simp only [Option.some.injEq] at h
    subst h
    cases ha with
    | cptr _ _ b q g hc hv =>
      refine ⟨_, hrun _, ?_⟩
      rw [add_plain]
      refine .cptr row _ b _ g (fun j d hj ho => ?_) (fun j d hj ho => hv j d hj (by omega))
      have := hc j d hj (by omega)
      rw [show q + f.offset + (j - (o + f.offset)) = q + (j - o) by omega]
      exact this
  · simp at h
theorem iaddr_ok {S : St} {x i r : D} {vx vi : Value} {t e : TypeId} {sz : Nat} (hu : P.underlying t = some (.slice e)) (hsz : sizeT P e = some sz) (hx : VR w ρ S.heap x vx) (hi : VR w ρ S.heap i vi) (h : iaddrD S sz x i = some r) :
    ∃ v', (Instr.indexAt t vx vi).run P w = .ok v' w ∧ VR w ρ S.heap r v' := by
  have hrun : ∀ (ad : Addr) (n c : Nat) (k : IntKind) (j : Int), 0 ≤ j → j < n → (Instr.indexAt t (.slice (some ad) n c) (.int k j)).run P w = .ok (.pointer (some (ad.add (j.toNat * sz)))) w := by
    intro ad n c k j h0 h1
    simp [Instr.indexAt, asIntOf, run_underlying hu, h0, h1, run_sizeOf hsz]
  unfold iaddrD at h
  split at h
  · rename_i s rows cap k j
    cases hi
    split at h
    · rename_i hs
      obtain ⟨rfl, h0⟩ := hs
      simp only [Option.map_eq_some_iff] at h
      obtain ⟨row, hrow, rfl⟩ := h
      cases hx with
      | sl _ _ _ A n c hn hnc hcap hz b o f hA hc hv =>
        have hlt := lt_of_some hrow
        refine ⟨_, hrun A n c _ j h0 (by omega), ?_⟩
        rw [hA (by rintro rfl; simp at hrow), add_plain]
        refine .cptr row 0 b _ (fun jj => f j.toNat jj) (fun jj d hj _ => ?_) (fun jj d hj _ => hv _ row jj d hrow hj)
        have := hc _ row jj d hrow hj
        simpa using this
    · simp at h
  · rename_i g ver lo n cap k j
    cases hi
    cases hx with
    | msl _ _ _ _ _ A c ob hnc hcap hg hver hk3 hcur =>
      unfold rowsOf at h
      simp only [hg] at h
      by_cases hv : ob.ver = ver
      · simp only [hv, if_true] at h
        split at h
        · rename_i hj
          simp only [Option.some.injEq] at h
          subst h
          obtain ⟨b, hρ, hlo, hA, _⟩ := hcur hv
          refine ⟨_, hrun A n c _ j hj.2.1 hj.2.2, ?_⟩
          refine .ptr g ver _ 0 _ ob hg hver hk3 fun _ => ⟨b, hρ, ?_⟩
          rw [hA (.inl (by omega)), add_plain, hj.1, Nat.add_mul, Nat.add_zero]
        · simp at h
      · simp [hv] at h
  · simp at h
theorem aaddr_ok {x i r : D} {vx vi : Value} {t e : TypeId} {sz len : Nat} (hu : P.underlying t = some (.array len e)) (hsz : sizeT P e = some sz) (hx : VR w ρ H x vx) (hi : VR w ρ H i vi) (h : aaddrD sz len x i = some r) :
    ∃ v', (Instr.indexAt t vx vi).run P w = .ok v' w ∧ VR w ρ H r v' := by
  have hrun : ∀ (ad : Addr) (k : IntKind) (j : Int), 0 ≤ j → j < len → (Instr.indexAt t (.pointer (some ad)) (.int k j)).run P w = .ok (.pointer (some (ad.add (j.toNat * sz)))) w := by
    intro ad k j h0 h1
    simp [Instr.indexAt, asIntOf, run_underlying hu, Instr.sureAddr, h0, h1, run_sizeOf hsz]
  unfold aaddrD at h
  split at h
  · rename_i g ver i o k jx
    cases hi
    split at h
    · rename_i hj
      simp only [Option.some.injEq] at h
      subst h
      cases hx with
      | ptr _ _ _ _ ad ob hg hver hk3 hcur =>
        refine ⟨_, hrun ad _ _ hj.1 hj.2, .ptr g ver i _ _ ob hg hver hk3 fun e => ?_⟩
        obtain ⟨b, hρ, rfl⟩ := hcur e
        exact ⟨b, hρ, by rw [add_plain, Nat.add_assoc]⟩
    · simp at h
  · rename_i row o k jx
    cases hi
    split at h
    · rename_i hj
      simp only [Option.some.injEq] at h
      subst h
      cases hx with
      | cptr _ _ b q g hc hv =>
        refine ⟨_, hrun _ _ _ hj.1 hj.2, ?_⟩
        rw [add_plain]
        refine .cptr row _ b _ g (fun jj d hjj ho => ?_) (fun jj d hjj ho => hv jj d hjj (by omega))
        have := hc jj d hjj (by omega)
        rw [show q + jx.toNat * sz + (jj - (o + jx.toNat * sz)) = q + (jj - o) by omega]
        exact this
    · simp at h
  · simp at h
end
end Go.Proofs.YtabgobmeibjeeaaGreatDoor

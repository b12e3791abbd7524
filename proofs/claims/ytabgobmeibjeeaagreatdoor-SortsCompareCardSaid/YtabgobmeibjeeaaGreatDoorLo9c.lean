/- Proved here: structs of plain cells are compared as the abstract machine compares them; no condition. -/
import Derived.Test.YtabgobmeibjeeaaGreatDoorLo9b
namespace Go.Proofs.YtabgobmeibjeeaaGreatDoor
open Go.RowKit
set_option linter.unusedVariables false
set_option linter.unusedSimpArgs false
section
variable {P : Program} {w : World} {ρ : RMap} {H : List AObj}
theorem eqCells_app : ∀ {fs gs : List Nat} {a b : List D} {r : Bool}, eqCells (fs ++ gs) a b = some r → ∃ x y, eqCells fs (a.take fs.length) (b.take fs.length) = some x ∧ eqCells gs (a.drop fs.length) (b.drop fs.length) = some y ∧ r = (x && y)
  | [], gs, a, b, r, h => ⟨true, r, by simp [eqCells], by simpa using h, by simp⟩
  | f :: fs, gs, a :: l, b :: m, r, h => by
    simp only [List.cons_append, eqCells] at h
    split at h
    · rename_i hk
      split at h
      · rename_i x y h1 h2
        obtain ⟨x', y', e1, e2, e3⟩ := eqCells_app h2
        refine ⟨x && x', y', ?_, by simpa using e2, ?_⟩
        · simp only [List.length_cons, List.take_succ_cons, eqCells, hk, if_true, h1, e1]
        · simp only [Option.some.injEq] at h
          subst h e3
          cases x <;> cases x' <;> rfl
      · simp at h
    · simp at h
  | f :: fs, gs, [], b, r, h => by simp [eqCells] at h
  | f :: fs, gs, a :: l, [], r, h => by simp [eqCells] at h
theorem eqCells_len : ∀ {fs : List Nat} {a b : List D} {r : Bool}, eqCells fs a b = some r → a.length = fs.length ∧ b.length = fs.length
  | [], [], [], r, h => ⟨rfl, rfl⟩
  | f :: fs, a :: l, b :: m, r, h => by
    simp only [eqCells] at h
    split at h
    · split at h
      · rename_i h2
        have := eqCells_len h2
        simp [this]
      · simp at h
    · simp at h
  | [], [], _ :: _, r, h => by simp [eqCells] at h
  | [], _ :: _, _, r, h => by simp [eqCells] at h
  | f :: fs, [], b, r, h => by simp [eqCells] at h
  | f :: fs, a :: l, [], r, h => by simp [eqCells] at h
theorem eqCells_one {f : Nat} {a b : D} {r : Bool} (h : eqCells [f] [a] [b] = some r) : isKey f a = true ∧ isKey f b = true ∧ eqCell a b = some r := by
  simp only [eqCells] at h
  split at h
  · rename_i hk
    simp only [Bool.and_eq_true] at hk
    split at h
    · rename_i x y h1 h2
      simp only [Option.some.injEq] at h h2
      subst h2
      refine ⟨hk.1, hk.2, ?_⟩
      rw [h1, ← h]; simp
    · simp at h
  · simp at h
theorem aggT_of {t : TypeId} {td : TypeDesc} (hu : P.underlying t = some td) (h : (match td with | .struct _ | .array _ _ => true | _ => false) = false) : aggT P t = false := by
  unfold aggT
  rw [hu]
  cases td <;> simp_all
/-- cells of one value -/
theorem eqFlat_ok : ∀ (d : Nat) (t : TypeId) (fams : List Nat), eqFlat P d t = some fams → ∀ (k : Nat) (a b : D) (va vb : Value) (r : Bool), VR w ρ H a va → VR w ρ H b vb → a.val = true → b.val = true → eqCells fams a.cells b.cells = some r → (aggT P t = true → (∃ cs, a = .agg cs) ∧ ∃ cs, b = .agg cs) → (aggT P t = false → (∀ cs, a ≠ .agg cs) ∧ ∀ cs, b ≠ .agg cs) →
    (Op.equalIn (d + k) t va vb).run P w = .ok r w
  | 0, t, fams, h => by simp [eqFlat] at h
  | d + 1, t, fams, h => by
    intro k a b va vb r h1 h2 ha hb he hag hna
    rw [show d + 1 + k = (d + k) + 1 by omega]
    simp only [eqFlat] at h
    have prim : ∀ f : Nat, fams = [f] → (∀ cs, a ≠ .agg cs) → (∀ cs, b ≠ .agg cs) → isKey f a = true ∧ isKey f b = true ∧ eqCell a b = some r := by
      rintro f rfl n1 n2
      have e1 : a.cells = [a] := by cases a <;> first | rfl | exact absurd rfl (n1 _)
      have e2 : b.cells = [b] := by cases b <;> first | rfl | exact absurd rfl (n2 _)
      rw [e1, e2] at he
      exact eqCells_one he
    split at h
    · rename_i kk hu
      simp only [Option.some.injEq] at h
      obtain ⟨n1, n2⟩ := hna (aggT_of hu rfl)
      obtain ⟨p1, p2, p3⟩ := prim 0 h.symm n1 n2
      cases a <;> simp [isKey] at p1
      cases b <;> simp [isKey] at p2
      cases h1; cases h2
      simp only [eqCell] at p3
      split at p3
      · rename_i hk
        simp only [Option.some.injEq] at p3
        subst p3
        simp [Op.equalIn, run_underlying hu, hk]
      · simp at p3
    · rename_i hu
      simp only [Option.some.injEq] at h
      obtain ⟨n1, n2⟩ := hna (aggT_of hu rfl)
      obtain ⟨p1, p2, p3⟩ := prim 1 h.symm n1 n2
      cases a <;> simp [isKey] at p1
      cases b <;> simp [isKey] at p2
      cases h1; cases h2
      simp only [eqCell, Option.some.injEq] at p3
      subst p3
      simp [Op.equalIn, run_underlying hu]
    · rename_i hu
      simp only [Option.some.injEq] at h
      obtain ⟨n1, n2⟩ := hna (aggT_of hu rfl)
      obtain ⟨p1, p2, p3⟩ := prim 2 h.symm n1 n2
      cases a <;> simp [isKey] at p1
      cases b <;> simp [isKey] at p2
      cases h1; cases h2
      simp only [eqCell, Option.some.injEq] at p3
      subst p3
      simp [Op.equalIn, run_underlying hu]
    · rename_i fs hu
      split at h
      · simp at h
      · rename_i hst
        simp only [Bool.or_eq_true, not_or, Bool.not_eq_true] at hst
        have hagg : aggT P t = true := by unfold aggT; rw [hu]
        obtain ⟨⟨xs, rfl⟩, ⟨bs, rfl⟩⟩ := hag hagg
        cases h1 with | agg _ va hl1 hc1 hh1 =>
        cases h2 with | agg _ vb hl2 hc2 hh2 =>
        simp only [D.cells] at he
        have ih := eqFlat_ok d
        have key : ∀ (fl : List Field) (o : Nat) (fm : List Nat) (r : Bool), o ≤ xs.length → o ≤ bs.length → eqFields P (eqFlat P d) fl o = some fm → eqCells fm (xs.drop o) (bs.drop o) = some r →
            (forIn fl (none, PUnit.unit) (fun (f : Field) (_ : Option Bool × PUnit) => (if f.name ≠ "_" then (do
              let x ← part f.type va.toArray f.offset
              let y ← part f.type vb.toArray f.offset
              let q ← Op.equalIn (d + k) f.type x y
              if (!q) = true then pure (ForInStep.done (some false, PUnit.unit)) else pure (ForInStep.yield (none, PUnit.unit))) else pure (ForInStep.yield (none, PUnit.unit)) : Sem (ForInStep (Option Bool × PUnit))))).run P w = .ok (if r then (none, PUnit.unit) else (some false, PUnit.unit)) w := by
          intro fl
          induction fl with
          | nil =>
            intro o fm r ho1 ho2 hf hc
            simp only [eqFields, Option.some.injEq] at hf
            subst hf
            have : r = true := by
              cases e1 : xs.drop o <;> cases e2 : bs.drop o <;> simp [e1, e2, eqCells] at hc
              exact hc
            subst this
            simp
          | cons f fl ihl =>
            intro o fm r ho1 ho2 hf hc
            simp only [eqFields] at hf
            split at hf
            · simp at hf
            · rename_i hno
              simp only [not_or, ne_eq, Decidable.not_not] at hno
              obtain ⟨hname, hoff⟩ := hno
              split at hf
              · rename_i fa m hfa hsz
                split at hf
                · rename_i hlen
                  simp only [Option.map_eq_some_iff] at hf
                  obtain ⟨fm', hf', rfl⟩ := hf
                  obtain ⟨x, y, e1, e2, rfl⟩ := eqCells_app hc
                  rw [List.drop_drop] at e2
                  rw [List.drop_drop] at e2
                  rw [hlen] at e1 e2
                  obtain ⟨l1, l2⟩ := eqCells_len e1
                  obtain ⟨l3, l4⟩ := eqCells_len hc
                  have q1 : o + m ≤ xs.length := by simp only [List.length_drop, List.length_append] at l3; omega
                  have q2 : o + m ≤ bs.length := by simp only [List.length_drop, List.length_append] at l4; omega
                  have mk : ∀ (cs : List D), o + m ≤ cs.length → cs.all D.isCell = true → (aggT P f.type = false → m = 1) → ∃ p, partD cs o m (aggT P f.type) = some p ∧ p.cells = (cs.drop o).take m ∧ p.val = true ∧ (aggT P f.type = true → ∃ c, p = .agg c) ∧ (aggT P f.type = false → ∀ c, p ≠ .agg c) := by
                    intro cs hle hcell h1
                    cases hg : aggT P f.type with
                    | true =>
                      refine ⟨.agg ((cs.drop o).take m), by simp [partD, hle], rfl, ?_, fun _ => ⟨_, rfl⟩, fun h => by simp at h⟩
                      simp only [D.val, List.all_eq_true] at hcell ⊢
                      intro c hc'
                      exact hcell c (List.mem_of_mem_drop (List.mem_of_mem_take hc'))
                    | false =>
                      have := h1 hg
                      subst this
                      have hlt : o < cs.length := by omega
                      have hcl : cs[o].isCell = true := by
                        simp only [List.all_eq_true] at hcell
                        exact hcell _ (List.getElem_mem hlt)
                      refine ⟨cs[o], by simp [partD, hlt], ?_, ?_, fun h => by simp at h, fun _ c hc' => by rw [hc'] at hcl; simp [D.isCell] at hcl⟩
                      · rw [List.drop_eq_getElem_cons hlt]
                        cases e : cs[o] <;> first | rfl | (rw [e] at hcl; simp [D.isCell] at hcl)
                      · cases e : cs[o] <;> first | rfl | (rw [e] at hcl; simp [D.isCell] at hcl)
                  have hone : aggT P f.type = false → m = 1 := by
                    intro hg
                    cases d with
                    | zero => simp [eqFlat] at hfa
                    | succ d' =>
                      simp only [eqFlat] at hfa
                      split at hfa
                      · simp only [Option.some.injEq] at hfa; subst hfa; exact hlen.symm
                      · simp only [Option.some.injEq] at hfa; subst hfa; exact hlen.symm
                      · simp only [Option.some.injEq] at hfa; subst hfa; exact hlen.symm
                      · rename_i hu'; unfold aggT at hg; rw [hu'] at hg; simp at hg
                      · simp at hfa
                  obtain ⟨pa, a1, a2, a3, a4, a5⟩ := mk xs q1 hc1 hone
                  obtain ⟨pb, b1, b2, b3, b4, b5⟩ := mk bs q2 hc2 hone
                  obtain ⟨xa, x1, x2⟩ := part_val (P := P) hl1 hc1 hh1 a1 hsz rfl
                  obtain ⟨xb, y1, y2⟩ := part_val (P := P) hl2 hc2 hh2 b1 hsz rfl
                  rw [← a2, ← b2] at e1
                  have hq := ih f.type fa hfa k pa pb xa xb x x2 y2 a3 b3 e1 (fun hg => ⟨a4 hg, b4 hg⟩) (fun hg => ⟨a5 hg, b5 hg⟩)
                  simp only [List.forIn_cons, Sem.run_bind, hname, ne_eq, not_false_eq_true, if_true, hoff, x1, y1, Result.andThen_ok, hq]
                  cases x with
                  | false => simp
                  | true =>
                    simp only [Bool.not_true, Bool.false_eq_true, if_false, Sem.run_pure, Result.andThen_ok, Bool.true_and]
                    exact ihl (o + m) fm' y q1 q2 hf' e2
                · simp at hf
              · simp at hf
        have hk := key fs.toList 0 fams r (Nat.zero_le _) (Nat.zero_le _) h (by simpa using he)
        rw [Array.forIn_toList] at hk
        simp only [Op.equalIn, Sem.run_bind, run_underlying hu, Result.andThen_ok]
        have hp : Sem.run P program w = .ok P w := rfl
        rw [hp, Result.andThen_ok, hst.1, if_neg (by simp), Sem.run_bind]
        refine Eq.trans (congrArg (fun z => Result.andThen z _) hk) ?_
        cases r <;> rfl
    · simp at h
theorem eqs_ok {op : BinOp} {t : TypeId} {x y : Operand} {fams : List Nat} {neg : Bool} {as' bs : List D} {va vb : Value} {r : Bool} (ho : op = .eql ∨ op = .neq) (hn : neg = decide (op = .neq)) (hg : aggT P t = true) (hf : eqFlat P 9 t = some fams) (h1 : VR w ρ H (.agg as') va) (h2 : VR w ρ H (.agg bs) vb) (he : eqCells fams as' bs = some r) :
    ∃ v, (do eqGuard op t x y va vb; binOp op t va vb).run P w = .ok v w ∧ VR w ρ H (.bool (r != neg)) v := by
  have hv1 : (D.agg as').val = true := by cases h1 with | agg _ _ _ hc _ => exact hc
  have hv2 : (D.agg bs).val = true := by cases h2 with | agg _ _ _ hc _ => exact hc
  have key := eqFlat_ok 9 t fams hf 9991 _ _ _ _ r h1 h2 hv1 hv2 he (fun _ => ⟨⟨_, rfl⟩, ⟨_, rfl⟩⟩) (fun h => by rw [hg] at h; simp at h)
  have hgt : P.eqGuardType P.depth t = false := by
    simp only [eqFlat] at hf
    unfold aggT at hg
    split at hf
    · rename_i hu; rw [hu] at hg; simp at hg
    · rename_i hu; rw [hu] at hg; simp at hg
    · rename_i hu; rw [hu] at hg; simp at hg
    · split at hf
      · simp at hf
      · rename_i h; simp only [Bool.or_eq_true, not_or, Bool.not_eq_true] at h; exact h.2
    · simp at hf
  cases h1 with | agg _ va hl1 hc1 hh1 =>
  cases h2 with | agg _ vb hl2 hc2 hh2 =>
  have hg2 : (eqGuard op t x y (.agg va.toArray) (.agg vb.toArray)).run P w = .ok () w := by
    have hp : Sem.run P program w = .ok P w := rfl
    rcases ho with rfl | rfl <;> simp [eqGuard, hp, hgt]
  rcases ho with rfl | rfl
  · subst hn
    refine ⟨.bool r, ?_, by cases r <;> exact .bool _⟩
    rw [Sem.run_bind, hg2]
    simp [binOp, Op.equal, Op.maxDepth, key]
  · subst hn
    refine ⟨.bool !r, ?_, by cases r <;> exact .bool _⟩
    rw [Sem.run_bind, hg2]
    simp [binOp, Op.equal, Op.maxDepth, key]
end
end Go.Proofs.YtabgobmeibjeeaaGreatDoor

/- Proved here: parts of the proof, joined (Lo9c, Lo9d, Lo10, Lo11, Lo12, Lo13, Lo14, Lo14b, Lo15, Lo16): an abstract machine, its soundness, what functions of the program compute in it; no condition. -/
import Derived.Lib.UnsafeStr
import Derived.Lib.Builder
import Derived.Lib.Bytealg
import Derived.Lib.AppendStr
import Derived.Lib.AppendZeros
import Derived.StillTail
import Derived.LoopN
import Derived.Scope
import Derived.Test.YtabgobmeibjeeaaGreatDoorM1
namespace Go.Proofs.YtabgobmeibjeeaaGreatDoor
open Go.RowKit
set_option linter.unusedVariables false
set_option linter.unusedSimpArgs false
section
variable {P : Program} {w : World} {ρ : RMap} {H : List AObj}
theorem eqCells_app : ∀ {fs gs : List Nat} {a b : List D} {r : Bool}, eqCells (fs ++ gs) a b = some r → ∃ x y, eqCells fs (a.take fs.length) (b.take fs.length) = some x ∧ eqCells gs (a.drop fs.length) (b.drop fs.length) = some y ∧ r = (x && y)
  | [], gs, a, b, r, h => ⟨true, r, by simp [eqCells], by simpa using h, by simp⟩
  | f :: fs, gs, a :: l, b :: m, r, h => by
    simp only [List.cons_append, eqCells] at h
    split at h
    · rename_i hk
      split at h
      · rename_i x y h1 h2
        obtain ⟨x', y', e1, e2, e3⟩ := eqCells_app h2
        refine ⟨x && x', y', ?_, by simpa using e2, ?_⟩
        · simp only [List.length_cons, List.take_succ_cons, eqCells, hk, if_true, h1, e1]
        · simp only [Option.some.injEq] at h
          subst h e3
          cases x <;> cases x' <;> rfl
      · simp at h
    · simp at h
  | f :: fs, gs, [], b, r, h => by simp [eqCells] at h
  | f :: fs, gs, a :: l, [], r, h => by simp [eqCells] at h
theorem eqCells_len : ∀ {fs : List Nat} {a b : List D} {r : Bool}, eqCells fs a b = some r → a.length = fs.length ∧ b.length = fs.length
  | [], [], [], r, h => ⟨rfl, rfl⟩
  | f :: fs, a :: l, b :: m, r, h => by
    simp only [eqCells] at h
    split at h
    · split at h
      · rename_i h2
        have := eqCells_len h2
        simp [this]
      · simp at h
    · simp at h
  | [], [], _ :: _, r, h => by simp [eqCells] at h
  | [], _ :: _, _, r, h => by simp [eqCells] at h
  | f :: fs, [], b, r, h => by simp [eqCells] at h
  | f :: fs, a :: l, [], r, h => by simp [eqCells] at h
theorem eqCells_one {f : Nat} {a b : D} {r : Bool} (h : eqCells [f] [a] [b] = some r) : isKey f a = true ∧ isKey f b = true ∧ eqCell a b = some r := by
  simp only [eqCells] at h
  split at h
  · rename_i hk
    simp only [Bool.and_eq_true] at hk
    split at h
    · rename_i x y h1 h2
      simp only [Option.some.injEq] at h h2
      subst h2
      refine ⟨hk.1, hk.2, ?_⟩
      rw [h1, ← h]; simp
    · simp at h
  · simp at h
theorem aggT_of {t : TypeId} {td : TypeDesc} (hu : P.underlying t = some td) (h : (match td with | .struct _ | .array _ _ => true | _ => false) = false) : aggT P t = false := by
  unfold aggT
  rw [hu]
  cases td <;> simp_all
/-- cells of one value -/
theorem eqFlat_ok : ∀ (d : Nat) (t : TypeId) (fams : List Nat), eqFlat P d t = some fams → ∀ (k : Nat) (a b : D) (va vb : Value) (r : Bool), VR w ρ H a va → VR w ρ H b vb → a.val = true → b.val = true → eqCells fams a.cells b.cells = some r → (aggT P t = true → (∃ cs, a = .agg cs) ∧ ∃ cs, b = .agg cs) → (aggT P t = false → (∀ cs, a ≠ .agg cs) ∧ ∀ cs, b ≠ .agg cs) →
    (Op.equalIn (d + k) t va vb).run P w = .ok r w
  | 0, t, fams, h => by simp [eqFlat] at h
  | d + 1, t, fams, h => by
    intro k a b va vb r h1 h2 ha hb he hag hna
    rw [show d + 1 + k = (d + k) + 1 by omega]
    simp only [eqFlat] at h
    have prim : ∀ f : Nat, fams = [f] → (∀ cs, a ≠ .agg cs) → (∀ cs, b ≠ .agg cs) → isKey f a = true ∧ isKey f b = true ∧ eqCell a b = some r := by
      rintro f rfl n1 n2
      have e1 : a.cells = [a] := by cases a <;> first | rfl | exact absurd rfl (n1 _)
      have e2 : b.cells = [b] := by cases b <;> first | rfl | exact absurd rfl (n2 _)
      rw [e1, e2] at he
      exact eqCells_one he
    split at h
    · rename_i kk hu
      simp only [Option.some.injEq] at h
      obtain ⟨n1, n2⟩ := hna (aggT_of hu rfl)
      obtain ⟨p1, p2, p3⟩ := prim 0 h.symm n1 n2
      cases a <;> simp [isKey] at p1
      cases b <;> simp [isKey] at p2
      cases h1; cases h2
      simp only [eqCell] at p3
      split at p3
      · rename_i hk
        simp only [Option.some.injEq] at p3
        subst p3
        simp [Op.equalIn, run_underlying hu, hk]
      · simp at p3
    · rename_i hu
      simp only [Option.some.injEq] at h
      obtain ⟨n1, n2⟩ := hna (aggT_of hu rfl)
      obtain ⟨p1, p2, p3⟩ := prim 1 h.symm n1 n2
      cases a <;> simp [isKey] at p1
      cases b <;> simp [isKey] at p2
      cases h1; cases h2
      simp only [eqCell, Option.some.injEq] at p3
      subst p3
      simp [Op.equalIn, run_underlying hu]
    · rename_i hu
      simp only [Option.some.injEq] at h
      obtain ⟨n1, n2⟩ := hna (aggT_of hu rfl)
      obtain ⟨p1, p2, p3⟩ := prim 2 h.symm n1 n2
      cases a <;> simp [isKey] at p1
      cases b <;> simp [isKey] at p2
      cases h1; cases h2
      simp only [eqCell, Option.some.injEq] at p3
      subst p3
      simp [Op.equalIn, run_underlying hu]
    · rename_i fs hu
      split at h
      · simp at h
      · rename_i hst
        simp only [Bool.or_eq_true, not_or, Bool.not_eq_true] at hst
        have hagg : aggT P t = true := by unfold aggT; rw [hu]
        obtain ⟨⟨xs, rfl⟩, ⟨bs, rfl⟩⟩ := hag hagg
        cases h1 with | agg _ va hl1 hc1 hh1 =>
        cases h2 with | agg _ vb hl2 hc2 hh2 =>
        simp only [D.cells] at he
        have ih := eqFlat_ok d
        have key : ∀ (fl : List Field) (o : Nat) (fm : List Nat) (r : Bool), o ≤ xs.length → o ≤ bs.length → eqFields P (eqFlat P d) fl o = some fm → eqCells fm (xs.drop o) (bs.drop o) = some r →
            (forIn fl (none, PUnit.unit) (fun (f : Field) (_ : Option Bool × PUnit) => (if f.name ≠ "_" then (do
              let x ← part f.type va.toArray f.offset
              let y ← part f.type vb.toArray f.offset
              let q ← Op.equalIn (d + k) f.type x y
              if (!q) = true then pure (ForInStep.done (some false, PUnit.unit)) else pure (ForInStep.yield (none, PUnit.unit))) else pure (ForInStep.yield (none, PUnit.unit)) : Sem (ForInStep (Option Bool × PUnit))))).run P w = .ok (if r then (none, PUnit.unit) else (some false, PUnit.unit)) w := by
          intro fl
          induction fl with
          | nil =>
            intro o fm r ho1 ho2 hf hc
            simp only [eqFields, Option.some.injEq] at hf
            subst hf
            have : r = true := by
              cases e1 : xs.drop o <;> cases e2 : bs.drop o <;> simp [e1, e2, eqCells] at hc
              exact hc
            subst this
            simp
          | cons f fl ihl =>
            intro o fm r ho1 ho2 hf hc
            simp only [eqFields] at hf
            split at hf
            · simp at hf
            · rename_i hno
              simp only [not_or, ne_eq, Decidable.not_not] at hno
              obtain ⟨hname, hoff⟩ := hno
              split at hf
              · rename_i fa m hfa hsz
                split at hf
                · rename_i hlen
                  simp only [Option.map_eq_some_iff] at hf
                  obtain ⟨fm', hf', rfl⟩ := hf
                  obtain ⟨x, y, e1, e2, rfl⟩ := eqCells_app hc
                  rw [List.drop_drop] at e2
                  rw [List.drop_drop] at e2
                  rw [hlen] at e1 e2
                  obtain ⟨l1, l2⟩ := eqCells_len e1
                  obtain ⟨l3, l4⟩ := eqCells_len hc
                  have q1 : o + m ≤ xs.length := by simp only [List.length_drop, List.length_append] at l3; omega
                  have q2 : o + m ≤ bs.length := by simp only [List.length_drop, List.length_append] at l4; omega
                  have mk : ∀ (cs : List D), o + m ≤ cs.length → cs.all D.isCell = true → (aggT P f.type = false → m = 1) → ∃ p, partD cs o m (aggT P f.type) = some p ∧ p.cells = (cs.drop o).take m ∧ p.val = true ∧ (aggT P f.type = true → ∃ c, p = .agg c) ∧ (aggT P f.type = false → ∀ c, p ≠ .agg c) := by
                    intro cs hle hcell h1
                    cases hg : aggT P f.type with
                    | true =>
                      refine ⟨.agg ((cs.drop o).take m), by simp [partD, hle], rfl, ?_, fun _ => ⟨_, rfl⟩, fun h => by simp at h⟩
                      simp only [D.val, List.all_eq_true] at hcell ⊢
                      intro c hc'
                      exact hcell c (List.mem_of_mem_drop (List.mem_of_mem_take hc'))
                    | false =>
                      have := h1 hg
                      subst this
                      have hlt : o < cs.length := by omega
                      have hcl : cs[o].isCell = true := by
                        simp only [List.all_eq_true] at hcell
                        exact hcell _ (List.getElem_mem hlt)
                      refine ⟨cs[o], by simp [partD, hlt], ?_, ?_, fun h => by simp at h, fun _ c hc' => by rw [hc'] at hcl; simp [D.isCell] at hcl⟩
                      · rw [List.drop_eq_getElem_cons hlt]
                        cases e : cs[o] <;> first | rfl | (rw [e] at hcl; simp [D.isCell] at hcl)
                      · cases e : cs[o] <;> first | rfl | (rw [e] at hcl; simp [D.isCell] at hcl)
                  have hone : aggT P f.type = false → m = 1 := by
                    intro hg
                    cases d with
                    | zero => simp [eqFlat] at hfa
                    | succ d' =>
                      simp only [eqFlat] at hfa
                      split at hfa
                      · simp only [Option.some.injEq] at hfa; subst hfa; exact hlen.symm
                      · simp only [Option.some.injEq] at hfa; subst hfa; exact hlen.symm
                      · simp only [Option.some.injEq] at hfa; subst hfa; exact hlen.symm
                      · rename_i hu'; unfold aggT at hg; rw [hu'] at hg; simp at hg
                      · simp at hfa
                  obtain ⟨pa, a1, a2, a3, a4, a5⟩ := mk xs q1 hc1 hone
                  obtain ⟨pb, b1, b2, b3, b4, b5⟩ := mk bs q2 hc2 hone
                  obtain ⟨xa, x1, x2⟩ := part_val (P := P) hl1 hc1 hh1 a1 hsz rfl
                  obtain ⟨xb, y1, y2⟩ := part_val (P := P) hl2 hc2 hh2 b1 hsz rfl
                  rw [← a2, ← b2] at e1
                  have hq := ih f.type fa hfa k pa pb xa xb x x2 y2 a3 b3 e1 (fun hg => ⟨a4 hg, b4 hg⟩) (fun hg => ⟨a5 hg, b5 hg⟩)
                  simp only [List.forIn_cons, Sem.run_bind, hname, ne_eq, not_false_eq_true, if_true, hoff, x1, y1, Result.andThen_ok, hq]
                  cases x with
                  | false => simp
                  | true =>
                    simp only [Bool.not_true, Bool.false_eq_true, if_false, Sem.run_pure, Result.andThen_ok, Bool.true_and]
                    exact ihl (o + m) fm' y q1 q2 hf' e2
                · simp at hf
              · simp at hf
        have hk := key fs.toList 0 fams r (Nat.zero_le _) (Nat.zero_le _) h (by simpa using he)
        rw [Array.forIn_toList] at hk
        simp only [Op.equalIn, Sem.run_bind, run_underlying hu, Result.andThen_ok]
        have hp : Sem.run P program w = .ok P w := rfl
        rw [hp, Result.andThen_ok, hst.1, if_neg (by simp), Sem.run_bind]
        refine Eq.trans (congrArg (fun z => Result.andThen z _) hk) ?_
        cases r <;> rfl
    · simp at h
theorem eqs_ok {op : BinOp} {t : TypeId} {x y : Operand} {fams : List Nat} {neg : Bool} {as' bs : List D} {va vb : Value} {r : Bool} (ho : op = .eql ∨ op = .neq) (hn : neg = decide (op = .neq)) (hg : aggT P t = true) (hf : eqFlat P 9 t = some fams) (h1 : VR w ρ H (.agg as') va) (h2 : VR w ρ H (.agg bs) vb) (he : eqCells fams as' bs = some r) :
    ∃ v, (do eqGuard op t x y va vb; binOp op t va vb).run P w = .ok v w ∧ VR w ρ H (.bool (r != neg)) v := by
  have hv1 : (D.agg as').val = true := by cases h1 with | agg _ _ _ hc _ => exact hc
  have hv2 : (D.agg bs).val = true := by cases h2 with | agg _ _ _ hc _ => exact hc
  have key := eqFlat_ok 9 t fams hf 9991 _ _ _ _ r h1 h2 hv1 hv2 he (fun _ => ⟨⟨_, rfl⟩, ⟨_, rfl⟩⟩) (fun h => by rw [hg] at h; simp at h)
  have hgt : P.eqGuardType P.depth t = false := by
    simp only [eqFlat] at hf
    unfold aggT at hg
    split at hf
    · rename_i hu; rw [hu] at hg; simp at hg
    · rename_i hu; rw [hu] at hg; simp at hg
    · rename_i hu; rw [hu] at hg; simp at hg
    · split at hf
      · simp at hf
      · rename_i h; simp only [Bool.or_eq_true, not_or, Bool.not_eq_true] at h; exact h.2
    · simp at hf
  cases h1 with | agg _ va hl1 hc1 hh1 =>
  cases h2 with | agg _ vb hl2 hc2 hh2 =>
  have hg2 : (eqGuard op t x y (.agg va.toArray) (.agg vb.toArray)).run P w = .ok () w := by
    have hp : Sem.run P program w = .ok P w := rfl
    rcases ho with rfl | rfl <;> simp [eqGuard, hp, hgt]
  rcases ho with rfl | rfl
  · subst hn
    refine ⟨.bool r, ?_, by cases r <;> exact .bool _⟩
    rw [Sem.run_bind, hg2]
    simp [binOp, Op.equal, Op.maxDepth, key]
  · subst hn
    refine ⟨.bool !r, ?_, by cases r <;> exact .bool _⟩
    rw [Sem.run_bind, hg2]
    simp [binOp, Op.equal, Op.maxDepth, key]
end
end Go.Proofs.YtabgobmeibjeeaaGreatDoor

namespace Go.Proofs.YtabgobmeibjeeaaGreatDoor
open Go.RowKit
set_option linter.unusedVariables false
set_option linter.unusedSimpArgs false

section
variable {P : Program} {w : World} {ρ : RMap} {S : St}

/-! pointers -/
theorem ptrT_iff {t e : TypeId} : ptrT P t = some e ↔ P.underlying t = some (.pointer e) := by
  unfold ptrT
  split
  · rename_i e' h; simp [h]
  · rename_i h; constructor
    · intro h'; simp at h'
    · intro h'; exact absurd h' (h e)
theorem unsT_iff {t : TypeId} : unsT P t = true ↔ P.underlying t = some .unsafePointer := by
  unfold unsT
  split
  · rename_i h; simp [h]
  · rename_i h; constructor
    · intro h'; simp at h'
    · intro h'; exact absurd h' h
theorem eqp_ok {d1 d2 : D} {v1 v2 : Value} {t e : TypeId} {n : Nat} {b : Bool} {op : BinOp} {x y : Operand} (ho : op = .eql ∨ op = .neq) (ht : ptrT P t = some e) (hn : sizeT P e = some n) (h1 : VR w ρ S.heap d1 v1) (h2 : VR w ρ S.heap d2 v2) (h : eqpD S d1 d2 = some b) :
    ∃ v, (do eqGuard op t x y v1 v2; binOp op t v1 v2).run P w = .ok v w ∧ VR w ρ S.heap (.bool (b != decide (op = .neq))) v := by
  have hu := ptrT_iff.1 ht
  have key : (∀ d : Nat, (Op.equalIn (d + 1) t v1 v2).run P w = .ok b w) → (eqGuard op t x y v1 v2).run P w = .ok () w → (op = .eql → binOp op t v1 v2 = (do pure (.bool (← Op.equal t v1 v2)))) → (op = .neq → binOp op t v1 v2 = (do pure (.bool (!(← Op.equal t v1 v2))))) →
      ∃ v, (do eqGuard op t x y v1 v2; binOp op t v1 v2).run P w = .ok v w ∧ VR w ρ S.heap (.bool (b != decide (op = .neq))) v := by
    intro he hg hb1 hb2
    have hq : (Op.equal t v1 v2).run P w = .ok b w := he 9999
    rcases ho with rfl | rfl
    · exact ⟨.bool b, by rw [run_ok_bind hg, hb1 rfl, run_ok_bind hq]; rfl, by cases b <;> exact .bool _⟩
    · exact ⟨.bool !b, by rw [run_ok_bind hg, hb2 rfl, run_ok_bind hq]; rfl, by cases b <;> exact .bool _⟩
  unfold eqpD at h
  split at h
  · simp only [Option.some.injEq] at h
    subst h
    cases h1; cases h2
    exact key (fun d => by unfold Op.equalIn; rw [run_ok_bind (run_underlying hu w)]; rfl) (by rcases ho with rfl | rfl <;> rfl) (by rintro rfl; rfl) (by rintro rfl; rfl)
  · simp only [Option.some.injEq] at h
    subst h
    cases h1; cases h2
    exact key (fun d => by unfold Op.equalIn; rw [run_ok_bind (run_underlying hu w)]; rfl) (by rcases ho with rfl | rfl <;> rfl) (by rintro rfl; rfl) (by rintro rfl; rfl)
  · simp only [Option.some.injEq] at h
    subst h
    cases h1; cases h2
    exact key (fun d => by unfold Op.equalIn; rw [run_ok_bind (run_underlying hu w)]; rfl) (by rcases ho with rfl | rfl <;> rfl) (by rintro rfl; rfl) (by rintro rfl; rfl)
  · simp only [Option.some.injEq] at h
    subst h
    cases h1; cases h2
    exact key (fun d => by unfold Op.equalIn; rw [run_ok_bind (run_underlying hu w)]; rfl) (by rcases ho with rfl | rfl <;> rfl) (by rintro rfl; rfl) (by rintro rfl; rfl)
  · simp only [Option.some.injEq] at h
    subst h
    cases h1; cases h2
    exact key (fun d => by unfold Op.equalIn; rw [run_ok_bind (run_underlying hu w)]; rfl) (by rcases ho with rfl | rfl <;> rfl) (by rintro rfl; rfl) (by rintro rfl; rfl)
  · rename_i g v i o g' v' i' o'
    split at h
    · rename_i ob ob' hob hob'
      split at h
      · rename_i hgg
        subst hgg
        simp only [Option.some.injEq] at h
        cases h1 with | ptr _ _ _ _ a1 ob1 hg1 hv1 hk1 hc1 =>
        cases h2 with | ptr _ _ _ _ a2 ob2 hg2 hv2 hk2 hc2 =>
        unfold rowsOf at hob hob'
        simp only [hg1] at hob hob'
        rw [hg1] at hg2
        injection hg2 with hg2
        subst hg2
        split at hob
        · rename_i e1
          split at hob'
          · rename_i e2
            simp only [Option.some.injEq] at hob hob'
            subst hob
            obtain ⟨b1, r1, rfl⟩ := hc1 e1
            obtain ⟨b2, r2, rfl⟩ := hc2 e2
            rw [r1] at r2
            injection r2 with r2
            subst r2
            obtain ⟨i2, d2, hi2, hd2, hsz, h0⟩ := sizeT_some hn
            refine key (fun d => ?_) (by rcases ho with rfl | rfl <;> rfl) (by rintro rfl; rfl) (by rintro rfl; rfl)
            unfold Op.equalIn
            rw [run_ok_bind (run_underlying hu w)]
            simp only
            rw [run_ok_bind (run_sizeOf hn)]
            have hn0 : n ≠ 0 := by omega
            simp only [hn0, ne_eq, not_false_eq_true, if_true]
            unfold sameAddr
            simp only [beq_self_eq_true, if_true]
            have : ((⟨b1, i * ob1.sz + o, none⟩ : Addr) == ⟨b1, i' * ob1.sz + o', none⟩) = b := by
              rw [← h]
              by_cases hq : i * ob1.sz + o = i' * ob1.sz + o'
              · simp [hq]
              · simp [hq]
            rw [this]
            rfl
          · simp at hob'
        · simp at hob
      · simp at h
    · simp at h
  · simp at h
theorem shape_of {b : Nat} {cur : Array Value} {e : TypeId} {f : Nat × Nat} (h : w.heap[b]? = some (.cells cur e f)) : w.shape? b = some (e, cur.size) := by simp [World.shape?, h]
/-- a pointer to a whole variable -/
theorem whole_ptr {t : TypeId} {n : Nat} {x r : D} {v : Value} (hr : Rel w ρ S.heap) (hx : VR w ρ S.heap x v) (h : wholeD S t n x = some r) :
    VR w ρ S.heap r v ∧ (v = .pointer none ∨ ∃ b, v = .pointer (some ⟨b, 0, none⟩) ∧ w.shape? b = some (t, n)) := by
  unfold wholeD at h
  split at h
  · simp only [Option.some.injEq] at h
    subst h
    cases hx
    exact ⟨.nilp, .inl rfl⟩
  · rename_i g ver
    split at h
    · rename_i ob hob
      split at h
      · rename_i hk
        obtain ⟨hk0, rfl, rfl, hk1, hk2⟩ := hk
        simp only [Option.some.injEq] at h
        subst h
        refine ⟨hx, .inr ?_⟩
        cases hx with | ptr _ _ _ _ a ob1 hg hv hk3 hc =>
        unfold rowsOf at hob
        simp only [hg] at hob
        split at hob
        · rename_i e1
          simp only [Option.some.injEq] at hob
          subst hob
          obtain ⟨b, hb, rfl⟩ := hc e1
          obtain ⟨o1, ho1, cur, hcur, hz, ⟨c, hcc, hcl, _, hcg⟩, hl, hkk, hh⟩ := hr.cel hb hg hk3
          rw [hg] at ho1
          injection ho1 with ho1
          subst ho1
          refine ⟨b, by simp, ?_⟩
          rw [shape_of hcur, hcc, hcg hk2, hk1, Nat.one_mul]
        · simp at hob
      · simp at h
    · simp at h
  · simp at h
theorem cellsOf_size {t : TypeId} {n : Nat} (h : sizeT P t = some n) : P.cellsOf t = n := by
  obtain ⟨i, d, hi, hd, hsz, h0⟩ := sizeT_some h
  simp [Program.cellsOf, hi, hsz]
theorem toU_ok {s d t : TypeId} {n : Nat} {x r : D} {v : Value} (hr : Rel w ρ S.heap) (hs : ptrT P s = some t) (hd : unsT P d = true) (hn : sizeT P t = some n) (hx : VR w ρ S.heap x v) (h : wholeD S t n x = some r) :
    (convert s d v).run P w = .ok v w ∧ VR w ρ S.heap r v := by
  obtain ⟨h1, h2⟩ := whole_ptr hr hx h
  refine ⟨?_, h1⟩
  obtain ⟨i, td, hi, htd, hsz, h0⟩ := sizeT_some hn
  rcases h2 with rfl | ⟨b, rfl, hsh⟩
  · simp [convert, run_underlying (ptrT_iff.1 hs), run_underlying (unsT_iff.1 hd), Conv.unsafePointer]
  · exact Lib.run_to_unsafe w ⟨b, 0, none⟩ (ptrT_iff.1 hs) (unsT_iff.1 hd) hi (by omega) hsh (by simpa using h0)
theorem liesAt_whole {t : TypeId} {n : Nat} (hc : P.cellsOf t = n) (h0 : 0 < n) : liesAt P P.depth t (n / P.cellsOf t) 0 t 1 = true := by
  have hd : P.depth = (2 * (P.types.size + Made.depth) + 1) + 1 := rfl
  rw [hd]
  simp only [liesAt, Bool.or_eq_true]
  left
  rw [hd]
  have h1 : n / n = 1 := Nat.div_self h0
  have hn0 : n ≠ 0 := by omega
  simp [rowAt, hc, h1, sameLayout, hn0]
theorem ofU_ok {s d t : TypeId} {n : Nat} {x r : D} {v : Value} (hr : Rel w ρ S.heap) (hs : unsT P s = true) (hd : ptrT P d = some t) (hn : sizeT P t = some n) (hx : VR w ρ S.heap x v) (h : wholeD S t n x = some r) :
    (convert s d v).run P w = .ok v w ∧ VR w ρ S.heap r v := by
  obtain ⟨h1, h2⟩ := whole_ptr hr hx h
  refine ⟨?_, h1⟩
  obtain ⟨i, td, hi, htd, hsz, h0⟩ := sizeT_some hn
  rcases h2 with rfl | ⟨b, rfl, hsh⟩
  · simp [convert, run_underlying (unsT_iff.1 hs), run_underlying (ptrT_iff.1 hd), Conv.unsafePointer]
  · exact Lib.run_from_unsafe w ⟨b, 0, none⟩ (unsT_iff.1 hs) (ptrT_iff.1 hd) hi hsh (liesAt_whole (cellsOf_size hn) h0)

/-! bytes that become strings -/
theorem sdata_ok {ts : Array TypeId} {ty : TypeId} {x r : D} {v : Value} (hr : Rel w ρ S.heap) (hx : VR w ρ S.heap x v) (h : sdataD S x = some r) : ∃ u, (Builtin.unsafeSliceData_ ts ty #[v]).run P w = .ok u w ∧ VR w ρ S.heap r u := by
  unfold sdataD at h
  split at h
  · simp only [Option.some.injEq] at h
    subst h
    cases hx
    exact ⟨_, Lib.run_unsafeSliceData_nil w ts ty 0 0, .nilp⟩
  · rename_i g ver m
    split at h
    · rename_i ob hob
      split at h
      · simp only [Option.some.injEq] at h
        subst h
        cases hx with | msl _ _ _ _ _ A c ob1 hnc hcap hg hv hk3 hc =>
        refine ⟨_, Lib.run_unsafeSliceData_row w ts ty A _ c (by omega), .ptr g ver 0 0 A ob1 hg hv hk3 fun e => ?_⟩
        obtain ⟨b, hb, _, hA, _⟩ := hc e
        exact ⟨b, hb, by rw [hA (.inr rfl)]; simp⟩
      · simp at h
    · simp at h
  · simp at h
theorem freeze_set {b n : Nat} {cur : Array Value} {e : TypeId} (h : w.heap[b]? = some (.cells cur e (0, 0))) (o : Nat) (hn : n ≠ 0) : SetBlk w (w.freeze ⟨b, o, none⟩ n) b (.cells cur e (o, o + n)) := by
  have hlt := lt_of_heap h
  refine ⟨by simp [World.freeze, hn], by simp [World.freeze, hn], by simp [World.freeze, hn], by simp [World.freeze, hn], ?_, fun k hk => ?_⟩
  · simp [World.freeze, hn, Array.getElem?_modify, h]
  · simp [World.freeze, hn, Array.getElem?_modify, Ne.symm hk]
theorem bytesOfS_at : ∀ {rows : List (List D)} {l : List UInt8}, bytesOfS rows = some l → rows.length = l.length ∧ ∀ (j : Nat) (x : UInt8), l[j]? = some x → rows[j]? = some [D.int .u8 (x.toNat : Int)]
  | [], l, h => by
    simp only [bytesOfS, Option.some.injEq] at h
    subst h
    exact ⟨rfl, fun j x h => by simp at h⟩
  | r :: rows, l, h => by
    unfold bytesOfS at h
    split at h
    · simp at *
    · rename_i n l' heq
      simp only [List.cons.injEq] at heq
      obtain ⟨rfl, rfl⟩ := heq
      split at h
      · rename_i hb
        simp only [Option.map_eq_some_iff] at h
        obtain ⟨l2, hl2, rfl⟩ := h
        obtain ⟨h1, h2⟩ := bytesOfS_at hl2
        refine ⟨by simp [h1], fun j x hj => ?_⟩
        cases j with
        | zero =>
          simp at hj
          subst hj
          have : (UInt8.ofNat n.toNat).toNat = n.toNat := by simp; omega
          simp [this]
          omega
        | succ j => simpa using h2 j x (by simpa using hj)
      · simp at h
    · simp at h
theorem ustr_ok {pt it ty e : TypeId} {p r : D} {n : Int} {v : Value} {S' : St} {wr : Bool} (hr : Rel w ρ S.heap) (hp : ptrT P pt = some e) (hc : sizeT P e = some 1) (hx : VR w ρ S.heap p v) (h : ustrD S e p n = some (r, S', wr)) :
    ∃ u w', (Builtin.unsafeString_ #[pt, it] ty #[v, .int .i64 n]).run P w = .ok u w' ∧ OpPost w ρ S r S' wr u w' := by
  unfold ustrD at h
  split at h
  · split at h
    · rename_i hn
      subst hn
      simp only [Option.some.injEq, Prod.mk.injEq] at h
      obtain ⟨rfl, rfl, rfl⟩ := h
      cases hx
      exact ⟨_, w, Lib.run_unsafeString_none w pt it ty none, OpPost.pure hr (.str _)⟩
    · simp at h
  · rename_i g ver
    split at h
    · rename_i ob hob
      split at h
      · rename_i hcond
        obtain ⟨hkind, hsz, he, hn⟩ := hcond
        split at h
        · rename_i l hl
          simp only [Option.some.injEq, Prod.mk.injEq] at h
          obtain ⟨rfl, rfl, rfl⟩ := h
          cases hx with | ptr _ _ _ _ a ob1 hg hv hk3 hcp =>
          unfold rowsOf at hob
          simp only [hg] at hob
          split at hob
          · rename_i e1
            simp only [Option.some.injEq] at hob
            subst hob
            subst e1
            obtain ⟨b, hb, rfl⟩ := hcp rfl
            obtain ⟨o1, ho1, cur, hcur, hz, ⟨c, hcc, hcl, hcm, hcg⟩, hrl, hkk, hh⟩ := hr.cel hb hg hk3
            rw [hg] at ho1
            injection ho1 with ho1
            subst ho1
            obtain ⟨hlen, hat⟩ := bytesOfS_at hl
            subst hn he
            by_cases hne : l = []
            · subst hne
              have h0 : ob1.rows.length = 0 := by simpa using hlen
              rw [h0]
              refine ⟨_, w, Lib.run_unsafeString_none w pt it ty _, updN ρ g, ?_, ?_, .str _, by simp⟩
              · exact rel_drop (o' := { ob1 with ver := ob1.ver + 1 }) hr hb hg hcur (⟨rfl, rfl, rfl, rfl, hcur, fun _ _ => rfl⟩ : SetBlk w w b (.cells cur ob1.elem (0, 0))) (by simp) rfl
              · exact stp_drop (o' := { ob1 with ver := ob1.ver + 1 }) hr hb hg hcur (⟨rfl, rfl, rfl, rfl, hcur, fun _ _ => rfl⟩ : SetBlk w w b (.cells cur ob1.elem (0, 0))) (by simp) rfl
            · have hl0 : l.length ≠ 0 := by simpa using hne
              have hset := freeze_set hcur 0 hl0
              have hrun := Lib.run_unsafeString_row (P := P) w pt it ty ob1.elem (ptrT_iff.1 hp) (cellsOf_size hc) b cur.size (shape_of hcur) l hne (by rw [hcc, hsz]; omega) (by unfold maxLen at hcm; omega) (fun j x hj => by
                have hrow := hat j x hj
                obtain ⟨_, _, v, hv1, hv2⟩ := hh j _ 0 _ hrow rfl
                cases hv2
                rw [add_plain, Nat.zero_add]
                simp only [World.cell?, hcur]
                simpa [hsz] using hv1)
              rw [hlen]
              simp only [Nat.zero_mul, Nat.zero_add] at hrun ⊢
              refine ⟨_, _, hrun, updN ρ g, ?_, ?_, .str _, by simp⟩
              · exact rel_drop (o' := { ob1 with ver := ob1.ver + 1 }) hr hb hg hcur hset (by simp) rfl
              · exact stp_drop (o' := { ob1 with ver := ob1.ver + 1 }) hr hb hg hcur hset (by simp) rfl
          · simp at hob
        · simp at h
      · simp at h
    · simp at h
  · simp at h
theorem strsh_ok {s e : TypeId} {x r : D} {v : Value} {S' : St} {wr : Bool} (hr : Rel w ρ S.heap) (hs : P.underlying s = some (.slice e)) (he : P.underlying e = some (.int .u8)) (hx : VR w ρ S.heap x v) (h : strshD S x = some (r, S', wr)) :
    ∃ u w', (convert s s v).run P w = .ok u w' ∧ OpPost w ρ S r S' wr u w' := by
  unfold strshD at h
  split at h
  · rename_i g ver n
    split at h
    · rename_i ob hob
      split at h
      · rename_i hcond
        obtain ⟨hk2, hsz, rfl, hgr⟩ := hcond
        simp only [Option.some.injEq, Prod.mk.injEq] at h
        obtain ⟨rfl, rfl, rfl⟩ := h
        cases hx with | msl _ _ _ _ _ A c ob1 hnc hcap hg hv hk3 hc =>
        unfold rowsOf at hob
        simp only [hg] at hob
        split at hob
        · rename_i e1
          simp only [Option.some.injEq] at hob
          subst hob
          subst e1
          obtain ⟨b, hb, hlo, hA, hcp⟩ := hc rfl
          obtain ⟨o1, ho1, cur, hcur, hz, ⟨cc, hcc, hcl, hcm, hcg⟩, hrl, hkk, hh⟩ := hr.cel hb hg hk3
          rw [hg] at ho1
          injection ho1 with ho1
          subst ho1
          obtain ⟨cur1, hc1, hc2⟩ := hcp rfl
          rw [hcur] at hc1
          injection hc1 with hc1
          injection hc1 with hc1
          subst hc1
          have hce : c = ob1.rows.length := by
            have h1 := hcg hgr
            rw [hcc, h1, hsz] at hc2
            omega
          have hA0 := hA (.inr rfl)
          simp only [Nat.zero_mul] at hA0
          subst hA0
          have hset := freeze_set hcur cur.size (show (1 : Nat) ≠ 0 by decide)
          have hrun : (convert s s (.slice (some ⟨b, 0, none⟩) ob1.rows.length c)).run P w = .ok (.slice (some ⟨b, 0, none⟩) ob1.rows.length c) (w.freeze ⟨b, cur.size, none⟩ 1) := by
            simp [convert, run_underlying hs, run_underlying he, markStringish, shape_of hcur]
          refine ⟨_, _, hrun, updN ρ g, rel_drop (o' := { ob1 with ver := ob1.ver + 1 }) hr hb hg hcur hset (by simp) rfl, stp_drop (o' := { ob1 with ver := ob1.ver + 1 }) hr hb hg hcur hset (by simp) rfl, ?_, by simp⟩
          have hst := stp_drop (o' := { ob1 with ver := ob1.ver + 1 }) hr hb hg hcur hset (by simp) rfl
          refine .sl 1 ob1.rows (some ob1.rows.length) ⟨b, 0, none⟩ ob1.rows.length c rfl hnc (fun k hk => by simp at hk; omega) (fun r hr' => by rw [hrl r hr', hsz]) b 0 (fun i j => (cur[i * 1 + j]?).getD .nilFunc) (fun _ => rfl) (fun i r j d hi hj => ?_) (fun i r j d hi hj => ?_)
          · obtain ⟨q1, q2, u, q3, q4⟩ := hh i r j d hi hj
            rw [hsz] at q3
            refine ⟨?_, ⟨by rw [hset.size]; exact lt_of_heap hcur, ?_, ?_⟩, q2 (by omega)⟩
            · simp only [World.cell?, hset.new, Nat.zero_add, q3, Option.isSome_none, Bool.false_eq_true, if_false, Option.getD_some]
            · intro hX
              exact (hr.hid b _ hX).2 g hb
            · intro g' hg'
              simp only [updN] at hg'
              split at hg'
              · simp at hg'
              · rename_i hne
                exact absurd (hr.inj g' g b hg' hb) hne
          · obtain ⟨q1, q2, u, q3, q4⟩ := hh i r j d hi hj
            rw [hsz] at q3
            rw [q3]
            exact q4.mono hst
        · simp at hob
      · simp at h
    · simp at h
  · simp at h

/-! strings gone over -/
theorem rngs_ok {t : TypeId} {s : ByteArray} (hr : Rel w ρ S.heap) (ht : P.underlying t = some .string) : ∃ v w', (Instr.range t (.string s)).run P w = .ok v w' ∧ OpPost w ρ S (.iter S.heap.length 0) (newAt S ⟨1, 2, [[.str s, .int .i64 0]], 0, 3, false⟩) true v w' := by
  have hadd := AddBlk.alloc w (.stringIter s 0)
  refine ⟨.pointer (some ⟨w.heap.size, 0, none⟩), w.alloc (.stringIter s 0), ?_, _, rel_newiter (ob := ⟨1, 2, [[.str s, .int .i64 0]], 0, 3, false⟩) hr hadd rfl (show (1 : Nat) ≠ 0 by decide) rfl, stp_new hr hadd, ?_, by simp⟩
  · unfold Instr.range
    rw [run_ok_bind (run_underlying ht w)]
    rfl
  · exact .iter _ 0 _ ⟨1, 2, [[.str s, .int .i64 0]], 0, 3, false⟩ (by simp [newAt]) (Nat.le_refl _) (fun _ => by simp [upd])
theorem run_getIter {b pos : Nat} {s : ByteArray} (h : w.heap[b]? = some (.stringIter s pos)) : (getObj b).run P w = .ok (.stringIter s pos) w := by
  simp [getObj, Sem.run, h]
theorem run_setIter {b pos : Nat} {s : ByteArray} {o : Obj} (h : w.heap[b]? = some (.stringIter s pos)) : (setObj b o).run P w = .ok () { w with heap := w.heap.setIfInBounds b o } := by
  simp [setObj, Sem.run, h]
theorem nexts_ok {ty : TypeId} {g ver : Nat} {r : D} {v : Value} {S' : St} {wr : Bool} (hr : Rel w ρ S.heap) (hx : VR w ρ S.heap (.iter g ver) v) (h : nextsD S g ver = some (r, S', wr)) :
    ∃ u w', (Instr.next v true ty).run P w = .ok u w' ∧ OpPost w ρ S r S' wr u w' := by
  unfold nextsD at h
  split at h
  · rename_i ob hob
    split at h
    · rename_i hk
      split at h
      · rename_i s pos hrows
        cases hx with | iter _ _ b ob1 hg hv hc =>
        unfold rowsOf at hob
        simp only [hg] at hob
        split at hob
        · rename_i e1
          simp only [Option.some.injEq] at hob
          subst hob
          subst e1
          have hb := hc rfl
          obtain ⟨s1, p1, h1, h2⟩ := hr.iter hb hg hk.1 (by rw [hk.2]; decide)
          rw [hrows] at h2
          simp only [List.cons.injEq, D.str.injEq, D.int.injEq, and_true, true_and] at h2
          obtain ⟨rfl, rfl⟩ := h2
          rw [Int.toNat_natCast] at h
          have hnc : ∀ c e f, Obj.stringIter s p1 ≠ .cells c e f := fun _ _ _ e => by cases e
          have hblt := lt_of_heap h1
          split at h
          · rename_i hlt
            simp only [Option.some.injEq, Prod.mk.injEq] at h
            obtain ⟨rfl, rfl, rfl⟩ := h
            have hset := SetBlk.setObj (w := w) (o := .stringIter s (p1 + (Utf8.decode s p1).2)) hblt
            refine ⟨.tuple #[.bool true, goInt p1, .int .i32 (Utf8.decode s p1).1], _, ?_, ρ, rel_iter hr hb hg hk.1 (by rw [hk.2]; decide) h1 hnc hset ⟨rfl, rfl, rfl, by simp [hrows], rfl⟩ rfl, stp_map hr hb hg hk.1 h1 hnc hset ⟨rfl, rfl, rfl, by simp [hrows], rfl⟩, ?_, by simp⟩
            · unfold Instr.next
              simp only
              rw [run_ok_bind (run_getIter h1)]
              simp only [hlt, if_true]
              rw [run_ok_bind (run_setIter h1)]
              rfl
            · have hv : VL w ρ S.heap [D.bool true, .int .i64 p1, .int .i32 (Utf8.decode s p1).1] [.bool true, goInt p1, .int .i32 (Utf8.decode s p1).1] := .cons (.bool _) (.cons (.int _ _) (.cons (.int _ _) .nil))
              have hst := stp_map hr hb hg hk.1 h1 hnc hset (o' := { ob1 with rows := [[.str s, .int .i64 (p1 + (Utf8.decode s p1).2 : Nat)]] }) ⟨rfl, rfl, rfl, by simp [hrows], rfl⟩
              exact .tup _ [.bool true, goInt p1, .int .i32 (Utf8.decode s p1).1] rfl (fun j d v e1 e2 => (hv.get e1 e2).mono hst)
          · rename_i hlt
            simp only [Option.some.injEq, Prod.mk.injEq] at h
            obtain ⟨rfl, rfl, rfl⟩ := h
            refine ⟨.tuple #[.bool false], w, ?_, OpPost.pure hr (.tup [.bool false] [.bool false] rfl (fun j d v => VL.get (.cons (.bool _) .nil)))⟩
            unfold Instr.next
            simp only
            rw [run_ok_bind (run_getIter h1)]
            simp only [hlt, if_false]
            rfl
        · simp at hob
      · simp at h
    · simp at h
  · simp at h

/-! functions that the model carries out itself -/
theorem ext_none : Extern.allNextRows.lookup "" = none := by kernel_rfl
theorem ext_idx : Extern.allNextRows.lookup "internal/bytealg.IndexByteString" = none ∧ Extern.allGenericRows.lookup "internal/bytealg.IndexByteString" = none ∧ Extern.allTypedRows.lookup "internal/bytealg.IndexByteString" = none ∧ Extern.allRows.lookup "internal/bytealg.IndexByteString" = some Extern.BytealgIndexByte.indexByte := ⟨by kernel_rfl, by kernel_rfl, by kernel_rfl, by kernel_rfl⟩
theorem ext_cnt : Extern.allNextRows.lookup "internal/bytealg.CountString" = none ∧ Extern.allGenericRows.lookup "internal/bytealg.CountString" = none ∧ Extern.allTypedRows.lookup "internal/bytealg.CountString" = none ∧ Extern.allRows.lookup "internal/bytealg.CountString" = some Extern.BytealgCount.count := ⟨by kernel_rfl, by kernel_rfl, by kernel_rfl, by kernel_rfl⟩
theorem ext_esc : Extern.allNextRows.lookup "internal/abi.NoEscape" = none ∧ Extern.allGenericRows.lookup "internal/abi.NoEscape" = none ∧ Extern.allTypedRows.lookup "internal/abi.NoEscape" = none ∧ Extern.allRows.lookup "internal/abi.NoEscape" = some Extern.AbiNoEscape.same := ⟨by kernel_rfl, by kernel_rfl, by kernel_rfl, by kernel_rfl⟩
theorem run_ext {f : FuncId} {fn : Func} {name : String} {g : Array Value → Sem Value} {vs : Array Value} {v : Value} {w' : World} (hf : P.funcs[f]? = some fn) (hb : fn.body.isNone = true) (hn : fn.name = name) (ho : fn.origin = "") (hne : (name == "runtime.NumGoroutine") = false)
    (hx : Extern.allNextRows.lookup name = none ∧ Extern.allGenericRows.lookup name = none ∧ Extern.allTypedRows.lookup name = none ∧ Extern.allRows.lookup name = some g) (h : (g vs).run P w = .ok v w') : (callFunc f vs).run P w = .ok (.value v) w' := by
  obtain ⟨h1, h2, h3, h4⟩ := hx
  have hp : Sem.run P program w = .ok P w := rfl
  have hfn : Extern.findNext fn = none := by simp [Extern.findNext, hn, ho, h1, ext_none]
  have hfd : Extern.find fn = some g := by simp [Extern.find, hn, h2, h3, h4]
  unfold callFunc
  rw [run_ok_bind hp]
  simp only [hf]
  rw [if_neg (by rw [hn, hne]; simp), if_pos hb]
  rw [run_ok_bind (a := ()) (w' := w) rfl]
  simp only [hfn, hfd]
  rw [run_ok_bind h]
  rfl
theorem idxb_run {s : ByteArray} {c : Int} : (Extern.BytealgIndexByte.indexByte #[.string s, .int .u8 c]).run P w = .ok (.int .i64 (match (List.range s.size).find? (fun i => s[i]! == UInt8.ofNat c.toNat) with | some i => (i : Int) | none => -1)) w := by
  have hdef : Extern.BytealgIndexByte.indexByte #[.string s, .int .u8 c] = (do
      let b ← Extern.Bytes.bytesOf (.string s)
      let c ← Extern.Bytes.asByte (.int .u8 c)
      match (List.range b.size).find? fun i => b[i]! == c with
      | some i => pure (goInt i)
      | none => pure (goInt (-1))) := rfl
  rw [hdef, run_ok_bind (a := s) (w' := w) rfl, run_ok_bind (a := UInt8.ofNat c.toNat) (w' := w) rfl]
  cases (List.range s.size).find? (fun i => s[i]! == UInt8.ofNat c.toNat) <;> rfl
theorem cntb_run {s : ByteArray} {c : Int} : (Extern.BytealgCount.count #[.string s, .int .u8 c]).run P w = .ok (.int .i64 (s.foldl (fun n x => if x == UInt8.ofNat c.toNat then n + 1 else n) (0 : Nat))) w := by
  have hdef : Extern.BytealgCount.count #[.string s, .int .u8 c] = (do
      let b ← Extern.Bytes.bytesOf (.string s)
      let c ← Extern.Bytes.asByte (.int .u8 c)
      pure (goInt (b.foldl (fun n x => if x == c then n + 1 else n) (0 : Nat)))) := rfl
  rw [hdef, run_ok_bind (a := s) (w' := w) rfl, run_ok_bind (a := UInt8.ofNat c.toNat) (w' := w) rfl]
  rfl

/-! bytes of a string, appended -/
theorem appNoneS {t u ty e : TypeId} {i : TypeInfo} (ht : P.underlying t = some (.slice e)) (hu : P.underlying u = some .string) (hi : P.info? e = some i) {A : Option Addr} {n c : Nat} (hnc : n ≤ c) {s : ByteArray} (hs : s.size = 0) :
    (Builtin.append_ #[t, u] ty #[.slice A n c, .string s]).run P w = .ok (.slice A n c) w := by
  cases A with
  | none => simp [Builtin.append_, run_underlying ht, run_underlying hu, sizeOf, typeInfo, hi, Builtin.lenOf, Builtin.firstCells, hnc, hs]
  | some a => simp [Builtin.append_, run_underlying ht, run_underlying hu, sizeOf, typeInfo, hi, Builtin.lenOf, Builtin.firstCells, hnc, hs, storeCells]
theorem appstr_ok {t u ty e : TypeId} {i : TypeInfo} {kind : Nat} {z : List D} {s r : D} {vs : Value} {str : ByteArray} {S' : St} {wr : Bool} (hr : Rel w ρ S.heap) (ht : P.underlying t = some (.slice e)) (hu : P.underlying u = some .string) (hi : P.info? e = some i) (hn : sizeT P e = some 1) (hz : zeroT P e = some z) (hzl : z.length = 1) (hb : 0 < i.bytes) (hk : kind = 1 ∨ kind = 2)
    (hs : VR w ρ S.heap s vs) (h : appendRows e 1 i.bytes kind s (byteRows str) S = some (r, S', wr)) :
    ∃ v w', (Builtin.append_ #[t, u] ty #[vs, .string str]).run P w = .ok v w' ∧ OpPost w ρ S r S' wr v w' := by
  obtain ⟨i1, zv, hi1, hzv, hzc, _, _⟩ := zeroT_some (w := w) (ρ := ρ) (H := S.heap) hz
  rw [hi] at hi1
  injection hi1 with hi1
  subst hi1
  obtain ⟨i2, d2, hi2, hd2, hsz, h0⟩ := sizeT_some hn
  rw [hi] at hi2
  injection hi2 with hi2
  subst hi2
  have hlen : (byteRows str).length = str.size := by simp [byteRows]
  refine append_core hr hi hn hzc hzl hb hk hs (fun r hr' => by
    simp only [byteRows, List.mem_map] at hr'
    obtain ⟨b, _, rfl⟩ := hr'
    rfl) ?_ ?_ h
  · intro hne A m c hm
    exact appNoneS ht hu hi hm (by rw [← hlen, hne]; rfl)
  · intro hne
    refine ⟨Lib.strCells str, by rw [Lib.strCells_length, hlen, Nat.mul_one], Lib.strCells_oneCell str, fun i r j d hi' hj => ?_, fun hpos k1 k2 => ?_, fun bb sLen sCap olds hlo holds hg k1 k2 => ?_, fun g sLen sCap cur hg hroom hfit => ?_⟩
    · simp only [byteRows, List.getElem?_map, Option.map_eq_some_iff] at hi'
      obtain ⟨b, hb', rfl⟩ := hi'
      have hj0 : j = 0 := by have := lt_of_some hj; simp at this; exact this
      subst hj0
      simp at hj
      subst hj
      refine ⟨rfl, rfl, .int .u8 b.toNat, ?_, .int _ _⟩
      simp [Lib.strCells, hb']
    · rw [hlen] at hpos k1 k2 ⊢
      have := run_append_nil_string (P := P) w t u ty e i zv ht hu hi hzv str hpos k1 k2
      have e : Array.map (fun b : UInt8 => Value.int .u8 (b.toNat : Int)) str.data = (Lib.strCells str).toArray := by apply Array.ext'; simp [Lib.strCells]
      rw [this, e]
    · rw [hlen] at hg k1 k2 ⊢
      exact Lib.run_append_grow_string (P := P) w t u ty e i zv ht hu hi hzv bb sLen sCap olds hlo holds str hg k1 k2
    · rw [hlen] at hroom ⊢
      rw [Lib.strCells_length, hsz, Nat.mul_one] at hfit ⊢
      exact Lib.run_append_room_string (P := P) w t u ty e i ht hu hi hsz g sLen sCap cur hg str hroom hfit
/-! zeros, appended to nil -/
theorem appmk_ok {t u ty e : TypeId} {i : TypeInfo} {n : Nat} {z : List D} {k kn : IntKind} {m : Int} {r : D} {S' : St} {wr : Bool} (hr : Rel w ρ S.heap) (ht : P.underlying t = some (.slice e)) (hu : P.underlying u = some (.int kn)) (hi : P.info? e = some i) (hn : sizeT P e = some n) (hz : zeroT P e = some z) (hzl : z.length = n) (hb : 0 < i.bytes)
    (h : (if 0 < m ∧ m.toNat * i.bytes ≤ 140737488355328 then some (D.msl S.heap.length 0 0 m.toNat none, newAt S ⟨e, n, List.replicate m.toNat z, 0, 2, true⟩, true) else none) = some (r, S', wr)) :
    ∃ v w', (Builtin.append_ #[t, u] ty #[.slice none 0 0, .int k m]).run P w = .ok v w' ∧ OpPost w ρ S r S' wr v w' := by
  obtain ⟨i1, zv, hi1, hzv, hzc, hall, hfree⟩ := zeroT_some (w := w) (ρ := ρ) (H := S.heap) hz
  rw [hi] at hi1
  injection hi1 with hi1
  subst hi1
  obtain ⟨i2, d2, hi2, hd2, hsz, h0⟩ := sizeT_some hn
  rw [hi] at hi2
  injection hi2 with hi2
  subst hi2
  split at h
  · rename_i hc
    obtain ⟨hm, hby⟩ := hc
    simp only [Option.some.injEq, Prod.mk.injEq] at h
    obtain ⟨rfl, rfl, rfl⟩ := h
    obtain ⟨q, rfl⟩ : ∃ q : Nat, m = q := ⟨m.toNat, by omega⟩
    rw [Int.toNat_natCast] at hby ⊢
    have h1 : q * 1 ≤ q * i.bytes := Nat.mul_le_mul_left _ hb
    have hq : 0 < q := by omega
    have hml : q ≤ maxLen := by simp only [maxLen]; omega
    have hrun := Lib.run_append_nil_zeros (P := P) w t u ty e i zv k kn ht hu hi hzv q hq (by rw [hsz]; exact h0) (by omega) (by omega)
    have hadd := AddBlk.drewAlloc w (.cells (Builtin.zeroCells zv.cells q ++ Builtin.zeroCells zv.cells (grownCap w q 0 e - q)) e)
    have hge := grownCap_ge w q 0 e
    have hcm := grownCap_le_maxLen w q 0 e hml
    subst hzl
    have hzs : zv.cells.size = z.length := hzc.1
    have hcs : (Builtin.zeroCells zv.cells q ++ Builtin.zeroCells zv.cells (grownCap w q 0 e - q)).size = grownCap w q 0 e * z.length := by
      simp only [Array.size_append, size_zeroCells, hzs, ← Nat.add_mul]
      congr 1
      omega
    have hin := RowsIn.replicate hzc hall hfree q h0
    have hrows : ∀ i' r' j d, (List.replicate q z)[i']? = some r' → r'[j]? = some d → d.isCell = true ∧ d.free = true ∧ ∃ v, (Builtin.zeroCells zv.cells q ++ Builtin.zeroCells zv.cells (grownCap w q 0 e - q))[i' * z.length + j]? = some v ∧ VR w ρ S.heap d v := by
      intro i' r' j d hi' hj
      obtain ⟨q1, q2, v, q3, q4⟩ := hin.2 i' r' j d hi' hj
      refine ⟨q1, q2, v, ?_, q4⟩
      have e1 : Builtin.zeroCells zv.cells q = (Array.range (q * z.length)).map (zv.cells[· % zv.cells.size]!) := by rw [← hzs]; rfl
      rw [← e1] at q3
      rw [Array.getElem?_append_left (Array.getElem?_eq_some_iff.1 q3).1]
      exact q3
    refine ⟨_, _, hrun, _, rel_new (ob := ⟨e, z.length, List.replicate q z, 0, 2, true⟩) hr hadd h0 ⟨_, hcs, by simpa using hge, hcm, by simp⟩ (fun r hr' => by rw [List.eq_of_mem_replicate hr']) (.inr (.inr rfl)) (fun i' r' j d hi' hj => ?_), stp_new hr hadd, ?_, by simp⟩
    · obtain ⟨q1, q2, q3⟩ := hrows i' r' j d hi' hj
      exact ⟨q1, fun _ => q2, q3⟩
    · refine .msl _ 0 0 _ none _ _ ⟨e, z.length, List.replicate q z, 0, 2, true⟩ hge (fun k hk => by cases hk) (by simp [newAt]) (Nat.le_refl _) (by simp) fun _ => ⟨w.heap.size, by simp [upd], by simp, fun _ => by simp, fun _ => ⟨_, hadd.new, by simpa using hcs⟩⟩
  · simp at h
end
end Go.Proofs.YtabgobmeibjeeaaGreatDoor

namespace Go.Proofs.YtabgobmeibjeeaaGreatDoor
open Go.RowKit
set_option linter.unusedVariables false
set_option linter.unusedSimpArgs false

section
variable {P : Program} {w : World} {ρ : RMap} {S : St}

/-- what an operation of the model owes to the abstract one -/
def Does (P : Program) (w : World) (ρ : RMap) (S : St) (ev : Operand → Value) (o : Oper) (r : D) (S' : St) (wr : Bool) : Prop :=
  ∃ nx v w', (execOp ev o).run P w = .ok nx w' ∧ (nx = .value v ∨ nx = .skip ∧ v = undef) ∧ OpPost w ρ S r S' wr v w'

theorem Does.val {ev : Operand → Value} {o : Oper} {r : D} {S' : St} {wr : Bool} {s : Sem Value} (he : execOp ev o = (do pure (.value (← s)))) (h : ∃ v w', s.run P w = .ok v w' ∧ OpPost w ρ S r S' wr v w') : Does P w ρ S ev o r S' wr := by
  obtain ⟨v, w', h1, h2⟩ := h
  exact ⟨.value v, v, w', by rw [he, run_ok_bind h1]; rfl, .inl rfl, h2⟩
theorem Does.pure {ev : Operand → Value} {o : Oper} {r : D} {s : Sem Value} (hr : Rel w ρ S.heap) (he : execOp ev o = (do pure (.value (← s)))) (h : ∃ v, s.run P w = .ok v w ∧ VR w ρ S.heap r v) : Does P w ρ S ev o r S false := by
  obtain ⟨v, h1, h2⟩ := h
  exact Does.val he ⟨v, w, h1, OpPost.pure hr h2⟩
theorem eqb_ok {neg a b : Bool} {op : BinOp} {t : TypeId} {x y : Operand} {H : List AObj} (ho : op = .eql ∨ op = .neq) (hn : neg = decide (op = .neq)) (ht : P.underlying t = some .bool) :
    ∃ v, (do eqGuard op t x y (.bool a) (.bool b); binOp op t (.bool a) (.bool b)).run P w = .ok v w ∧ VR w ρ H (.bool ((a == b) != neg)) v := by
  have h : ∀ d : Nat, (Op.equalIn (d + 1) t (.bool a) (.bool b)).run P w = .ok (a == b) w := fun d => by simp [Op.equalIn, run_underlying ht]
  rcases ho with rfl | rfl
  · subst hn
    refine ⟨.bool (a == b), ?_, by cases a <;> cases b <;> exact .bool _⟩
    simp only [eqGuard, binOp]
    simp [Op.equal, Op.maxDepth, h 9999]
  · subst hn
    refine ⟨.bool !(a == b), ?_, by cases a <;> cases b <;> exact .bool _⟩
    simp only [eqGuard, binOp]
    simp [Op.equal, Op.maxDepth, h 9999]
theorem fold_ok {f : D → D → Option D} {g : Value → Value → Sem Value} (hfg : ∀ {d1 d2 r : D} {v1 v2 : Value}, VR w ρ S.heap d1 v1 → VR w ρ S.heap d2 v2 → f d1 d2 = some r → ∃ v, (g v1 v2).run P w = .ok v w ∧ VR w ρ S.heap r v) :
    ∀ {ds : List D} {vs : List Value} {d r : D} {v : Value}, VR w ρ S.heap d v → VL w ρ S.heap ds vs → foldD f d ds = some r → ∃ u, (vs.foldlM g v).run P w = .ok u w ∧ VR w ρ S.heap r u := by
  intro ds
  induction ds with
  | nil =>
    intro vs d r v hd hv h
    cases hv
    simp only [foldD, Option.some.injEq] at h
    subst h
    exact ⟨v, rfl, hd⟩
  | cons a ds ih =>
    intro vs d r v hd hv h
    cases hv with | cons h1 t1 =>
    simp only [foldD] at h
    split at h
    · rename_i z hz
      obtain ⟨u, h3, h4⟩ := hfg hd h1 hz
      obtain ⟨u2, h5, h6⟩ := ih h4 t1 h
      refine ⟨u2, ?_, h6⟩
      rw [List.foldlM_cons, run_ok_bind h3]
      exact h5
    · simp at h
theorem max2_ok {d1 d2 r : D} {v1 v2 : Value} (h1 : VR w ρ S.heap d1 v1) (h2 : VR w ρ S.heap d2 v2) (h : maxD d1 d2 = some r) : ∃ v, (Builtin.max2 v1 v2).run P w = .ok v w ∧ VR w ρ S.heap r v := by
  unfold maxD at h
  split at h
  · split at h
    · rename_i hk
      subst hk
      simp only [Option.some.injEq] at h
      subst h
      cases h1; cases h2
      exact ⟨_, rfl, .int _ _⟩
    · simp at h
  · simp at h
theorem min2_ok {d1 d2 r : D} {v1 v2 : Value} (h1 : VR w ρ S.heap d1 v1) (h2 : VR w ρ S.heap d2 v2) (h : minD d1 d2 = some r) : ∃ v, (Builtin.min2 v1 v2).run P w = .ok v w ∧ VR w ρ S.heap r v := by
  unfold minD at h
  split at h
  · split at h
    · rename_i hk
      subst hk
      simp only [Option.some.injEq] at h
      subst h
      cases h1; cases h2
      exact ⟨_, rfl, .int _ _⟩
    · simp at h
  · simp at h
theorem maxs_ok {ts : Array TypeId} {t : TypeId} {ds : List D} {vs : List Value} {r : D} (hv : VL w ρ S.heap ds vs) (h : pop .max ds = some r) : ∃ v, (Builtin.max_ ts t vs.toArray).run P w = .ok v w ∧ VR w ρ S.heap r v := by
  cases hv with
  | nil => simp [pop] at h
  | cons h1 t1 => exact fold_ok (fun a b c => max2_ok a b c) h1 t1 h
theorem mins_ok {ts : Array TypeId} {t : TypeId} {ds : List D} {vs : List Value} {r : D} (hv : VL w ρ S.heap ds vs) (h : pop .min ds = some r) : ∃ v, (Builtin.min_ ts t vs.toArray).run P w = .ok v w ∧ VR w ρ S.heap r v := by
  cases hv with
  | nil => simp [pop] at h
  | cons h1 t1 => exact fold_ok (fun a b c => min2_ok a b c) h1 t1 h
theorem boolT_iff {t : TypeId} : boolT P t = true ↔ P.underlying t = some .bool := by
  unfold boolT
  split
  · rename_i h; simp [h]
  · rename_i h; constructor
    · intro h'; simp at h'
    · intro h'; exact absurd h' h
theorem intT_iff {t : TypeId} {k : IntKind} : intT P t = some k ↔ P.underlying t = some (.int k) := by
  unfold intT
  split
  · rename_i k' h; simp [h]
  · rename_i h; constructor
    · intro h'; simp at h'
    · intro h'; exact absurd h' (h k)
theorem mapT_iff {t k e : TypeId} : mapT P t = some (k, e) ↔ P.underlying t = some (.map k e) := by
  unfold mapT
  split
  · rename_i k' e' h; simp [h]
  · rename_i h; constructor
    · intro h'; simp at h'
    · intro h'; exact absurd h' (h k e)
theorem fieldT_some {s : TypeId} {k : Nat} {f : Field} (h : fieldT P s k = some f) : ∃ fs, P.underlying s = some (.struct fs) ∧ fs[k]? = some f := by
  unfold fieldT at h
  split at h
  · rename_i fs hu; exact ⟨fs, hu, h⟩
  · simp at h
theorem parts_zip (ps : Array (Nat × Operand)) (ev : Operand → Value) : (ps.map fun (i, x) => (i, ev x)) = ((ps.toList.map (·.1)).zip ((ps.toList.map (·.2)).map ev)).toArray := by
  apply Array.ext'
  simp only [Array.toList_map]
  generalize ps.toList = l
  induction l with
  | nil => rfl
  | cons p l ih => simp [ih]
theorem vo_of {H : List AObj} {lo hi mx : Option Operand} {ev : Operand → Value} {xs : List D} {a b m : Option D} (hv : VL w ρ H xs ((opnds [lo, hi, mx]).map ev)) (h : sliceArgs lo.isSome hi.isSome mx.isSome xs = some (a, b, m)) :
    VO w ρ H a (lo.map ev) ∧ VO w ρ H b (hi.map ev) ∧ VO w ρ H m (mx.map ev) ∧ (m.isSome = true → b.isSome = true) := by
  cases lo <;> cases hi <;> cases mx <;> simp only [opnds, List.filterMap_cons, List.filterMap_nil, id, List.map_cons, List.map_nil] at hv <;> simp only [Option.isSome_some, Option.isSome_none] at h
  all_goals
    first
      | (cases hv with
         | nil => simp [sliceArgs] at h; obtain ⟨rfl, rfl, rfl⟩ := h; exact ⟨.none, .none, .none, by simp⟩)
      | (cases hv with
         | cons h1 t1 => cases t1 with
           | nil => simp [sliceArgs] at h <;> (obtain ⟨rfl, rfl, rfl⟩ := h; first | exact ⟨.some h1, .none, .none, by simp⟩ | exact ⟨.none, .some h1, .none, by simp⟩))
      | (cases hv with
         | cons h1 t1 => cases t1 with
           | cons h2 t2 => cases t2 with
             | nil => simp [sliceArgs] at h <;> (obtain ⟨rfl, rfl, rfl⟩ := h; first | exact ⟨.some h1, .some h2, .none, by simp⟩ | exact ⟨.none, .some h1, .some h2, by simp⟩))
      | (cases hv with
         | cons h1 t1 => cases t1 with
           | cons h2 t2 => cases t2 with
             | cons h3 t3 => cases t3 with
               | nil => simp [sliceArgs] at h; obtain ⟨rfl, rfl, rfl⟩ := h; exact ⟨.some h1, .some h2, .some h3, by simp⟩)
      | (simp [sliceArgs] at h; done)

set_option maxHeartbeats 4000000 in
theorem aop_ok {mt : Bool} {o : Oper} {l : LOp} {xs : List Operand} {ev : Operand → Value} {ds : List D} {r : D} {S' : St} {wr : Bool} (hevf : ∀ f, ev (.func f) = .func (.func f) #[] #[]) (hlow : lowOp P mt o = some (l, xs)) (hv : VL w ρ S.heap ds (xs.map ev)) (hr : Rel w ρ S.heap) (h : aop l ds S = some (r, S', wr)) :
    Does P w ρ S ev o r S' wr := by
  obtain ⟨odst, oop, oty, opos, oafter, oguard⟩ := o
  unfold lowOp at hlow
  simp only at hlow
  split at hlow
  case h_1 x =>
    simp only [Option.some.injEq, Prod.mk.injEq] at hlow
    obtain ⟨rfl, rfl⟩ := hlow
    cases hv with | cons h1 t1 => cases t1 with | nil =>
    simp only [aop, LOp.loud, pop, Bool.false_eq_true, if_false, Option.map_some, Option.some.injEq, Prod.mk.injEq] at h
    obtain ⟨rfl, rfl, rfl⟩ := h
    exact ⟨_, _, w, rfl, .inl rfl, OpPost.pure hr h1⟩
  case h_2 x =>
    simp only [Option.some.injEq, Prod.mk.injEq] at hlow
    obtain ⟨rfl, rfl⟩ := hlow
    cases hv with | cons h1 t1 => cases t1 with | nil =>
    simp only [aop, LOp.loud, pop, Bool.false_eq_true, if_false, Option.map_some, Option.some.injEq, Prod.mk.injEq] at h
    obtain ⟨rfl, rfl, rfl⟩ := h
    exact ⟨_, _, w, rfl, .inl rfl, OpPost.pure hr h1⟩
  case h_3 c a b =>
    simp only [Option.some.injEq, Prod.mk.injEq] at hlow
    obtain ⟨rfl, rfl⟩ := hlow
    cases hv with | cons h1 t1 => cases t1 with | cons h2 t2 => cases t2 with | cons h3 t3 => cases t3 with | nil =>
    rename_i d1 d2 d3
    cases d1 <;> simp only [aop, LOp.loud, pop, Bool.false_eq_true, if_false, Option.map_some, Option.map_none, reduceCtorEq] at h
    rename_i bb
    simp only [Option.some.injEq, Prod.mk.injEq] at h
    obtain ⟨rfl, rfl, rfl⟩ := h
    generalize hc : ev c = vc at h1
    cases h1
    cases bb
    · exact ⟨_, _, w, by simp [execOp, hc, asBool], .inl rfl, OpPost.pure hr h3⟩
    · exact ⟨_, _, w, by simp [execOp, hc, asBool], .inl rfl, OpPost.pure hr h2⟩
  case h_4 op t x y ty =>
    have key : l = .bin op → xs = [x, y] → Does P w ρ S ev ⟨odst, .binOp op t x y ty, oty, opos, oafter, oguard⟩ r S' wr := by
      rintro rfl rfl
      cases hv with | cons h1 t1 => cases t1 with | cons h2 t2 => cases t2 with | nil =>
      simp only [aop, LOp.loud, pop, Bool.false_eq_true, if_false, Option.map_eq_some_iff, Prod.mk.injEq] at h
      obtain ⟨r', hb, rfl, rfl, rfl⟩ := h
      exact Does.pure hr rfl (bin_ok h1 h2 hb)
    split at hlow
    · rename_i hop
      split at hlow
      · rename_i hbt
        simp only [Option.some.injEq, Prod.mk.injEq] at hlow
        obtain ⟨rfl, rfl⟩ := hlow
        cases hv with | cons h1 t1 => cases t1 with | cons h2 t2 => cases t2 with | nil =>
        rename_i d1 d2
        cases d1 <;> cases d2 <;> simp only [aop, LOp.loud, pop, Bool.false_eq_true, if_false, Option.map_some, Option.map_none, reduceCtorEq] at h
        simp only [Option.some.injEq, Prod.mk.injEq] at h
        obtain ⟨rfl, rfl, rfl⟩ := h
        generalize hx : ev x = vx at h1
        generalize hy : ev y = vy at h2
        cases h1
        cases h2
        refine Does.pure (s := (do eqGuard op t x y (ev x) (ev y); binOp op t (ev x) (ev y))) hr rfl ?_
        rw [hx, hy]
        exact eqb_ok hop rfl (boolT_iff.1 hbt)
      · split at hlow
        · simp only [Option.some.injEq, Prod.mk.injEq] at hlow
          exact key hlow.1.symm hlow.2.symm
        · split at hlow
          · rename_i fam hfam
            split at hlow
            · split at hlow
              · rename_i e hpt
                simp only [Option.map_eq_some_iff, Prod.mk.injEq] at hlow
                obtain ⟨n, hn, rfl, rfl⟩ := hlow
                cases hv with | cons h1 t1 => cases t1 with | cons h2 t2 => cases t2 with | nil =>
                simp only [aop, LOp.loud, lop, if_true, Option.map_eq_some_iff, Prod.mk.injEq] at h
                obtain ⟨b, hb, rfl, rfl, rfl⟩ := h
                exact Does.pure hr rfl (eqp_ok hop hpt hn h1 h2 hb)
              · simp at hlow
            · rename_i hf1
              split at hlow
              · simp at hlow
              · rename_i hf4
                simp only [Option.some.injEq, Prod.mk.injEq] at hlow
                obtain ⟨rfl, rfl⟩ := hlow
                cases hv with | cons h1 t1 => cases t1 with | cons h2 t2 => cases t2 with | nil =>
                simp only [aop, LOp.loud, pop, Bool.false_eq_true, if_false, Option.map_eq_some_iff, Prod.mk.injEq] at h
                obtain ⟨_, ⟨b, hb, rfl⟩, rfl, rfl, rfl⟩ := h
                refine Does.pure hr rfl (eqnil_ok hop hfam hf1 (fun h4 => ?_) h1 h2 hb)
                cases hcx : isConst x with
                | true => exact .inl rfl
                | false =>
                  cases hcy : isConst y with
                  | true => exact .inr rfl
                  | false => exact absurd ⟨h4, hcx, hcy⟩ hf4
          · split at hlow
            · rename_i hagg
              split at hlow
              · rename_i fams hfl
                simp only [Option.some.injEq, Prod.mk.injEq] at hlow
                obtain ⟨rfl, rfl⟩ := hlow
                cases hv with | cons h1 t1 => cases t1 with | cons h2 t2 => cases t2 with | nil =>
                rename_i d1 d2
                cases d1 <;> cases d2 <;> simp only [aop, LOp.loud, pop, Bool.false_eq_true, if_false, Option.map_some, Option.map_none, reduceCtorEq] at h
                simp only [Option.map_eq_some_iff, Prod.mk.injEq] at h
                obtain ⟨_, ⟨q, hq, rfl⟩, rfl, rfl, rfl⟩ := h
                exact Does.pure (s := (do eqGuard op t x y (ev x) (ev y); binOp op t (ev x) (ev y))) hr rfl (eqs_ok hop rfl hagg hfl h1 h2 hq)
              · simp at hlow
            · simp at hlow
    · simp only [Option.some.injEq, Prod.mk.injEq] at hlow
      exact key hlow.1.symm hlow.2.symm
  case h_5 op t x =>
    simp only [Option.some.injEq, Prod.mk.injEq] at hlow
    obtain ⟨rfl, rfl⟩ := hlow
    cases hv with | cons h1 t1 => cases t1 with | nil =>
    simp only [aop, LOp.loud, pop, Bool.false_eq_true, if_false, Option.map_eq_some_iff, Prod.mk.injEq] at h
    obtain ⟨r', hb, rfl, rfl, rfl⟩ := h
    exact Does.pure hr rfl (un_ok h1 hb)
  case h_6 e =>
    split at hlow
    · rename_i z n hz hn
      split at hlow
      · rename_i hl
        simp only [Option.some.injEq, Prod.mk.injEq] at hlow
        obtain ⟨rfl, rfl⟩ := hlow
        cases hv
        simp only [aop, LOp.loud, lop, if_true, Option.some.injEq, Prod.mk.injEq] at h
        obtain ⟨rfl, rfl, rfl⟩ := h
        exact Does.val rfl (alloc_ok hr hz hn hl)
      · simp at hlow
    · simp at hlow
  case h_7 e x =>
    simp only [Option.map_eq_some_iff, Prod.mk.injEq] at hlow
    obtain ⟨n, hn, rfl, rfl⟩ := hlow
    cases hv with | cons h1 t1 => cases t1 with | nil =>
    simp only [aop, LOp.loud, lop, if_true] at h
    split at h
    · rename_i hc
      simp only [Bool.and_eq_true, beq_iff_eq] at hc
      simp only [Option.some.injEq, Prod.mk.injEq] at h
      obtain ⟨rfl, rfl, rfl⟩ := h
      exact Does.val rfl (box_ok hr hn h1 hc.1 hc.2)
    · simp at h
  case h_8 t ps =>
    split at hlow
    · rename_i z pl hz hpl
      split at hlow
      · rename_i places hp
        simp only [Option.some.injEq, Prod.mk.injEq] at hlow
        obtain ⟨rfl, rfl⟩ := hlow
        simp only [aop, LOp.loud, pop, Bool.false_eq_true, if_false, Option.map_eq_some_iff, Prod.mk.injEq] at h
        obtain ⟨_, ⟨cs, hb, rfl⟩, rfl, rfl, rfl⟩ := h
        refine Does.pure (s := Instr.build t (ps.map fun (i, x) => (i, ev x))) hr rfl ?_
        rw [parts_zip]
        exact build_ok hz hpl hp hv (by simp) hb
      · simp at hlow
    · simp at hlow
  case h_9 t len ps =>
    split at hlow
    · rename_i e he
      split at hlow
      · rename_i z n hz hn
        split at hlow
        · rename_i hl
          simp only [Option.some.injEq, Prod.mk.injEq] at hlow
          obtain ⟨rfl, rfl⟩ := hlow
          simp only [aop, LOp.loud, lop, if_true] at h
          split at h
          · rename_i ys hys
            split at h
            · rename_i rs hrs
              refine Does.val (s := Instr.buildSlice t len (ps.map fun (i, x) => (i, ev x))) rfl ?_
              rw [parts_zip]
              exact bslice_ok hr (sliceT_iff.1 he) hz hn hl.1 hl.2 hv (by simp) hys hrs h
            · simp at h
          · simp at h
        · simp at hlow
      · simp at hlow
    · simp at hlow
  case h_10 t a =>
    simp only [Option.map_eq_some_iff, Prod.mk.injEq] at hlow
    obtain ⟨n, hn, rfl, rfl⟩ := hlow
    cases hv with | cons h1 t1 => cases t1 with | nil =>
    simp only [aop, LOp.loud, lop, if_true, Option.map_eq_some_iff, Prod.mk.injEq] at h
    obtain ⟨r', hb, rfl, rfl, rfl⟩ := h
    exact Does.pure hr rfl (load_ok hr h1 hb hn rfl)
  case h_11 t a x =>
    simp only [Option.map_eq_some_iff, Prod.mk.injEq] at hlow
    obtain ⟨n, hn, rfl, rfl⟩ := hlow
    cases hv with | cons h1 t1 => cases t1 with | cons h2 t2 => cases t2 with | nil =>
    simp only [aop, LOp.loud, lop, if_true, Option.map_eq_some_iff, Prod.mk.injEq] at h
    obtain ⟨S2, hb, rfl, rfl, rfl⟩ := h
    obtain ⟨w', h3, h4⟩ := store_ok hr h1 h2 hn hb
    exact ⟨.skip, undef, w', by simp [execOp, h3], .inr ⟨rfl, rfl⟩, h4⟩
  case h_12 x =>
    simp only [Option.some.injEq, Prod.mk.injEq] at hlow
    obtain ⟨rfl, rfl⟩ := hlow
    cases hv with | cons h1 t1 => cases t1 with | nil =>
    rename_i d1
    generalize hx : ev x = vx at h1
    cases d1 <;> simp only [aop, LOp.loud, pop, Bool.false_eq_true, if_false, Option.map_some, Option.map_none, reduceCtorEq] at h
    all_goals
      simp only [Option.some.injEq, Prod.mk.injEq] at h
      obtain ⟨rfl, rfl, rfl⟩ := h
      have h1' := h1
      cases h1
      exact ⟨_, _, w, by simp [execOp, hx], .inl rfl, OpPost.pure hr h1'⟩
  case h_13 s x f =>
    split at hlow
    · rename_i fd hfd
      simp only [Option.map_eq_some_iff, Prod.mk.injEq] at hlow
      obtain ⟨n, hn, rfl, rfl⟩ := hlow
      cases hv with | cons h1 t1 => cases t1 with | nil =>
      simp only [aop, LOp.loud, pop, Bool.false_eq_true, if_false, Option.map_eq_some_iff, Prod.mk.injEq] at h
      obtain ⟨r', hb, rfl, rfl, rfl⟩ := h
      obtain ⟨fs, hu, hf⟩ := fieldT_some hfd
      exact Does.pure hr rfl (faddr_ok hu hf hn h1 hb)
    · simp at hlow
  case h_14 s x f =>
    split at hlow
    · rename_i fd hfd
      simp only [Option.map_eq_some_iff, Prod.mk.injEq] at hlow
      obtain ⟨n, hn, rfl, rfl⟩ := hlow
      cases hv with | cons h1 t1 => cases t1 with | nil =>
      rename_i d1
      cases d1 <;> simp only [aop, LOp.loud, pop, Bool.false_eq_true, if_false, Option.map_some, Option.map_none, reduceCtorEq] at h
      simp only [Option.map_eq_some_iff, Prod.mk.injEq] at h
      obtain ⟨r', hb, rfl, rfl, rfl⟩ := h
      obtain ⟨fs, hu, hf⟩ := fieldT_some hfd
      generalize hx : ev x = vx at h1
      refine Does.pure (s := Instr.field s (ev x) f) hr rfl ?_
      rw [hx]
      cases h1 with
      | agg _ vs hl hc hh =>
        obtain ⟨v, h2, h3⟩ := part_val (P := P) hl hc hh hb hn rfl
        exact ⟨v, by simp [Instr.field, run_underlying hu, hf, asAgg, h2], h3⟩
    · simp at hlow
  case h_15 t x i =>
    split at hlow
    · rename_i e he
      simp only [Option.map_eq_some_iff, Prod.mk.injEq] at hlow
      obtain ⟨n, hn, rfl, rfl⟩ := hlow
      cases hv with | cons h1 t1 => cases t1 with | cons h2 t2 => cases t2 with | nil =>
      simp only [aop, LOp.loud, lop, if_true, Option.map_eq_some_iff, Prod.mk.injEq] at h
      obtain ⟨r', hb, rfl, rfl, rfl⟩ := h
      exact Does.pure hr rfl (iaddr_ok (sliceT_iff.1 he) hn h1 h2 hb)
    · split at hlow
      · rename_i len e he
        simp only [Option.map_eq_some_iff, Prod.mk.injEq] at hlow
        obtain ⟨n, hn, rfl, rfl⟩ := hlow
        cases hv with | cons h1 t1 => cases t1 with | cons h2 t2 => cases t2 with | nil =>
        simp only [aop, LOp.loud, pop, Bool.false_eq_true, if_false, Option.map_eq_some_iff, Prod.mk.injEq] at h
        obtain ⟨r', hb, rfl, rfl, rfl⟩ := h
        exact Does.pure hr rfl (aaddr_ok (arrayT_iff.1 he) hn h1 h2 hb)
      · simp at hlow
  case h_16 t x i =>
    split at hlow
    · rename_i hs
      simp only [Option.some.injEq, Prod.mk.injEq] at hlow
      obtain ⟨rfl, rfl⟩ := hlow
      cases hv with | cons h1 t1 => cases t1 with | cons h2 t2 => cases t2 with | nil =>
      simp only [aop, LOp.loud, pop, Bool.false_eq_true, if_false, Option.map_eq_some_iff, Prod.mk.injEq] at h
      obtain ⟨r', hb, rfl, rfl, rfl⟩ := h
      exact Does.pure hr rfl (index_ok hs h1 h2 hb)
    · split at hlow
      · rename_i len e he
        simp only [Option.map_eq_some_iff, Prod.mk.injEq] at hlow
        obtain ⟨n, hn, rfl, rfl⟩ := hlow
        cases hv with | cons h1 t1 => cases t1 with | cons h2 t2 => cases t2 with | nil =>
        rename_i d1 d2
        cases d1 <;> cases d2 <;> simp only [aop, LOp.loud, pop, Bool.false_eq_true, if_false, Option.map_some, Option.map_none, reduceCtorEq] at h
        split at h
        · rename_i hj
          simp only [Option.map_eq_some_iff, Prod.mk.injEq] at h
          obtain ⟨r', hb, rfl, rfl, rfl⟩ := h
          generalize hx : ev x = vx at h1
          generalize hi : ev i = vi at h2
          cases h2
          refine Does.pure (s := Instr.index t (ev x) (ev i)) hr rfl ?_
          rw [hx, hi]
          cases h1 with
          | agg _ vs hl hc hh =>
            obtain ⟨v, h2, h3⟩ := part_val (P := P) hl hc hh hb hn rfl
            exact ⟨v, by simp [Instr.index, asIntOf, run_underlying (arrayT_iff.1 he), hj, run_sizeOf hn, h2], h3⟩
        · simp at h
      · simp at hlow
  case h_17 t x lo hi mx =>
    split at hlow
    · rename_i hs
      simp only [Option.some.injEq, Prod.mk.injEq] at hlow
      obtain ⟨rfl, rfl⟩ := hlow
      cases hv with | cons h1 t1 =>
      rename_i d1 ds
      generalize hx : ev x = vx at h1
      cases d1 <;> simp only [aop, LOp.loud, pop, Bool.false_eq_true, if_false, Option.map_some, Option.map_none, reduceCtorEq] at h
      cases h1
      split at h
      · rename_i a b hsa
        simp only [Option.map_eq_some_iff, Prod.mk.injEq] at h
        obtain ⟨_, ⟨⟨l, hh⟩, hb, rfl⟩, rfl, rfl, rfl⟩ := h
        obtain ⟨o1, o2, o3, _⟩ := vo_of t1 hsa
        refine Does.pure (s := Instr.sliceAt t (ev x) (lo.map ev) (hi.map ev) (mx.map ev)) hr rfl ?_
        generalize mx.map ev = vm at o3
        cases o3
        rw [hx]
        exact ⟨_, sliceStr_ok (strT_iff.1 hs) o1 o2 hb, .str _⟩
      · simp at h
    · split at hlow
      · rename_i e he
        simp only [Option.map_eq_some_iff, Prod.mk.injEq] at hlow
        obtain ⟨n, hn, rfl, rfl⟩ := hlow
        cases hv with | cons h1 t1 =>
        simp only [aop, LOp.loud, lop, if_true] at h
        split at h
        · rename_i a b m hsa
          simp only [Option.map_eq_some_iff, Prod.mk.injEq] at h
          obtain ⟨r', hb, rfl, rfl, rfl⟩ := h
          obtain ⟨o1, o2, o3, o4⟩ := vo_of t1 hsa
          exact Does.pure hr rfl (slice_ok (sliceT_iff.1 he) hn h1 o1 o2 o3 o4 hb)
        · simp at h
      · simp at hlow
  case h_18 x i =>
    simp only [Option.some.injEq, Prod.mk.injEq] at hlow
    obtain ⟨rfl, rfl⟩ := hlow
    cases hv with | cons h1 t1 => cases t1 with | nil =>
    rename_i d1
    cases d1 <;> simp only [aop, LOp.loud, pop, Bool.false_eq_true, if_false, Option.map_some, Option.map_none, reduceCtorEq] at h
    simp only [Option.map_eq_some_iff, Prod.mk.injEq] at h
    obtain ⟨r', hb, rfl, rfl, rfl⟩ := h
    exact Does.pure hr rfl (extract_ok h1 hb)
  case h_19 t l c =>
    split at hlow
    · rename_i e he
      split at hlow
      · rename_i i z n hi hz hn
        split at hlow
        · rename_i hl
          simp only [Option.some.injEq, Prod.mk.injEq] at hlow
          obtain ⟨rfl, rfl⟩ := hlow
          cases hv with | cons h1 t1 => cases t1 with | cons h2 t2 => cases t2 with | nil =>
          rename_i d1 d2
          generalize hvl : ev l = vl at h1
          generalize hvc : ev c = vc at h2
          cases d1 <;> cases d2 <;> simp only [aop, LOp.loud, lop, if_true, reduceCtorEq] at h
          cases h1
          cases h2
          refine Does.val (s := Instr.makeSlice t (ev l) (ev c)) rfl ?_
          rw [hvl, hvc]
          exact mkslice_ok hr (sliceT_iff.1 he) hi hn hz hl.1 hl.2 (by cases mt <;> simp) h
        · simp at hlow
      · simp at hlow
    · simp at hlow
  case h_20 t rr =>
    split at hlow
    · rename_i hn
      simp only [Option.some.injEq, Prod.mk.injEq] at hlow
      obtain ⟨rfl, rfl⟩ := hlow
      cases hv
      simp only [aop, LOp.loud, lop, if_true, Option.some.injEq, Prod.mk.injEq] at h
      obtain ⟨rfl, rfl, rfl⟩ := h
      have : rr = none := by simpa using hn
      subst this
      exact Does.val rfl (mkmap_ok hr)
    · simp at hlow
  case h_21 t m k v =>
    split at hlow
    · rename_i kt e hmt
      simp only [Option.map_eq_some_iff, Prod.mk.injEq] at hlow
      obtain ⟨kf, hkf, rfl, rfl⟩ := hlow
      cases hv with | cons h1 t1 => cases t1 with | cons h2 t2 => cases t2 with | cons h3 t3 => cases t3 with | nil =>
      simp only [aop, LOp.loud, lop, if_true, Option.map_eq_some_iff, Prod.mk.injEq] at h
      obtain ⟨S2, hb, rfl, rfl, rfl⟩ := h
      obtain ⟨w', h4, h5⟩ := mapset_ok hr (mapT_iff.1 hmt) hkf h1 h2 h3 hb
      exact ⟨.skip, undef, w', by simp [execOp, h4], .inr ⟨rfl, rfl⟩, h5⟩
    · simp at hlow
  case h_22 t m k v =>
    split at hlow
    · rename_i kt e hmt
      simp only [Option.map_eq_some_iff, Prod.mk.injEq] at hlow
      obtain ⟨kf, hkf, rfl, rfl⟩ := hlow
      cases hv with | cons h1 t1 => cases t1 with | cons h2 t2 => cases t2 with | cons h3 t3 => cases t3 with | nil =>
      simp only [aop, LOp.loud, lop, if_true, Option.map_eq_some_iff, Prod.mk.injEq] at h
      obtain ⟨S2, hb, rfl, rfl, rfl⟩ := h
      obtain ⟨w', h4, h5⟩ := mapset_ok hr (mapT_iff.1 hmt) hkf h1 h2 h3 hb
      exact ⟨.skip, undef, w', by simp [execOp, h4], .inr ⟨rfl, rfl⟩, h5⟩
    · simp at hlow
  case h_23 t m k ok =>
    split at hlow
    · rename_i kt e hmt
      split at hlow
      · rename_i z kf hz hkf
        simp only [Option.some.injEq, Prod.mk.injEq] at hlow
        obtain ⟨rfl, rfl⟩ := hlow
        cases hv with | cons h1 t1 => cases t1 with | cons h2 t2 => cases t2 with | nil =>
        simp only [aop, LOp.loud, lop, if_true, Option.map_eq_some_iff, Prod.mk.injEq] at h
        obtain ⟨r', hb, rfl, rfl, rfl⟩ := h
        exact Does.pure hr rfl (mapget_ok hr (mapT_iff.1 hmt) hkf hz h1 h2 hb)
      · simp at hlow
    · simp at hlow
  case h_24 f first caps =>
    split at hlow
    · rename_i hf
      simp only [Option.some.injEq, Prod.mk.injEq] at hlow
      obtain ⟨rfl, rfl⟩ := hlow
      simp only [aop, LOp.loud, pop, Bool.false_eq_true, if_false, Option.map_some, Option.some.injEq, Prod.mk.injEq] at h
      obtain ⟨rfl, rfl, rfl⟩ := h
      have hf0 : first = #[] := by simpa using hf
      subst hf0
      refine Does.pure (s := Instr.makeFunc (.func f) (#[].map ev) (caps.map ev)) hr rfl ⟨.func (.func f) #[] (caps.map ev), by simp [Instr.makeFunc], ?_⟩
      have := VR.fn (w := w) (ρ := ρ) (H := S.heap) f ds (caps.toList.map ev) hv.len (fun j d v => hv.get)
      have he : (caps.toList.map ev).toArray = caps.map ev := by apply Array.ext'; simp
      rw [he] at this
      exact this
    · simp at hlow
  case h_25 s d x =>
    split at hlow
    · rename_i k1 k hk1 hk
      simp only [Option.some.injEq, Prod.mk.injEq] at hlow
      obtain ⟨rfl, rfl⟩ := hlow
      cases hv with | cons h1 t1 => cases t1 with | nil =>
      rename_i d1
      cases d1 <;> simp only [aop, LOp.loud, pop, Bool.false_eq_true, if_false, Option.map_some, Option.map_none, reduceCtorEq] at h
      simp only [Option.some.injEq, Prod.mk.injEq] at h
      obtain ⟨rfl, rfl, rfl⟩ := h
      generalize hx : ev x = vx at h1
      cases h1
      refine Does.pure (s := convert s d (ev x)) hr rfl ⟨.int k _, ?_, .int _ _⟩
      rw [hx]
      simp [convert, run_underlying (intT_iff.1 hk1), run_underlying (intT_iff.1 hk), Conv.intToInt]
    · split at hlow
      · rename_i hss
        simp only [Bool.and_eq_true] at hss
        simp only [Option.some.injEq, Prod.mk.injEq] at hlow
        obtain ⟨rfl, rfl⟩ := hlow
        cases hv with | cons h1 t1 => cases t1 with | nil =>
        rename_i d1
        cases d1 <;> simp only [aop, LOp.loud, pop, Bool.false_eq_true, if_false, Option.map_some, Option.map_none, reduceCtorEq] at h
        simp only [Option.some.injEq, Prod.mk.injEq] at h
        obtain ⟨rfl, rfl, rfl⟩ := h
        generalize hx : ev x = vx at h1
        cases h1
        refine Does.pure (s := convert s d (ev x)) hr rfl ⟨.string _, ?_, .str _⟩
        rw [hx]
        simp [convert, run_underlying (strT_iff.1 hss.1), run_underlying (strT_iff.1 hss.2)]
      · split at hlow
        · rename_i hud
          split at hlow
          · rename_i t hpt
            simp only [Option.map_eq_some_iff, Prod.mk.injEq] at hlow
            obtain ⟨n, hn, rfl, rfl⟩ := hlow
            cases hv with | cons h1 t1 => cases t1 with | nil =>
            simp only [aop, LOp.loud, lop, if_true, Option.map_eq_some_iff, Prod.mk.injEq] at h
            obtain ⟨r', hb, rfl, rfl, rfl⟩ := h
            obtain ⟨h3, h4⟩ := toU_ok hr hpt hud hn h1 hb
            exact Does.pure (s := convert s d (ev x)) hr rfl ⟨_, h3, h4⟩
          · simp at hlow
        · split at hlow
          · rename_i hus
            split at hlow
            · rename_i t hpt
              simp only [Option.map_eq_some_iff, Prod.mk.injEq] at hlow
              obtain ⟨n, hn, rfl, rfl⟩ := hlow
              cases hv with | cons h1 t1 => cases t1 with | nil =>
              simp only [aop, LOp.loud, lop, if_true, Option.map_eq_some_iff, Prod.mk.injEq] at h
              obtain ⟨r', hb, rfl, rfl, rfl⟩ := h
              obtain ⟨h3, h4⟩ := ofU_ok hr hus hpt hn h1 hb
              exact Does.pure (s := convert s d (ev x)) hr rfl ⟨_, h3, h4⟩
            · simp at hlow
          · split at hlow
            · rename_i e e' hse hde
              split at hlow
              · rename_i hc
                obtain ⟨rfl, hc1, hc2⟩ := hc
                simp only [Option.some.injEq, Prod.mk.injEq] at hlow
                obtain ⟨rfl, rfl⟩ := hlow
                cases hv with | cons h1 t1 => cases t1 with | nil =>
                simp only [aop, LOp.loud, lop, if_true] at h
                exact Does.val (s := convert s s (ev x)) rfl (strsh_ok hr (sliceT_iff.1 hse) (intT_iff.1 hc1) h1 h)
              · simp at hlow
            · rename_i e hse hde
              split at hlow
              · rename_i hc
                simp only [Bool.and_eq_true, decide_eq_true_eq, beq_iff_eq] at hc
                simp only [Option.some.injEq, Prod.mk.injEq] at hlow
                obtain ⟨rfl, rfl⟩ := hlow
                cases hv with | cons h1 t1 => cases t1 with | nil =>
                simp only [aop, LOp.loud, lop, if_true] at h
                split at h
                · rename_i rows hrows
                  simp only [Option.map_eq_some_iff, Prod.mk.injEq] at h
                  obtain ⟨b, hb, rfl, rfl, rfl⟩ := h
                  exact Does.pure hr rfl ⟨_, bstr_ok hr (sliceT_iff.1 hse) (intT_iff.1 hc.1.1) (strT_iff.1 hc.1.2) h1 hrows hb, .str _⟩
                · simp at h
              · simp at hlow
            · rename_i e hse hde
              split at hlow
              · rename_i hc
                simp only [Bool.and_eq_true, decide_eq_true_eq, beq_iff_eq] at hc
                simp only [Option.some.injEq, Prod.mk.injEq] at hlow
                obtain ⟨rfl, rfl⟩ := hlow
                cases hv with | cons h1 t1 => cases t1 with | nil =>
                rename_i d1
                generalize hx : ev x = vx at h1
                cases d1 <;> simp only [aop, LOp.loud, lop, if_true, reduceCtorEq] at h
                cases h1
                simp only [Option.some.injEq, Prod.mk.injEq] at h
                obtain ⟨rfl, rfl, rfl⟩ := h
                refine Does.val (s := convert s d (ev x)) rfl ?_
                rw [hx]
                exact strb_ok hr (strT_iff.1 hc.1.2) (sliceT_iff.1 hde) (intT_iff.1 hc.1.1)
              · simp at hlow
            · simp at hlow
  case h_26 c =>
    obtain ⟨callee, args, argTypes⟩ := c
    have run_bi : ∀ (bi : Builtin) (s : Sem Value), (∀ k, builtin bi argTypes oty k (args.map ev) = (do pure (.value (← s)))) → callee = .builtin bi → (∃ v w', s.run P w = .ok v w' ∧ OpPost w ρ S r S' wr v w') →
        Does P w ρ S ev ⟨odst, .call ⟨callee, args, argTypes⟩, oty, opos, oafter, oguard⟩ r S' wr := by
      rintro bi s hs rfl hh
      refine Does.val (s := s) ?_ hh
      simp only [execOp, resolve, invoke]
      rw [← hs (args.map fun | .const _ => true | _ => false)]
      rfl
    simp only at hlow
    split at hlow
    · -- a function
      rename_i f
      split at hlow
      · rename_i fn hfn
        split at hlow
        · rename_i hbody
          split at hlow
          · rename_i l' hl'
            simp only [Option.some.injEq, Prod.mk.injEq] at hlow
            obtain ⟨rfl, rfl⟩ := hlow
            split at hl'
            · rename_i horig
              have he : (args.toList.map ev).toArray = args.map ev := by apply Array.ext'; simp
              have run_x : ∀ (name : String) (g : Array Value → Sem Value), fn.name = name → (name == "runtime.NumGoroutine") = false → (Extern.allNextRows.lookup name = none ∧ Extern.allGenericRows.lookup name = none ∧ Extern.allTypedRows.lookup name = none ∧ Extern.allRows.lookup name = some g) →
                  (∃ v w', (g (args.map ev)).run P w = .ok v w' ∧ OpPost w ρ S r S' wr v w') → Does P w ρ S ev ⟨odst, .call ⟨.value (.func f), args, argTypes⟩, oty, opos, oafter, oguard⟩ r S' wr := by
                rintro name g h1 h2 h3 ⟨v, w', h4, h5⟩
                refine ⟨.value v, v, w', ?_, .inl rfl, h5⟩
                have hh : (execOp ev ⟨odst, .call ⟨.value (.func f), args, argTypes⟩, oty, opos, oafter, oguard⟩).run P w = (callFunc f (args.map ev)).run P w := by
                  simp [execOp, resolve, Deferred.ofValue, invoke, hevf]
                rw [hh]
                exact run_ext hfn hbody h1 horig h2 h3 h4
              unfold externT at hl'
              split at hl'
              · rename_i hnm
                simp only [Option.some.injEq] at hl'
                subst hl'
                refine run_x _ _ hnm (by decide) ext_idx ?_
                rw [← he]
                generalize args.toList.map ev = vs at hv
                cases hv with
                | nil => simp [aop, LOp.loud, pop] at h
                | cons h1 t1 => cases t1 with
                  | nil => simp [aop, LOp.loud, pop] at h
                  | cons h2 t2 => cases t2 with
                    | cons h3 t3 => simp [aop, LOp.loud, pop] at h
                    | nil =>
                      rename_i d1 v1 d2 v2
                      simp only [aop, LOp.loud, Bool.false_eq_true, if_false, Option.map_eq_some_iff, Prod.mk.injEq] at h
                      obtain ⟨r', hp, rfl, rfl, rfl⟩ := h
                      unfold pop at hp
                      split at hp <;> simp only [reduceCtorEq, List.cons.injEq, and_true, Option.some.injEq] at *
                      rename_i s c heq
                      obtain ⟨rfl, rfl⟩ := heq
                      subst hp
                      cases h1; cases h2
                      exact ⟨_, w, idxb_run, OpPost.pure hr (.int _ _)⟩
              · split at hl'
                · rename_i hnm
                  simp only [Option.some.injEq] at hl'
                  subst hl'
                  refine run_x _ _ hnm (by decide) ext_cnt ?_
                  rw [← he]
                  generalize args.toList.map ev = vs at hv
                  cases hv with
                  | nil => simp [aop, LOp.loud, pop] at h
                  | cons h1 t1 => cases t1 with
                    | nil => simp [aop, LOp.loud, pop] at h
                    | cons h2 t2 => cases t2 with
                      | cons h3 t3 => simp [aop, LOp.loud, pop] at h
                      | nil =>
                        rename_i d1 v1 d2 v2
                        simp only [aop, LOp.loud, Bool.false_eq_true, if_false, Option.map_eq_some_iff, Prod.mk.injEq] at h
                        obtain ⟨r', hp, rfl, rfl, rfl⟩ := h
                        unfold pop at hp
                        split at hp <;> simp only [reduceCtorEq, List.cons.injEq, and_true, Option.some.injEq] at *
                        rename_i s c heq
                        obtain ⟨rfl, rfl⟩ := heq
                        subst hp
                        cases h1; cases h2
                        exact ⟨_, w, cntb_run, OpPost.pure hr (.int _ _)⟩
                · split at hl'
                  · rename_i hnm
                    simp only [Option.some.injEq] at hl'
                    subst hl'
                    refine run_x _ _ hnm (by decide) ext_esc ?_
                    rw [← he]
                    generalize args.toList.map ev = vs at hv
                    cases hv with
                    | nil => simp [aop, LOp.loud, pop] at h
                    | cons h1 t1 => cases t1 with
                      | cons h2 t2 => simp [aop, LOp.loud, pop] at h
                      | nil =>
                        simp only [aop, LOp.loud, pop, Bool.false_eq_true, if_false, Option.map_some, Option.some.injEq, Prod.mk.injEq] at h
                        obtain ⟨rfl, rfl, rfl⟩ := h
                        exact ⟨_, w, rfl, OpPost.pure hr h1⟩
                  · simp at hl'
            · simp at hl'
          · simp at hlow
        · simp only [Option.some.injEq, Prod.mk.injEq] at hlow
          obtain ⟨rfl, rfl⟩ := hlow
          simp [aop, lop, LOp.loud] at h
      · simp at hlow
    · simp only [Option.some.injEq, Prod.mk.injEq] at hlow
      obtain ⟨rfl, rfl⟩ := hlow
      simp [aop, lop, LOp.loud] at h
    · -- len
      split at hlow
      · rename_i x t hargs htys
        have ha : args = #[x] := by apply Array.ext'; simpa using hargs
        have hb : argTypes = #[t] := by apply Array.ext'; simpa using htys
        subst ha hb
        split at hlow
        · rename_i hst
          simp only [Option.some.injEq, Prod.mk.injEq] at hlow
          obtain ⟨rfl, rfl⟩ := hlow
          cases hv with | cons h1 t1 => cases t1 with | nil =>
          simp only [aop, LOp.loud, pop, Bool.false_eq_true, if_false, Option.map_eq_some_iff, Prod.mk.injEq] at h
          obtain ⟨r', hb, rfl, rfl, rfl⟩ := h
          have ht : (strT P t = true ∧ P.underlying t = some .string) ∨ (strT P t = false ∧ ∃ e, P.underlying t = some (.slice e)) := by
            cases hs : strT P t with
            | true => exact .inl ⟨rfl, strT_iff.1 hs⟩
            | false =>
              rw [hs] at hst
              simp only [Bool.false_or] at hst
              obtain ⟨e, he⟩ := Option.isSome_iff_exists.1 hst
              exact .inr ⟨rfl, e, sliceT_iff.1 he⟩
          obtain ⟨v, h3, h4⟩ := len_ok (P := P) (ty := oty) ht h1 hb
          exact run_bi .len (Builtin.len_ #[t] oty #[ev x]) (fun k => by simp [builtin]) rfl ⟨v, w, h3, OpPost.pure hr h4⟩
        · split at hlow
          · rename_i n e he
            simp only [Option.some.injEq, Prod.mk.injEq] at hlow
            obtain ⟨rfl, rfl⟩ := hlow
            cases hv with | cons h1 t1 => cases t1 with | nil =>
            simp only [aop, LOp.loud, pop, Bool.false_eq_true, if_false, Option.map_some, Option.some.injEq, Prod.mk.injEq] at h
            obtain ⟨rfl, rfl, rfl⟩ := h
            exact run_bi .len (Builtin.len_ #[t] oty #[ev x]) (fun k => by simp [builtin]) rfl ⟨.int .i64 n, w, by simp [Builtin.len_, run_underlying (arrayT_iff.1 he), goInt], OpPost.pure hr (.int _ _)⟩
          · simp at hlow
      · simp at hlow
    · -- cap
      split at hlow
      · rename_i x t hargs htys
        have ha : args = #[x] := by apply Array.ext'; simpa using hargs
        have hb : argTypes = #[t] := by apply Array.ext'; simpa using htys
        subst ha hb
        split at hlow
        · rename_i hst
          simp only [Option.some.injEq, Prod.mk.injEq] at hlow
          obtain ⟨rfl, rfl⟩ := hlow
          cases hv with | cons h1 t1 => cases t1 with | nil =>
          simp only [aop, LOp.loud, pop, Bool.false_eq_true, if_false, Option.map_eq_some_iff, Prod.mk.injEq] at h
          obtain ⟨r', hb, rfl, rfl, rfl⟩ := h
          obtain ⟨e, he⟩ := Option.isSome_iff_exists.1 hst
          obtain ⟨v, h3, h4⟩ := cap_ok (P := P) (ty := oty) (sliceT_iff.1 he) h1 hb
          exact run_bi .cap (Builtin.cap_ #[t] oty #[ev x]) (fun k => by simp [builtin]) rfl ⟨v, w, h3, OpPost.pure hr h4⟩
        · simp at hlow
      · simp at hlow
    · -- append
      split at hlow
      · rename_i sx x t t' hargs htys
        have ha : args = #[sx, x] := by apply Array.ext'; simpa using hargs
        have hb : argTypes = #[t, t'] := by apply Array.ext'; simpa using htys
        subst ha hb
        split at hlow
        · rename_i hst
          split at hlow
          · rename_i e he
            split at hlow
            · rename_i i z hi hz
              split at hlow
              · rename_i hl
                simp only [Option.some.injEq, Prod.mk.injEq] at hlow
                obtain ⟨rfl, rfl⟩ := hlow
                cases hv with | cons h1 t1 => cases t1 with | cons h2 t2 => cases t2 with | nil =>
                rename_i d1 d2
                generalize hx : ev x = vx at h2
                cases d2 <;> simp only [aop, LOp.loud, lop, if_true, reduceCtorEq] at h
                cases h2
                refine run_bi .append (Builtin.append_ #[t, t'] oty #[ev sx, ev x]) (fun k => by simp [builtin]) rfl ?_
                rw [hx]
                exact appstr_ok hr (sliceT_iff.1 he) (strT_iff.1 hst) hi hl.2.1 hz hl.2.2.1 hl.2.2.2 (by cases mt <;> simp) h1 h
              · simp at hlow
            · simp at hlow
          · simp at hlow
        · split at hlow
          · rename_i htt
            subst htt
            split at hlow
            · rename_i e he
              split at hlow
              · rename_i i n z hi hn hz
                split at hlow
                · rename_i hl
                  simp only [Option.some.injEq, Prod.mk.injEq] at hlow
                  obtain ⟨rfl, rfl⟩ := hlow
                  cases hv with | cons h1 t1 => cases t1 with | cons h2 t2 => cases t2 with | nil =>
                  simp only [aop, LOp.loud, lop, if_true] at h
                  exact run_bi .append (Builtin.append_ #[t, t] oty #[ev sx, ev x]) (fun k => by simp [builtin]) rfl (append_ok hr (sliceT_iff.1 he) hi hn hz hl.1 hl.2 (by cases mt <;> simp) h1 h2 h)
                · simp at hlow
              · simp at hlow
            · simp at hlow
          · split at hlow
            · rename_i hit
              obtain ⟨kn, hkn⟩ := Option.isSome_iff_exists.1 hit
              split at hlow
              · rename_i e he
                split at hlow
                · rename_i i n z hi hn hz
                  split at hlow
                  · rename_i hl
                    simp only [Option.some.injEq, Prod.mk.injEq] at hlow
                    obtain ⟨rfl, rfl⟩ := hlow
                    cases hv with | cons h1 t1 => cases t1 with | cons h2 t2 => cases t2 with | nil =>
                    rename_i d1 d2
                    generalize hvs : ev sx = vs at h1
                    generalize hvx : ev x = vx at h2
                    cases d1 <;> cases d2 <;> simp only [aop, LOp.loud, lop, if_true, reduceCtorEq] at h
                    cases h1
                    cases h2
                    refine run_bi .append (Builtin.append_ #[t, t'] oty #[ev sx, ev x]) (fun k => by simp [builtin]) rfl ?_
                    rw [hvs, hvx]
                    exact appmk_ok hr (sliceT_iff.1 he) (intT_iff.1 hkn) hi hn hz hl.1 hl.2 h
                  · simp at hlow
                · simp at hlow
              · simp at hlow
            · simp at hlow
      · simp at hlow
    · -- max
      simp only [Option.some.injEq, Prod.mk.injEq] at hlow
      obtain ⟨rfl, rfl⟩ := hlow
      simp only [aop, LOp.loud, Bool.false_eq_true, if_false, Option.map_eq_some_iff, Prod.mk.injEq] at h
      obtain ⟨r', hb, rfl, rfl, rfl⟩ := h
      have he : (args.toList.map ev).toArray = args.map ev := by apply Array.ext'; simp
      obtain ⟨v, h3, h4⟩ := maxs_ok (P := P) (ts := argTypes) (t := oty) hv hb
      rw [he] at h3
      exact run_bi .max (Builtin.max_ argTypes oty (args.map ev)) (fun k => by simp [builtin]) rfl ⟨v, w, h3, OpPost.pure hr h4⟩
    · -- min
      simp only [Option.some.injEq, Prod.mk.injEq] at hlow
      obtain ⟨rfl, rfl⟩ := hlow
      simp only [aop, LOp.loud, Bool.false_eq_true, if_false, Option.map_eq_some_iff, Prod.mk.injEq] at h
      obtain ⟨r', hb, rfl, rfl, rfl⟩ := h
      have he : (args.toList.map ev).toArray = args.map ev := by apply Array.ext'; simp
      obtain ⟨v, h3, h4⟩ := mins_ok (P := P) (ts := argTypes) (t := oty) hv hb
      rw [he] at h3
      exact run_bi .min (Builtin.min_ argTypes oty (args.map ev)) (fun k => by simp [builtin]) rfl ⟨v, w, h3, OpPost.pure hr h4⟩
    · -- the bytes of a slice
      split at hlow
      · rename_i x hargs
        have ha : args = #[x] := by apply Array.ext'; simpa using hargs
        subst ha
        simp only [Option.some.injEq, Prod.mk.injEq] at hlow
        obtain ⟨rfl, rfl⟩ := hlow
        cases hv with | cons h1 t1 => cases t1 with | nil =>
        simp only [aop, LOp.loud, lop, if_true, Option.map_eq_some_iff, Prod.mk.injEq] at h
        obtain ⟨r', hb, rfl, rfl, rfl⟩ := h
        obtain ⟨v, h3, h4⟩ := sdata_ok (P := P) (ts := argTypes) (ty := oty) hr h1 hb
        exact run_bi .unsafeSliceData (Builtin.unsafeSliceData_ argTypes oty #[ev x]) (fun k => by simp [builtin]) rfl ⟨v, w, h3, OpPost.pure hr h4⟩
      · simp at hlow
    · -- bytes as a string
      split at hlow
      · rename_i x y t t' hargs htys
        have ha : args = #[x, y] := by apply Array.ext'; simpa using hargs
        have hb : argTypes = #[t, t'] := by apply Array.ext'; simpa using htys
        subst ha hb
        split at hlow
        · rename_i e hpt
          split at hlow
          · rename_i hc
            simp only [Option.some.injEq, Prod.mk.injEq] at hlow
            obtain ⟨rfl, rfl⟩ := hlow
            cases hv with | cons h1 t1 => cases t1 with | cons h2 t2 => cases t2 with | nil =>
            rename_i d1 d2
            generalize hy : ev y = vy at h2
            simp only [aop, LOp.loud, if_true] at h
            unfold lop at h
            split at h <;> simp only [reduceCtorEq, List.cons.injEq, and_true, LOp.ustr.injEq] at *
            rename_i e' p n heq1 heq2
            subst heq1
            obtain ⟨rfl, rfl⟩ := heq2
            cases h2
            refine run_bi .unsafeString (Builtin.unsafeString_ #[t, t'] oty #[ev x, ev y]) (fun k => by simp [builtin]) rfl ?_
            rw [hy]
            exact ustr_ok hr hpt hc.2 h1 h
          · simp at hlow
        · simp at hlow
      · simp at hlow
    · simp at hlow
  case h_27 t x =>
    split at hlow
    · rename_i hst
      simp only [Option.some.injEq, Prod.mk.injEq] at hlow
      obtain ⟨rfl, rfl⟩ := hlow
      cases hv with | cons h1 t1 => cases t1 with | nil =>
      rename_i d1
      generalize hx : ev x = vx at h1
      cases d1 <;> simp only [aop, LOp.loud, lop, if_true, reduceCtorEq] at h
      cases h1
      simp only [Option.some.injEq, Prod.mk.injEq] at h
      obtain ⟨rfl, rfl, rfl⟩ := h
      refine Does.val (s := Instr.range t (ev x)) rfl ?_
      rw [hx]
      exact rngs_ok hr (strT_iff.1 hst)
    · simp at hlow
  case h_28 it isString =>
    split at hlow
    · rename_i hst
      subst hst
      simp only [Option.some.injEq, Prod.mk.injEq] at hlow
      obtain ⟨rfl, rfl⟩ := hlow
      cases hv with | cons h1 t1 => cases t1 with | nil =>
      rename_i d1
      cases d1 <;> simp only [aop, LOp.loud, lop, if_true, reduceCtorEq] at h
      exact Does.val (s := Instr.next (ev it) true oty) rfl (nexts_ok hr h1 h)
    · simp at hlow
  case h_29 => simp at hlow
end
end Go.Proofs.YtabgobmeibjeeaaGreatDoor

namespace Go.Proofs.YtabgobmeibjeeaaGreatDoor
open Go.RowKit
set_option linter.unusedVariables false
set_option linter.unusedSimpArgs false

section
variable {P : Program}

/-- a call of the abstract machine is a call of the model -/
def CallOK (P : Program) (call : CallF) : Prop :=
  ∀ f ds S r S' wr, call f ds S = some (r, S', wr) → ∀ w ρ vs, Rel w ρ S.heap → VL w ρ S.heap ds vs →
    (callFunc f vs.toArray).run P w = .ok (.enter f vs.toArray) w ∧ Calls P f vs.toArray w fun e w' => ∃ v, e = .returned v ∧ OpPost w ρ S r S' wr v w'

theorem lowOp_call {mt : Bool} {o : Oper} {f : FuncId} {xs : List Operand} (h : lowOp P mt o = some (.call f, xs)) : ∃ args tys, o.op = .call ⟨.value (.func f), args, tys⟩ ∧ xs = args.toList := by
  have hx : ∀ {s : String} {b : Prop} [Decidable b] {l : LOp}, (if b then externT s else none) = some l → l ≠ .call f := by
    intro s b _ l hl e
    subst e
    split at hl
    · unfold externT at hl
      repeat' (first | (split at hl; skip) | (simp at hl; done))
      all_goals simp at hl
    · simp at hl
  unfold lowOp at h
  split at h
  case h_26 c hop =>
    obtain ⟨callee, args, tys⟩ := c
    simp only at h
    split at h
    · rename_i f'
      split at h
      · split at h
        · split at h
          · rename_i l' hl'
            simp only [Option.some.injEq, Prod.mk.injEq] at h
            exact absurd h.1 (hx hl')
          · simp at h
        · simp only [Option.some.injEq, Prod.mk.injEq, LOp.call.injEq] at h
          obtain ⟨rfl, rfl⟩ := h
          exact ⟨args, tys, hop, rfl⟩
      · simp at h
    all_goals (repeat' (first | (split at h; skip) | (simp at h; done)))
    all_goals first
      | (simp at h; done)
      | (simp only [Option.map_eq_some_iff, Prod.mk.injEq, reduceCtorEq, false_and, and_false, exists_false] at h; done)
  all_goals (repeat' (first | (split at h; skip) | (simp at h; done)))
  all_goals first
    | (simp at h; done)
    | (simp only [Option.map_eq_some_iff, Prod.mk.injEq, reduceCtorEq, false_and, and_false, exists_false] at h; done)
theorem lowOp_callv {mt : Bool} {o : Oper} {xs : List Operand} (h : lowOp P mt o = some (.callv, xs)) : ∃ t args tys, o.op = .call ⟨.value (.tmp t), args, tys⟩ ∧ xs = .tmp t :: args.toList := by
  have hx : ∀ {s : String} {b : Prop} [Decidable b] {l : LOp}, (if b then externT s else none) = some l → l ≠ .callv := by
    intro s b _ l hl e
    subst e
    split at hl
    · unfold externT at hl
      repeat' (first | (split at hl; skip) | (simp at hl; done))
      all_goals simp at hl
    · simp at hl
  unfold lowOp at h
  split at h
  case h_26 c hop =>
    obtain ⟨callee, args, tys⟩ := c
    simp only at h
    split at h
    · rename_i f'
      split at h
      · split at h
        · split at h
          · rename_i l' hl'
            simp only [Option.some.injEq, Prod.mk.injEq] at h
            exact absurd h.1 (hx hl')
          · simp at h
        · simp at h
      · simp at h
    · simp only [Option.some.injEq, Prod.mk.injEq] at h
      obtain ⟨_, rfl⟩ := h
      exact ⟨_, args, tys, hop, rfl⟩
    all_goals (repeat' (first | (split at h; skip) | (simp at h; done)))
    all_goals first
      | (simp at h; done)
      | (simp only [Option.map_eq_some_iff, Prod.mk.injEq, reduceCtorEq, false_and, and_false, exists_false] at h; done)
  all_goals (repeat' (first | (split at h; skip) | (simp at h; done)))
  all_goals first
    | (simp at h; done)
    | (simp only [Option.map_eq_some_iff, Prod.mk.injEq, reduceCtorEq, false_and, and_false, exists_false] at h; done)

theorem exOp_ok {call : CallF} (hcall : CallOK P call) {mt : Bool} {o : Oper} {l : LOp} {xs : List Operand} {a : Act} {w : World} {ρ : RMap} {S S' : St} {ds : List D} {r : D} {wr : Bool} {K : Act → World → Prop} {Q : Exit → Act → World → Prop}
    (hlowF : lowOpF P mt o = some (l, xs)) (hv : VL w ρ S.heap ds (xs.map a.eval)) (hr : Rel w ρ S.heap) (h : exOp call l ds S = some (r, S', wr)) (hK : ∀ v w', OpPost w ρ S r S' wr v w' → K (a.put o.dst v) w') : o.wp P a w K Q := by
  have hlow : lowOp P mt o = some (l, xs) := by
    unfold lowOpF at hlowF
    split at hlowF
    · rename_i x hx; rw [hx]; exact hlowF
    · simp only [Option.some.injEq, Prod.mk.injEq] at hlowF
      obtain ⟨rfl, rfl⟩ := hlowF
      simp [exOp, aop, LOp.loud, pop] at h
  have plain : aop l ds S = some (r, S', wr) → o.wp P a w K Q := by
    intro h
    obtain ⟨nx, v, w', h1, h2, h3⟩ := aop_ok (fun _ => rfl) hlow hv hr h
    unfold Oper.wp
    rw [h1]
    rcases h2 with rfl | ⟨rfl, rfl⟩
    · exact hK v w' h3
    · exact hK undef w' h3
  have fin : ∀ f vs, (execOp a.eval o).run P w = (callFunc f vs).run P w → (callFunc f vs).run P w = .ok (.enter f vs) w ∧ (Calls P f vs w fun e w' => ∃ v, e = .returned v ∧ OpPost w ρ S r S' wr v w') → o.wp P a w K Q := by
    rintro f vs he ⟨h1, h2⟩
    unfold Oper.wp
    rw [he, h1, Oper.upon_enter]
    refine h2.mono ?_
    rintro e w' ⟨v, rfl, hp⟩
    exact hK v w' hp
  unfold exOp at h
  split at h
  · rename_i f
    obtain ⟨args, tys, hop, rfl⟩ := lowOp_call hlow
    have hc := hcall f ds S r S' wr h w ρ _ hr hv
    have he : (args.toList.map a.eval).toArray = args.map a.eval := by apply Array.ext'; simp
    rw [he] at hc
    refine fin f (args.map a.eval) ?_ hc
    simp [execOp, hop, resolve, Deferred.ofValue, invoke, Act.eval]
  · split at h
    · rename_i f caps ys
      obtain ⟨t, args, tys, hop, rfl⟩ := lowOp_callv hlow
      cases hv with
      | cons h1 t1 =>
        generalize hx : a.eval (.tmp t) = vx at h1
        cases h1 with
        | fn _ _ vs hl hh =>
          have hc := hcall f _ S r S' wr h w ρ _ hr (t1.append (VL.of hl hh))
          have he : (args.toList.map a.eval ++ vs).toArray = args.map a.eval ++ vs.toArray := by apply Array.ext'; simp
          rw [he] at hc
          refine fin f _ ?_ hc
          simp only [Act.eval] at hx
          simp [execOp, hop, resolve, Deferred.ofValue, invoke, Act.eval, hx]
    · simp at h
  · exact plain h

/-! slots -/
def sig (slots : List Nat) (prev : List (Option Tmp)) (vals env : List D) (t : Nat) : D :=
  match locOf prev t with
  | some d => vals.getD d .undef
  | none => match idxOf slots t with
    | some j => env.getD j .undef
    | none => .undef
/-- the frame of the model holds what the abstract machine says of each slot -/
def FR (w : World) (ρ : RMap) (H : List AObj) (nt : Nat) (σ : Nat → D) (a : Act) : Prop :=
  a.tmps.size = nt ∧ ∀ t, t < nt → VR w ρ H (σ t) (a.tmps.getD t undef)
theorem sig_cons (slots : List Nat) (o : Option Tmp) (prev : List (Option Tmp)) (r : D) (vals env : List D) (t : Nat) : sig slots (o :: prev) (r :: vals) env t = if o = some t then r else sig slots prev vals env t := by
  have e : locOf (o :: prev) t = if o = some t then some 0 else (locOf prev t).map (· + 1) := rfl
  unfold sig
  rw [e]
  by_cases h : o = some t
  · simp [h]
  · simp only [h, if_false]
    cases locOf prev t with
    | none => simp
    | some d => simp
theorem FR.put {w w' : World} {ρ ρ' : RMap} {S S' : St} {nt : Nat} {σ σ' : Nat → D} {a : Act} {dst : Option Tmp} {r : D} {v : Value} (h : FR w ρ S.heap nt σ a) (hs : Stp w ρ S w' ρ' S') (hv : VR w' ρ' S'.heap r v) (hd : dstIn nt dst = true) (hσ : ∀ t, σ' t = if dst = some t then r else σ t) :
    FR w' ρ' S'.heap nt σ' (a.put dst v) := by
  cases dst with
  | none => exact ⟨h.1, fun t ht => by rw [hσ]; simpa [Act.put] using (h.2 t ht).mono hs⟩
  | some d =>
    have hdl : d < a.tmps.size := by rw [h.1]; simpa [dstIn] using hd
    refine ⟨by simpa [Act.put] using h.1, fun t ht => ?_⟩
    rw [hσ]
    by_cases e : d = t
    · subst e
      simp [Act.put, hdl, hv]
    · have e' : ¬ some d = some t := by simpa using e
      rw [if_neg e']
      have := (h.2 t ht).mono hs
      simp only [Act.put, Array.getD_eq_getD_getElem?, Array.getElem?_setIfInBounds, if_neg e] at this ⊢
      exact this
theorem idxOf_mem {l : List Nat} {t j : Nat} (h : idxOf l t = some j) : l[j]? = some t := by
  induction l generalizing j with
  | nil => simp [idxOf] at h
  | cons s l ih =>
    unfold idxOf at h
    split at h
    · rename_i e; simp at h; subst h e; rfl
    · simp only [Option.map_eq_some_iff] at h
      obtain ⟨k, hk, rfl⟩ := h
      simpa using ih hk
theorem locOf_mem {l : List (Option Tmp)} {t d : Nat} (h : locOf l t = some d) : l[d]? = some (some t) := by
  induction l generalizing d with
  | nil => simp [locOf] at h
  | cons s l ih =>
    unfold locOf at h
    split at h
    · rename_i e; simp at h; subst h e; rfl
    · simp only [Option.map_eq_some_iff] at h
      obtain ⟨k, hk, rfl⟩ := h
      simpa using ih hk
theorem opd_ok {w : World} {ρ : RMap} {H : List AObj} {nt : Nat} {slots : List Nat} {prev : List (Option Tmp)} {vals env : List D} {a : Act} {x : Operand} {y : LOpd} (h : lowOpd slots prev x = some y) (hs : slots.all (· < nt) = true) (hp : ∀ d ∈ prev, dstIn nt d = true)
    (hf : ∀ t, x = .tmp t → VR w ρ H (sig slots prev vals env t) (a.tmps.getD t undef)) : VR w ρ H (opd vals env y) (a.eval x) := by
  unfold lowOpd at h
  split at h
  · rename_i t
    have h1 := hf t rfl
    unfold sig at h1
    split at h
    · rename_i d hd
      simp only [Option.some.injEq] at h
      subst h
      simp only [hd] at h1
      exact h1
    · rename_i hd
      simp only [Option.map_eq_some_iff] at h
      obtain ⟨j, hj, rfl⟩ := h
      simp only [hd, hj] at h1
      exact h1
  · rename_i v
    simp only [Option.some.injEq] at h
    subst h
    cases hc : constOf v with
    | none => exact .undef _
    | some d => exact constOf_ok hc
  · simp only [Option.some.injEq] at h
    subst h
    exact .fn _ [] [] rfl (fun j d v h => by simp at h)
  · simp only [Option.some.injEq] at h
    subst h
    exact .undef _
theorem tmp_in {nt : Nat} {slots : List Nat} {prev : List (Option Tmp)} {t : Nat} {y : LOpd} (h : lowOpd slots prev (.tmp t) = some y) (hs : slots.all (· < nt) = true) (hp : ∀ d ∈ prev, dstIn nt d = true) : t < nt := by
  unfold lowOpd at h
  simp only at h
  split at h
  · rename_i d hd
    have := hp _ (List.mem_of_getElem? (locOf_mem hd))
    simpa [dstIn] using this
  · simp only [Option.map_eq_some_iff] at h
    obtain ⟨j, hj, _⟩ := h
    have := List.all_eq_true.1 hs t (List.mem_of_getElem? (idxOf_mem hj))
    simpa using this
theorem opds_ok {w : World} {ρ : RMap} {H : List AObj} {nt : Nat} {slots : List Nat} {prev : List (Option Tmp)} {vals env : List D} {a : Act} (hs : slots.all (· < nt) = true) (hp : ∀ d ∈ prev, dstIn nt d = true) : ∀ {xs : List Operand} {ys : List LOpd}, lowOpds slots prev xs = some ys →
    (∀ t, .tmp t ∈ xs → t < nt → VR w ρ H (sig slots prev vals env t) (a.tmps.getD t undef)) → VL w ρ H (ys.map (opd vals env)) (xs.map a.eval)
  | [], ys, h, _ => by simp only [lowOpds, Option.some.injEq] at h; subst h; exact .nil
  | x :: xs, ys, h, hf => by
    unfold lowOpds at h
    split at h
    · rename_i y m hy hm
      simp only [Option.some.injEq] at h
      subst h
      refine .cons (opd_ok hy hs hp fun t ht => ?_) (opds_ok hs hp hm fun t ht => hf t (List.mem_cons_of_mem _ ht))
      subst ht
      exact hf t (List.mem_cons_self ..) (tmp_in hy hs hp)
    · simp at h
theorem exports_get {dsts : List (Option Tmp)} {vals : List D} {slots0 : List Nat} : ∀ {slots : List Nat} {k : Nat} {env : List D} (j : Nat), (exports (expsOf dsts slots k) vals env).getD j .undef = if k ≤ j ∧ j < k + slots.length ∧ j < env.length then (match locOf dsts (slots.getD (j - k) 0) with | some d => vals.getD d .undef | none => env.getD j .undef) else env.getD j .undef
  | [], k, env, j => by simp only [expsOf, exports, List.length_nil]; rw [if_neg (by omega)]
  | s :: l, k, env, j => by
    unfold expsOf
    split
    · rename_i d hd
      simp only [exports]
      rw [exports_get (slots0 := slots0) (slots := l) (k := k + 1) j]
      by_cases e : k = j
      · subst e
        rw [if_neg (by omega)]
        by_cases hl : k < env.length
        · rw [if_pos ⟨Nat.le_refl _, by simp, hl⟩]
          simp [hd, hl]
        · rw [if_neg (by omega)]
          simp [hl]
      · have h1 : (env.set k (vals.getD d .undef)).getD j .undef = env.getD j .undef := by simp [List.getD, List.getElem?_set_ne e]
        rw [h1]
        by_cases h2 : k + 1 ≤ j ∧ j < k + 1 + l.length ∧ j < env.length
        · rw [if_pos (by simpa using h2), if_pos (by simp; omega)]
          rw [show j - k = (j - (k + 1)) + 1 by omega]
          simp
        · rw [if_neg (by simpa using h2), if_neg (by simp; omega)]
    · rename_i hd
      rw [exports_get (slots0 := slots0) (slots := l) (k := k + 1) j]
      by_cases e : k = j
      · subst e
        rw [if_neg (by omega)]
        by_cases hl : k < env.length
        · rw [if_pos ⟨Nat.le_refl _, by simp, hl⟩]
          simp [hd]
        · rw [if_neg (by omega)]
      · by_cases h2 : k + 1 ≤ j ∧ j < k + 1 + l.length ∧ j < env.length
        · rw [if_pos h2, if_pos (by simp; omega)]
          rw [show j - k = (j - (k + 1)) + 1 by omega]
          simp
        · rw [if_neg h2, if_neg (by simp; omega)]
theorem exports_len {vals : List D} : ∀ {es : List (Nat × Nat)} {env : List D}, (exports es vals env).length = env.length
  | [], env => rfl
  | (j, d) :: es, env => by simp only [exports]; rw [exports_len]; simp
/-- the slots behind a region -/
theorem sig_end {dsts : List (Option Tmp)} {slots : List Nat} {vals env : List D} (hl : env.length = slots.length) (t : Nat) : sig slots [] [] (exports (expsOf dsts slots 0) vals env) t = (match idxOf slots t with | some _ => sig slots dsts vals env t | none => .undef) := by
  unfold sig
  simp only [locOf]
  cases hj : idxOf slots t with
  | none => rfl
  | some j =>
    have hm := idxOf_mem hj
    have hjl := lt_of_some hm
    simp only
    rw [exports_get (slots0 := slots), if_pos (by omega)]
    have : slots.getD (j - 0) 0 = t := by simp [List.getD, hm]
    rw [this]
theorem FR.end_ {w : World} {ρ : RMap} {H : List AObj} {nt : Nat} {dsts : List (Option Tmp)} {slots : List Nat} {vals env : List D} {a : Act} (hl : env.length = slots.length) (h : FR w ρ H nt (sig slots dsts vals env) a) : FR w ρ H nt (sig slots [] [] (exports (expsOf dsts slots 0) vals env)) a := by
  refine ⟨h.1, fun t ht => ?_⟩
  rw [sig_end hl]
  cases idxOf slots t with
  | none => exact .undef _
  | some j => exact h.2 t ht

/-- a guard: what the model sees is what the abstract machine sees -/
theorem guard_ok {w : World} {ρ : RMap} {H : List AObj} {nt : Nat} {slots : List Nat} {prev : List (Option Tmp)} {vals env : List D} {a : Act} {ops : Array Oper} {j d : Nat} {b b' : Bool} {t : Tmp} (hjd : (ops[j]?).bind (·.dst) = some t) (hloc : locOf prev t = some d) (hp : ∀ d ∈ prev, dstIn nt d = true)
    (hf : VR w ρ H (sig slots prev vals env t) (a.tmps.getD t undef)) (hsz : a.tmps.size = nt) (hv : vals.getD d .undef = .bool b') : yielded ops a.tmps j = some b' := by
  unfold sig at hf
  simp only [hloc, hv] at hf
  have ht : t < a.tmps.size := by
    have := hp _ (List.mem_of_getElem? (locOf_mem hloc))
    rw [hsz]
    simpa [dstIn] using this
  unfold yielded
  rw [hjd]
  simp only [Option.bind_some, Array.getElem?_eq_getElem ht]
  simp only [Array.getD, ht, dif_pos] at hf
  generalize hx : a.tmps[t] = x at hf
  have hx' : a.tmps.getInternal t ht = x := hx
  rw [hx'] at hf
  cases hf
  rfl

theorem guard_skip {w : World} {ρ : RMap} {H : List AObj} {nt : Nat} {slots : List Nat} {prev : List (Option Tmp)} {vals env : List D} {a : Act} {ops : Array Oper} {j d : Nat} {t : Tmp} (hjd : (ops[j]?).bind (·.dst) = some t) (hloc : locOf prev t = some d) (hp : ∀ d ∈ prev, dstIn nt d = true)
    (hf : VR w ρ H (sig slots prev vals env t) (a.tmps.getD t undef)) (hsz : a.tmps.size = nt) (hv : vals.getD d .undef = .skip) : yielded ops a.tmps j = none := by
  unfold sig at hf
  simp only [hloc, hv] at hf
  have ht : t < a.tmps.size := by
    have := hp _ (List.mem_of_getElem? (locOf_mem hloc))
    rw [hsz]
    simpa [dstIn] using this
  unfold yielded
  rw [hjd]
  simp only [Option.bind_some, Array.getElem?_eq_getElem ht]
  simp only [Array.getD, ht, dif_pos] at hf
  generalize hx : a.tmps[t] = x at hf
  have hx' : a.tmps.getInternal t ht = x := hx
  rw [hx'] at hf
  cases hf
  rfl

theorem seq_ok {call : CallF} (hcall : CallOK P call) {mt : Bool} {nt : Nat} {slots : List Nat} {ops : Array Oper} {env : List D} {Q : Exit → Act → World → Prop} (hs : slots.all (· < nt) = true) :
    ∀ (os : List Oper) (k : Nat) (prev : List (Option Tmp)) (vals : List D) (los : List LOper) (S : St) (vals' : List D) (S' : St) (a : Act) (w : World) (ρ : RMap), ops.toList.drop k = os → prev = ((ops.toList.take k).map (·.dst)).reverse → (∀ d ∈ prev, dstIn nt d = true) →
      lowOps P mt nt slots os prev = some los → exOps call los vals env S = some (vals', S') → Rel w ρ S.heap → FR w ρ S.heap nt (sig slots prev vals env) a →
      (∀ a' w' ρ', Rel w' ρ' S'.heap → Stp w ρ S w' ρ' S' → FR w' ρ' S'.heap nt (sig slots (dstsOf ops.toList) vals' env) a' → a'.defers = a.defers → Q .normal a' w') →
      wpOps P ops Q (List.range' k os.length) a w := by
  intro os
  induction os with
  | nil =>
    intro k prev vals los S vals' S' a w ρ hk hprev hp hlow hex hr hf hQ
    simp only [lowOps, Option.some.injEq] at hlow
    subst hlow
    simp only [exOps, Option.some.injEq, Prod.mk.injEq] at hex
    obtain ⟨rfl, rfl⟩ := hex
    have hkl : ops.toList.length ≤ k := by
      have := congrArg List.length hk
      simp only [List.length_drop, List.length_nil] at this
      omega
    have hpe : prev = dstsOf ops.toList := by rw [hprev, List.take_of_length_le hkl]; rfl
    show Q .normal a w
    exact hQ a w ρ hr (Stp.refl _ _ _) (hpe ▸ hf) rfl
  | cons o os ih =>
    intro k prev vals los S vals' S' a w ρ hk hprev hp hlow hex hr hf hQ
    have hko : ops.toList[k]? = some o := by
      have : (ops.toList.drop k)[0]? = some o := by rw [hk]; rfl
      simpa using this
    have hkl : k < ops.toList.length := lt_of_some hko
    have hko' : ops[k]? = some o := by simpa using hko
    have hdrop : ops.toList.drop (k + 1) = os := by
      have : (ops.toList.drop k).drop 1 = os := by rw [hk]; rfl
      rwa [List.drop_drop] at this
    have hprev' : o.dst :: prev = ((ops.toList.take (k + 1)).map (·.dst)).reverse := by
      rw [List.take_succ_eq_append_getElem hkl, List.map_append, List.reverse_append, ← hprev]
      have : ops.toList[k] = o := by rw [List.getElem?_eq_getElem hkl] at hko; injection hko
      simp [this]
    have hpl : prev.length = k := by rw [hprev, List.length_reverse, List.length_map, List.length_take]; omega
    unfold lowOps at hlow
    split at hlow
    · simp at hlow
    · rename_i l xs hlop
      split at hlow
      · rename_i args g rest hargs hg hrest
        split at hlow
        · rename_i hd
          simp only [Option.some.injEq] at hlow
          subst hlow
          have hp' : ∀ d ∈ o.dst :: prev, dstIn nt d = true := by
            intro d hd'
            rcases List.mem_cons.1 hd' with rfl | hd'
            · exact hd
            · exact hp d hd'
          rw [List.length_cons, List.range'_succ]
          simp only [wpOps, hko']
          have go : Region.wanted o (yielded ops a.tmps) = true → (match exOp call l (args.map (opd vals env)) S with | none => none | some (r, S1, wr) => exOps call rest (r :: vals) env S1) = some (vals', S') →
              (if Region.wanted o (yielded ops a.tmps) = true then o.wp P a w (wpOps P ops Q (List.range' (k + 1) os.length)) Q ∨ o.asks P a w ∧ LetsOut Q else wpOps P ops Q (List.range' (k + 1) os.length) (a.put o.dst undef) w) := by
            intro hw hx
            rw [if_pos hw]
            left
            split at hx
            · simp at hx
            · rename_i r S1 wr hop
              refine exOp_ok hcall hlop (opds_ok hs hp hargs fun t _ ht => hf.2 t ht) hr hop ?_
              rintro v w1 ⟨ρ1, h1, h2, h3, _⟩
              refine ih (k + 1) (o.dst :: prev) (r :: vals) rest S1 vals' S' _ w1 ρ1 hdrop hprev' hp' hrest hx h1 (hf.put h2 h3 hd fun t => sig_cons slots o.dst prev r vals env t) ?_
              intro a' w' ρ' h4 h5 h6 h7
              exact hQ a' w' ρ' h4 (h2.trans h5) h6 (h7.trans (by cases o.dst <;> rfl))
          unfold exOps at hex
          cases hgo : o.guard with
          | none =>
            rw [hgo] at hg
            simp only [lowGuard, Option.some.injEq] at hg
            subst hg
            simp only [onG] at hex
            exact go (by simp [Region.wanted, hgo]) hex
          | some jb =>
            obtain ⟨j, b⟩ := jb
            rw [hgo] at hg
            unfold lowGuard at hg
            simp only at hg
            split at hg
            · rename_i hj
              split at hg
              · rename_i t ht
                split at hg
                · rename_i hloc
                  simp only [Option.some.injEq] at hg
                  subst hg
                  simp only [onG] at hex
                  have hjd : (ops[j]?).bind (·.dst) = some t := by
                    rw [hprev] at ht
                    have hjl : j < ops.toList.length := by omega
                    have h1 : ((ops.toList.take k).map (·.dst)).length = k := by rw [List.length_map, List.length_take]; omega
                    simp only [List.getD, List.length_reverse, h1] at ht
                    rw [List.getElem?_reverse (by rw [h1]; omega), h1, show k - 1 - (k - 1 - j) = j by omega] at ht
                    simp only [List.getElem?_map, List.getElem?_take] at ht
                    rw [if_pos (by omega)] at ht
                    have h2 : ops[j]? = some ops.toList[j] := by simp
                    rw [List.getElem?_eq_getElem hjl] at ht
                    rw [h2]
                    simpa using ht
                  split at hex
                  · simp at hex
                  · -- the guard says no
                    rename_i hv
                    split at hv
                    · rename_i b' hb'
                      simp only [Option.some.injEq] at hv
                      have hy := guard_ok (b := b) hjd hloc hp (hf.2 t (by
                        have := hp _ (List.mem_of_getElem? (locOf_mem hloc))
                        simpa [dstIn] using this)) hf.1 hb'
                      have hw : Region.wanted o (yielded ops a.tmps) = false := by
                        simp only [Region.wanted, hgo, hy]
                        simpa using hv
                      rw [hw]
                      simp only [Bool.false_eq_true, if_false]
                      refine ih (k + 1) (o.dst :: prev) (.skip :: vals) rest S vals' S' _ w ρ hdrop hprev' hp' hrest hex hr (hf.put (Stp.refl _ _ _) .skip hd fun t => sig_cons slots o.dst prev .skip vals env t) ?_
                      intro a' w' ρ' h4 h5 h6 h7
                      exact hQ a' w' ρ' h4 h5 h6 (h7.trans (by cases o.dst <;> rfl))
                    · rename_i hb'
                      have hy := guard_skip hjd hloc hp (hf.2 t (by
                        have := hp _ (List.mem_of_getElem? (locOf_mem hloc))
                        simpa [dstIn] using this)) hf.1 hb'
                      have hw : Region.wanted o (yielded ops a.tmps) = false := by
                        simp only [Region.wanted, hgo, hy]
                        rfl
                      rw [hw]
                      simp only [Bool.false_eq_true, if_false]
                      refine ih (k + 1) (o.dst :: prev) (.skip :: vals) rest S vals' S' _ w ρ hdrop hprev' hp' hrest hex hr (hf.put (Stp.refl _ _ _) .skip hd fun t => sig_cons slots o.dst prev .skip vals env t) ?_
                      intro a' w' ρ' h4 h5 h6 h7
                      exact hQ a' w' ρ' h4 h5 h6 (h7.trans (by cases o.dst <;> rfl))
                    · simp at hv
                  · rename_i hv
                    split at hv
                    · rename_i b' hb'
                      simp only [Option.some.injEq] at hv
                      have hy := guard_ok (b := b) hjd hloc hp (hf.2 t (by
                        have := hp _ (List.mem_of_getElem? (locOf_mem hloc))
                        simpa [dstIn] using this)) hf.1 hb'
                      refine go ?_ hex
                      simp only [Region.wanted, hgo, hy]
                      simpa using hv
                    · simp at hv
                    · simp at hv
                · simp at hg
              · simp at hg
            · simp at hg
        · simp at hlow
      · simp at hlow
end
end Go.Proofs.YtabgobmeibjeeaaGreatDoor

namespace Go.Proofs.YtabgobmeibjeeaaGreatDoor
open Go.RowKit
set_option linter.unusedVariables false
set_option linter.unusedSimpArgs false

/-- a set of operations that has with each one all that it waits for -/
def Down (ops : Array Oper) (L : Nat → Prop) : Prop := ∀ i o, ops[i]? = some o → L i → ∀ e ∈ o.after, Region.binds .any e = true → L e.on

theorem one_bit (get : Nat → Nat) : ∀ (es : List Edge) (s i : Nat), (es.foldl (fun s e => if Region.binds .any e then s ||| 2 ^ e.on ||| get e.on else s) s).testBit i = true → s.testBit i = true ∨ ∃ e ∈ es, Region.binds .any e = true ∧ (i = e.on ∨ (get e.on).testBit i = true)
  | [], s, i, h => .inl h
  | e :: es, s, i, h => by
    rw [List.foldl_cons] at h
    rcases one_bit get es _ i h with h1 | ⟨e', he', h2⟩
    · by_cases hb : Region.binds .any e = true
      · rw [if_pos hb, Nat.testBit_or, Nat.testBit_or, Bool.or_eq_true, Bool.or_eq_true] at h1
        rcases h1 with (h1 | h1) | h1
        · exact .inl h1
        · refine .inr ⟨e, by simp, hb, .inl ?_⟩
          rw [Nat.testBit_two_pow] at h1
          have : e.on = i := by simpa using h1
          exact this.symm
        · exact .inr ⟨e, by simp, hb, .inr h1⟩
      · rw [if_neg hb] at h1
        exact .inl h1
    · exact .inr ⟨e', by simp [he'], h2⟩
theorem before_aux {ops : Array Oper} {L : Nat → Prop} (hL : Down ops L) : ∀ (os : List Oper) (acc : Array Nat), ops.toList.drop acc.size = os → (∀ j i, (acc.getD j 0).testBit i = true → L j → L i) → ∀ j i, ((os.foldl (fun acc o => acc.push (o.after.foldl (fun s e => if Region.binds .any e then s ||| 2 ^ e.on ||| acc.getD e.on 0 else s) 0)) acc).getD j 0).testBit i = true → L j → L i
  | [], acc, hd, h => h
  | o :: os, acc, hd, h => by
    rw [List.foldl_cons]
    have ho : ops[acc.size]? = some o := by
      have : (ops.toList.drop acc.size)[0]? = some o := by rw [hd]; rfl
      simpa using this
    refine before_aux hL os _ ?_ ?_
    · have : (ops.toList.drop acc.size).drop 1 = os := by rw [hd]; rfl
      rw [List.drop_drop] at this
      simpa using this
    · intro j i hj hLj
      by_cases hlt : j < acc.size
      · have e : (acc.push (o.after.foldl (fun s e => if Region.binds .any e then s ||| 2 ^ e.on ||| acc.getD e.on 0 else s) 0)).getD j 0 = acc.getD j 0 := by
          simp only [Array.getD_eq_getD_getElem?]
          rw [Array.getElem?_push_lt hlt, Array.getElem?_eq_getElem hlt]
        rw [e] at hj
        exact h j i hj hLj
      · by_cases heq : j = acc.size
        · subst heq
          have e : (acc.push (o.after.foldl (fun s e => if Region.binds .any e then s ||| 2 ^ e.on ||| acc.getD e.on 0 else s) 0)).getD acc.size 0 = o.after.foldl (fun s e => if Region.binds .any e then s ||| 2 ^ e.on ||| acc.getD e.on 0 else s) 0 := by
            simp [Array.getD_eq_getD_getElem?]
          rw [e, ← Array.foldl_toList] at hj
          rcases one_bit (fun k => acc.getD k 0) _ _ _ hj with h1 | ⟨e', he', hb, h2⟩
          · simp at h1
          · have hLe := hL _ o ho hLj e' (Array.mem_toList_iff.1 he') hb
            rcases h2 with rfl | h2
            · exact hLe
            · exact h _ _ h2 hLe
        · have e : (acc.push (o.after.foldl (fun s e => if Region.binds .any e then s ||| 2 ^ e.on ||| acc.getD e.on 0 else s) 0)).getD j 0 = 0 := by
            simp only [Array.getD_eq_getD_getElem?]
            rw [Array.getElem?_eq_none (by simp; omega)]
            rfl
          rw [e] at hj
          simp at hj
theorem before_down {ops : Array Oper} {L : Nat → Prop} (hL : Down ops L) {j i : Nat} (h : ((Region.before ops).toList.getD j 0).testBit i = true) (hj : L j) : L i := by
  have := before_aux hL ops.toList #[] (by simp) (by simp) j i
  refine this ?_ hj
  unfold Region.before at h
  rw [← Array.foldl_toList] at h
  simpa using h
theorem ordered_down {ops : Array Oper} {L : Nat → Prop} (hL : Down ops L) {i j : Nat} (h : ordered (Region.before ops).toList i j = true) : (j < i → L i → L j) ∧ (i < j → L j → L i) := by
  unfold ordered at h
  refine ⟨fun hlt hi => ?_, fun hlt hj => ?_⟩
  · rw [show Nat.max i j = i from Nat.max_eq_left (Nat.le_of_lt hlt), show Nat.min i j = j from Nat.min_eq_right (Nat.le_of_lt hlt)] at h
    exact before_down hL h hi
  · rw [show Nat.max i j = j from Nat.max_eq_right (Nat.le_of_lt hlt), show Nat.min i j = i from Nat.min_eq_left (Nat.le_of_lt hlt)] at h
    exact before_down hL h hj

theorem countP_le' {p q : Nat → Bool} (h : ∀ x, q x = true → p x = true) : ∀ l : List Nat, l.countP q ≤ l.countP p
  | [] => by simp
  | a :: l => by
    have ih := countP_le' h l
    simp only [List.countP_cons]
    have := h a
    cases hq : q a <;> cases hp : p a <;> simp_all <;> omega
theorem countP_lt' {p q : Nat → Bool} (h : ∀ x, q x = true → p x = true) {i : Nat} (hp : p i = true) (hq : q i = false) : ∀ l : List Nat, i ∈ l → l.countP q < l.countP p
  | [], hi => by simp at hi
  | a :: l, hi => by
    simp only [List.countP_cons]
    rcases List.mem_cons.1 hi with rfl | hi
    · have := countP_le' h l
      simp [hp, hq]
      omega
    · have ih := countP_lt' h hp hq l hi
      have := h a
      cases hq' : q a <;> cases hp' : p a <;> simp_all <;> omega

section
variable {P : Program} {ops : Array Oper} {Q : Exit → Act → World → Prop}
/-- an invariant over the operations that have been carried out -/
theorem wp_region_inv {id : Nat} {a0 : Act} {w0 : World} (hm : P.follows .mixedOrders = true) (hB : ∀ i o, ops[i]? = some o → ∀ e ∈ o.after, Region.binds .any e = true → e.on < i) (Inv : (Nat → Prop) → Act → World → Prop)
    (h0 : Inv (fun _ => False) a0 w0.drew)
    (hstep : ∀ L i o a w, ops[i]? = some o → ¬ L i → Down ops L → (∀ e ∈ o.after, Region.binds .any e = true → L e.on) → Inv L a w → wpOp P ops Q i (fun a' w' => Inv (fun k => L k ∨ k = i) a' w') a w)
    (hend : ∀ L a w, (∀ i, i < ops.size → L i) → Inv L a w → Q .normal a w) : (Code.region id ops true).wp P Q a0 w0 := by
  refine wp_region_any hm ?_
  have key : ∀ (fuel : Nat) (listed : Array Bool) (a : Act) (w : World), listed.size = ops.size → (List.range ops.size).countP (fun i => !listed.getD i false) ≤ fuel → Down ops (fun i => listed.getD i false = true) → Inv (fun i => listed.getD i false = true) a w → wpAny P .any ops Q fuel listed a w := by
    intro fuel
    induction fuel with
    | zero =>
      intro listed a w hs hc hd h
      have hall : ∀ i, i < ops.size → listed.getD i false = true := by
        intro i hi
        have h0 : (List.range ops.size).countP (fun i => !listed.getD i false) = 0 := by omega
        rw [List.countP_eq_zero] at h0
        simpa using h0 i (List.mem_range.2 hi)
      refine ⟨?_, hend _ a w hall h⟩
      rw [List.eq_nil_iff_forall_not_mem]
      intro j hj
      obtain ⟨hu, o, ho, _⟩ := mem_ready.1 hj
      have hjl := (Array.getElem?_eq_some_iff.1 ho).1
      have := hall j hjl
      rw [getD_both hu] at this
      cases this
    | succ fuel ih =>
      intro listed a w hs hc hd h
      refine ⟨fun hnil => hend _ a w ?_ h, fun i hi => ?_⟩
      · intro i
        induction i using Nat.strongRecOn with
        | _ i ihs =>
          intro hil
          cases hli : listed.getD i false with
          | true => rfl
          | false =>
            exfalso
            have ho : ops[i]? = some ops[i] := Array.getElem?_eq_getElem hil
            have hr : i ∈ Region.ready .any ops listed := mem_ready.2 ⟨getD_in (by omega) hli, ops[i], ho, fun e he hb => ihs e.on (hB i _ ho e he hb) (Nat.lt_trans (hB i _ ho e he hb) hil)⟩
            rw [hnil] at hr
            cases hr
      · obtain ⟨hu, o, ho, hall⟩ := mem_ready.1 hi
        have hil := (Array.getElem?_eq_some_iff.1 ho).1
        have hset : (fun k => (listed.setIfInBounds i true).getD k false = true) = (fun k => listed.getD k false = true ∨ k = i) := by
          funext k
          apply propext
          by_cases hki : i = k
          · subst hki
            simp [hs, hil]
          · rw [getD_set_ne false hki]
            constructor
            · exact .inl
            · rintro (h | h)
              · exact h
              · exact absurd h.symm hki
        have hni : ¬ (listed.getD i false = true) := by rw [getD_both hu]; simp
        refine wpOp_mono ?_ (hstep _ i o a w ho hni hd hall h)
        intro a' w' hinv
        refine ih _ _ _ (by simp [hs]) ?_ ?_ (by rw [hset]; exact hinv)
        · have := countP_lt' (p := fun k => !listed.getD k false) (q := fun k => !(listed.setIfInBounds i true).getD k false) (i := i) ?_ ?_ ?_ (List.range ops.size) (List.mem_range.2 hil)
          · omega
          · intro x hx'
            simp only [Bool.not_eq_true'] at hx' ⊢
            rw [Bool.eq_false_iff] at hx' ⊢
            intro hc
            apply hx'
            have := congrFun hset x
            rw [this]
            exact .inl hc
          · simp only [Bool.not_eq_true']; exact getD_both hu
          · simp only [Bool.not_eq_false']
            have := congrFun hset i
            rw [this]
            exact .inr rfl
        · rw [hset]
          intro k ok hk hLk e he hb
          rcases hLk with hLk | rfl
          · exact .inl (hd k ok hk hLk e he hb)
          · rw [ho] at hk
            injection hk with hk
            subst hk
            exact .inl (hall e he hb)
  refine key ops.size _ a0 _ (by simp) (Nat.le_trans (List.countP_le_length) (by simp)) ?_ ?_
  · intro i o ho hL
    simp [Array.getD] at hL
  · have : (fun i => (Array.replicate ops.size false).getD i false = true) = (fun _ => False) := by
      funext i
      apply propext
      simp [Array.getD]
    rw [this]
    exact h0
end
end Go.Proofs.YtabgobmeibjeeaaGreatDoor

namespace Go.Proofs.YtabgobmeibjeeaaGreatDoor
open Go.RowKit
set_option linter.unusedVariables false
set_option linter.unusedSimpArgs false

/-- calls that change nothing leave the state itself -/
def CallClean (call : CallF) : Prop := ∀ f ds S r S', call f ds S = some (r, S', false) → S' = S

theorem lop_clean {l : LOp} {ds : List D} {S S' : St} {r : D} (h : lop l ds S = some (r, S', false)) : S' = S := by
  unfold lop at h
  repeat' (first | (simp at h; done) | (split at h))
  all_goals first
    | (simp at h; done)
    | (simp only [Option.some.injEq, Prod.mk.injEq] at h; exact h.2.1.symm)
    | (simp only [Option.map_eq_some_iff, Prod.mk.injEq] at h; obtain ⟨_, _, h1, h2, h3⟩ := h; first | exact h2.symm | (cases h3; done))
    | skip
  all_goals
    first | unfold appendD at h | unfold appendRows at h | unfold ustrD at h | unfold strshD at h | unfold nextsD at h
    repeat' (first | (simp at h; done) | (split at h) | (unfold appendRows at h; skip))
    all_goals first
      | (simp at h; done)
      | (simp only [Option.some.injEq, Prod.mk.injEq] at h; exact h.2.1.symm)
theorem aop_clean {l : LOp} {ds : List D} {S S' : St} {r : D} (h : aop l ds S = some (r, S', false)) : S' = S := by
  unfold aop at h
  split at h
  · exact lop_clean h
  · simp only [Option.map_eq_some_iff, Prod.mk.injEq] at h
    obtain ⟨_, _, _, h2, _⟩ := h
    exact h2.symm
theorem exOp_clean {call : CallF} (hc : CallClean call) {l : LOp} {ds : List D} {S S' : St} {r : D} (h : exOp call l ds S = some (r, S', false)) : S' = S := by
  unfold exOp at h
  split at h
  · exact hc _ _ _ _ _ h
  · split at h
    · exact hc _ _ _ _ _ h
    · simp at h
  · exact aop_clean h
theorem exOp_quiet {call : CallF} {l : LOp} {ds : List D} {S S' : St} {r : D} {wr : Bool} (hl : l.loud = false) (h : exOp call l ds S = some (r, S', wr)) : S' = S ∧ wr = false ∧ ∀ S2, exOp call l ds S2 = some (r, S2, false) := by
  have ha : exOp call l ds = aop l ds := by cases l <;> first | rfl | (simp [LOp.loud] at hl; done)
  rw [ha] at h ⊢
  unfold aop at h
  simp only [hl, Bool.false_eq_true, if_false, Option.map_eq_some_iff, Prod.mk.injEq] at h
  obtain ⟨r', h1, rfl, rfl, rfl⟩ := h
  exact ⟨rfl, rfl, fun S2 => by simp [aop, hl, h1]⟩

/-- what an operation does to the heap -/
inductive Eff where
  | none
  | set (g : Nat) (o : AObj)
  | new (o : AObj)
def Eff.app : Eff → St → St
  | .none, S => S
  | .set g o, S => setAt S g o
  | .new o, S => newAt S o
def Eff.within (n : Nat) (W : List Nat) (c : Bool) : Eff → Prop
  | .none => True
  | .set g _ => g ∈ W
  | .new _ => c = true ∧ n ∈ W
/-- an operation that looks at some objects alone does the same on every heap that has these -/
def Framed (call : CallF) (l : LOp) (ds : List D) (S : St) (r : D) (S' : St) (wr : Bool) (fp : FP) : Prop :=
  ∃ R W eff, fp.reads = some R ∧ fp.writes = some W ∧ S' = Eff.app eff S ∧ Eff.within S.heap.length W fp.creates eff ∧
    ∀ T : St, (∀ g ∈ R, T.heap[g]? = S.heap[g]?) → (fp.creates = true → T.heap.length = S.heap.length) → exOp call l ds T = some (r, eff.app T, wr)

theorem rowsOf_congr {S T : St} {g v : Nat} (h : T.heap[g]? = S.heap[g]?) : rowsOf T g v = rowsOf S g v := by simp [rowsOf, h]
theorem snap_plain {m : Nat} {H : List AObj} {d : D} (h : plain1 d = true) : snap m H d = some d := by
  cases d <;> first | rfl | (simp [plain1] at h; done)
theorem snaps_plain {m : Nat} {H : List AObj} : ∀ {ds : List D}, ds.all plain1 = true → snaps m H ds = some ds
  | [], _ => rfl
  | d :: ds, h => by
    simp only [List.all_cons, Bool.and_eq_true] at h
    simp [snaps, snap_plain h.1, snaps_plain h.2]
theorem snapV_plain {m : Nat} {H : List AObj} {d : D} (h : plainV d = true) : snapV m H d = some d := by
  unfold plainV at h
  split at h
  · simp [snapV, snaps_plain h]
  · rename_i hn
    unfold snapV
    split
    · rename_i cs; exact absurd rfl (hn cs)
    · exact snap_plain h
theorem fpOf_loud (l : LOp) (ds : List D) (r : D) (wr : Bool) : (fpOf l ds r wr).loud = l.loud := by
  unfold fpOf
  repeat' split
  all_goals first
    | rfl
    | (cases wr <;> rfl)
    | (rename_i h; simp [h, fpAll]; cases wr <;> rfl)
    | (rename_i h; simp at h; simp [h, fpQuiet])

theorem framed_one {call : CallF} {l : LOp} {ds : List D} {S S' : St} {r : D} {wr : Bool} (h : exOp call l ds S = some (r, S', wr)) {f : St → Option D} (he : ∀ T : St, exOp call l ds T = (f T).map fun r => (r, T, false)) (R : List Nat) (hT : ∀ T : St, (∀ g ∈ R, T.heap[g]? = S.heap[g]?) → f T = f S) (hf : fpOf l ds r wr = fpRead R) : Framed call l ds S r S' wr (fpOf l ds r wr) := by
  rw [he S, Option.map_eq_some_iff] at h
  obtain ⟨r', h1, h2⟩ := h
  simp only [Prod.mk.injEq] at h2
  obtain ⟨rfl, rfl, rfl⟩ := h2
  rw [hf]
  exact ⟨R, [], .none, rfl, rfl, rfl, trivial, fun T hR _ => by rw [he T, hT T hR, h1]; rfl⟩

theorem fp_cases {call : CallF} {l : LOp} {ds : List D} {S S' : St} {r : D} {wr : Bool} (h : exOp call l ds S = some (r, S', wr)) : Framed call l ds S r S' wr (fpOf l ds r wr) ∨ fpOf l ds r wr = fpAll wr := by
  cases hl : l.loud with
  | false =>
    left
    obtain ⟨rfl, rfl, h2⟩ := exOp_quiet hl h
    have e : fpOf l ds r false = fpQuiet := by
      cases l <;> first | rfl | (simp [LOp.loud] at hl; done) | skip
      rename_i st _ _ _ _
      cases st
      · simp [LOp.loud] at hl
      · rfl
    rw [e]
    exact ⟨[], [], .none, rfl, rfl, rfl, trivial, fun T _ _ => h2 T⟩
  | true =>
    cases l with
    | load sz agg =>
      left
      match ds, h with
      | [a], h =>
        have he : ∀ T : St, exOp call (.load sz agg) [a] T = (loadD sz agg T a).map fun r => (r, T, false) := fun T => rfl
        cases a with
        | ptr g v i o =>
          refine framed_one h he [g] (fun T hT => ?_) rfl
          simp only [loadD, rowsOf_congr (hT g (by simp))]
        | _ => refine framed_one h he [] (fun T hT => ?_) rfl; rfl
      | [], h => simp [exOp, aop, LOp.loud, lop] at h
      | _ :: _ :: _, h => simp [exOp, aop, LOp.loud, lop] at h
    | iaddr sz =>
      left
      match ds, h with
      | [a, i], h =>
        have he : ∀ T : St, exOp call (.iaddr sz) [a, i] T = (iaddrD T sz a i).map fun r => (r, T, false) := fun T => rfl
        cases a with
        | msl g v lo n c =>
          refine framed_one h he [g] (fun T hT => ?_) rfl
          cases i <;> simp only [iaddrD, rowsOf_congr (hT g (by simp))]
        | _ => refine framed_one h he [] (fun T hT => ?_) rfl; cases i <;> rfl
      | [], h => simp [exOp, aop, LOp.loud, lop] at h
      | [_], h => simp [exOp, aop, LOp.loud, lop] at h
      | _ :: _ :: _ :: _, h => simp [exOp, aop, LOp.loud, lop] at h
    | mapget kf z ok =>
      left
      match ds, h with
      | [a, i], h =>
        have he : ∀ T : St, exOp call (.mapget kf z ok) [a, i] T = (mapgetD T kf z ok a i).map fun r => (r, T, false) := fun T => rfl
        cases a with
        | mref g v =>
          refine framed_one h he [g] (fun T hT => ?_) rfl
          simp only [mapgetD, mapRows, rowsOf_congr (hT g (by simp))]
        | _ => refine framed_one h he [] (fun T hT => ?_) rfl; rfl
      | [], h => simp [exOp, aop, LOp.loud, lop] at h
      | [_], h => simp [exOp, aop, LOp.loud, lop] at h
      | _ :: _ :: _ :: _, h => simp [exOp, aop, LOp.loud, lop] at h
    | slice st sz lo hi mx =>
      cases st with
      | true => simp [LOp.loud] at hl
      | false =>
        left
        match ds, h with
        | a :: xs, h =>
          have he : ∀ T : St, exOp call (.slice false sz lo hi mx) (a :: xs) T = (match sliceArgs lo hi mx xs with | some (p, q, m) => sliceD T sz a p q m | none => none).map fun r => (r, T, false) := by
            intro T
            show lop (.slice false sz lo hi mx) (a :: xs) T = _
            simp only [lop]
            split <;> (rename_i hq; rw [hq]; try rfl)
          cases a with
          | msl g v o n c =>
            refine framed_one h he [g] (fun T hT => ?_) rfl
            simp only [sliceD, boundsAt, rowsOf_congr (hT g (by simp))]
          | _ => refine framed_one h he [] (fun T hT => ?_) rfl; rfl
        | [], h => simp [exOp, aop, LOp.loud, lop] at h
    | strb =>
      left
      match ds, h with
      | [a], h =>
        cases a with
        | str s => exact framed_one h (f := fun T => some (.sl 1 (byteRows s) none)) (fun T => rfl) [] (fun T hT => rfl) rfl
        | _ => simp [exOp, aop, LOp.loud, lop] at h
      | [], h => simp [exOp, aop, LOp.loud, lop] at h
      | _ :: _ :: _, h => simp [exOp, aop, LOp.loud, lop] at h
    | box e sz =>
      left
      match ds, h with
      | [x], h =>
        simp only [exOp, aop, LOp.loud, if_true, lop] at h
        split at h
        · rename_i hx
          simp only [Option.some.injEq, Prod.mk.injEq] at h
          obtain ⟨rfl, rfl, rfl⟩ := h
          exact ⟨[], [S.heap.length], .new ⟨e, sz, [x.cells], 0, 0, false⟩, rfl, rfl, rfl, ⟨rfl, by simp⟩, fun T _ hT => by simp only [exOp, aop, LOp.loud, if_true, lop, if_pos hx, hT rfl]; rfl⟩
        · simp at h
      | [], h => simp [exOp, aop, LOp.loud, lop] at h
      | _ :: _ :: _, h => simp [exOp, aop, LOp.loud, lop] at h
    | mkslice e sz bytes z kind =>
      left
      rcases ds with _ | ⟨a, _ | ⟨b, _ | ⟨c, ds⟩⟩⟩
      · simp [exOp, aop, LOp.loud, lop] at h
      · simp [exOp, aop, LOp.loud, lop] at h
      · cases a <;> first | (simp [exOp, aop, LOp.loud, lop] at h; done) | skip
        cases b <;> first | (simp [exOp, aop, LOp.loud, lop] at h; done) | skip
        rename_i k1 l k2 c
        simp only [exOp, aop, LOp.loud, if_true, lop] at h
        split at h
        · rename_i hx
          simp only [Option.some.injEq, Prod.mk.injEq] at h
          obtain ⟨rfl, rfl, rfl⟩ := h
          exact ⟨[], [S.heap.length], .new ⟨e, sz, List.replicate l.toNat z, 0, kind, decide (l ≠ c)⟩, rfl, rfl, rfl, ⟨rfl, by simp⟩, fun T _ hT => by simp only [exOp, aop, LOp.loud, if_true, lop, if_pos hx, hT rfl]; rfl⟩
        · simp at h
      · simp [exOp, aop, LOp.loud, lop] at h
    | store sz =>
      match ds, h with
      | [a, x], h =>
        cases a with
        | ptr g v i o =>
          by_cases hp : plainV x = true
          · left
            have hf : fpOf (.store sz) [.ptr g v i o, x] r wr = ⟨true, some [g], some [g], false, none⟩ := by simp [fpOf, hp]
            have hs : ∀ ob : AObj, ∀ T : St, (if ob.kind = 0 then some x else snapV T.heap.length T.heap x) = some x := fun ob T => by rw [snapV_plain hp]; simp
            simp only [exOp, aop, LOp.loud, if_true, lop, Option.map_eq_some_iff, Prod.mk.injEq] at h
            obtain ⟨S1, h1, rfl, rfl, rfl⟩ := h
            simp only [storeD, hs] at h1
            split at h1
            · rename_i ob hob
              split at h1
              · rename_i row hrow
                split at h1
                · rename_i hc
                  simp only [Option.some.injEq] at h1
                  subst h1
                  rw [hf]
                  refine ⟨[g], [g], .set g { ob with rows := ob.rows.set i (overlay row o x.cells) }, rfl, rfl, rfl, by simp [Eff.within], fun T hT _ => ?_⟩
                  have hob' : rowsOf T g v = some ob := (rowsOf_congr (hT g (by simp))).trans hob
                  simp only [exOp, aop, LOp.loud, if_true, lop, storeD, hs, hob', hrow, if_pos hc]
                  rfl
                · simp at h1
              · simp at h1
            · simp at h1
          · right; simp [fpOf, hp]
        | _ => right; rfl
      | [], h => simp [exOp, aop, LOp.loud, lop] at h
      | [_], h => simp [exOp, aop, LOp.loud, lop] at h
      | _ :: _ :: _ :: _, h => simp [exOp, aop, LOp.loud, lop] at h
    | _ => right; simp_all [fpOf, LOp.loud]

theorem app_get {e : Eff} {S : St} {W : List Nat} {c : Bool} (h : e.within S.heap.length W c) {g : Nat} (hg : g ∉ W) : (e.app S).heap[g]? = S.heap[g]? := by
  cases e with
  | none => rfl
  | set g' o =>
    have hne : g' ≠ g := fun e => hg (e ▸ h)
    simp [Eff.app, setAt, List.getElem?_set_ne hne]
  | new o =>
    have hne : g ≠ S.heap.length := fun e => hg (e ▸ h.2)
    simp only [Eff.app, newAt]
    rcases Nat.lt_or_ge g S.heap.length with h1 | h1
    · rw [List.getElem?_append_left h1]
    · rw [List.getElem?_append_right h1, List.getElem?_eq_none h1]
      simp only [List.getElem?_eq_none_iff, List.length_singleton]
      omega
theorem app_len {e : Eff} {S : St} {W : List Nat} {c : Bool} (h : e.within S.heap.length W c) (hc : c = false) : (e.app S).heap.length = S.heap.length := by
  cases e with
  | none => rfl
  | set g' o => simp [Eff.app, setAt]
  | new o => rw [hc] at h; cases h.1
theorem app_comm {e f : Eff} {S : St} {W V : List Nat} {c d : Bool} (he : e.within S.heap.length W c) (hf : f.within S.heap.length V d) (hd : ∀ g ∈ W, g ∉ V) (hcd : ¬ (c = true ∧ d = true)) : e.app (f.app S) = f.app (e.app S) := by
  cases e with
  | none => rfl
  | set g o =>
    cases f with
    | none => rfl
    | set g' o' =>
      have hne : g ≠ g' := fun e => hd g he (e ▸ hf)
      simp only [Eff.app, setAt, St.mk.injEq]
      exact ⟨List.set_comm _ _ (fun e => hne e.symm), by omega⟩
    | new o' =>
      have hne : g ≠ S.heap.length := fun e => hd g he (e ▸ hf.2)
      simp only [Eff.app, setAt, newAt, St.mk.injEq, and_true]
      rw [List.set_append]
      split
      · rfl
      · rename_i h1
        rw [List.set_eq_of_length_le (l := S.heap) (by omega), List.set_eq_of_length_le (by simp; omega)]
  | new o =>
    cases f with
    | none => rfl
    | set g' o' =>
      have hne : g' ≠ S.heap.length := fun e => hd _ he.2 (e ▸ hf)
      simp only [Eff.app, setAt, newAt, St.mk.injEq, and_true]
      rw [List.set_append]
      split
      · rfl
      · rename_i h1
        rw [List.set_eq_of_length_le (l := S.heap) (by omega), List.set_eq_of_length_le (by simp; omega)]
    | new o' => exact absurd ⟨he.1, hf.1⟩ hcd
theorem dj_some {l m : List Nat} (h : dj (some l) (some m) = true) : ∀ g ∈ l, g ∉ m := by
  intro g hg hm
  cases l with
  | nil => cases hg
  | cons a l =>
    have := List.all_eq_true.1 h g hg
    simp [hm] at this
theorem dj_none {l : List Nat} (h : dj (some l) none = true) : l = [] := by
  cases l with
  | nil => rfl
  | cons a l => simp [dj] at h

/-- two operations change places -/
theorem swap {call : CallF} (hc : CallClean call) {la lb : LOp} {da db : List D} {ra rb : D} {wa wb : Bool} {S S1 S2 : St} (h1 : exOp call la da S = some (ra, S1, wa)) (h2 : exOp call lb db S1 = some (rb, S2, wb)) (hi : indep (fpOf la da ra wa) (fpOf lb db rb wb) = true) :
    ∃ S3, exOp call lb db S = some (rb, S3, wb) ∧ exOp call la da S3 = some (ra, S2, wa) ∧ ((fpOf la da ra wa).writes = none → S2 = S1) ∧ ((fpOf lb db rb wb).writes = none → S3 = S2) := by
  cases hla : la.loud with
  | false =>
    obtain ⟨rfl, rfl, h3⟩ := exOp_quiet hla h1
    refine ⟨S2, h2, h3 S2, fun hw => ?_, fun _ => rfl⟩
    rcases fp_cases h1 with ⟨_, _, _, _, hw', _⟩ | hf
    · rw [hw] at hw'; cases hw'
    · rw [hf] at hw; cases hw
  | true =>
    cases hlb : lb.loud with
    | false =>
      obtain ⟨rfl, rfl, h3⟩ := exOp_quiet hlb h2
      refine ⟨S, h3 S, h1, fun _ => rfl, fun hw => ?_⟩
      rcases fp_cases h2 with ⟨_, _, _, _, hw', _⟩ | hf
      · rw [hw] at hw'; cases hw'
      · rw [hf] at hw; cases hw
    | true =>
      simp only [indep, fpOf_loud, hla, hlb, Bool.not_true, Bool.false_or, Bool.and_eq_true, Bool.not_eq_true'] at hi
      obtain ⟨⟨⟨⟨⟨d1, d2⟩, d3⟩, d4⟩, d5⟩, d6⟩ := hi
      rcases fp_cases h1 with ⟨Ra, Wa, ea, hra, hwa, rfl, hia, hTa⟩ | hfa
      · rcases fp_cases h2 with ⟨Rb, Wb, eb, hrb, hwb, rfl, hib, hTb⟩ | hfb
        · rw [hra, hwb] at d3
          rw [hwa, hrb] at d1
          rw [hwa, hwb] at d2
          have d1 := dj_some d1
          have d2 := dj_some d2
          have d3 := dj_some d3
          have hlen : ∀ (hcb : (fpOf lb db rb wb).creates = true), (ea.app S).heap.length = S.heap.length := fun hcb => app_len hia (by rw [hcb] at d4; simpa using d4)
          have hib' : eb.within S.heap.length Wb (fpOf lb db rb wb).creates := by
            cases eb with
            | none => trivial
            | set g o => exact hib
            | new o => exact ⟨hib.1, by rw [← hlen hib.1]; exact hib.2⟩
          have hb : exOp call lb db S = some (rb, eb.app S, wb) := hTb S (fun g hg => (app_get hia fun hgw => d1 g hgw hg).symm) (fun hcb => (hlen hcb).symm)
          have ha : exOp call la da (eb.app S) = some (ra, ea.app (eb.app S), wa) := hTa (eb.app S) (fun g hg => app_get hib' fun hgw => d3 g hgw hg) (fun hca => app_len hib' (by rw [hca] at d4; simpa using d4))
          rw [app_comm hia hib' d2 (fun hcd => by rw [hcd.1, hcd.2] at d4; cases d4)] at ha
          exact ⟨eb.app S, hb, ha, fun hw => (by rw [hw] at hwa; cases hwa), fun hw => (by rw [hw] at hwb; cases hwb)⟩
        · cases wb with
          | true => rw [hfb] at d3; simp [fpAll, dj] at d3
          | false =>
            have := exOp_clean hc h2
            subst this
            rw [hfb, hwa] at d1
            have hW := dj_none (by simpa [fpAll] using d1)
            subst hW
            rw [hfb] at d5
            have hca : (fpOf la da ra wa).creates = false := by simpa [fpAll] using d5
            have he : ea.app S = S := by
              cases ea with
              | none => rfl
              | set g o => cases hia
              | new o => cases hia.2
            rw [he] at h1 h2 ⊢
            exact ⟨S, h2, h1, fun _ => rfl, fun _ => rfl⟩
      · cases wa with
        | true => rw [hfa] at d1; simp [fpAll, dj] at d1
        | false =>
          have := exOp_clean hc h1
          subst this
          rcases fp_cases h2 with ⟨Rb, Wb, eb, hrb, hwb, rfl, hib, hTb⟩ | hfb
          · rw [hfa, hwb] at d3
            have hW := dj_none (by simpa [fpAll] using d3)
            subst hW
            have he : eb.app S1 = S1 := by
              cases eb with
              | none => rfl
              | set g o => cases hib
              | new o => cases hib.2
            rw [he] at h2 ⊢
            exact ⟨S1, h2, h1, fun _ => rfl, fun _ => rfl⟩
          · cases wb with
            | true => rw [hfb] at d3; simp [fpAll, dj] at d3
            | false =>
              have := exOp_clean hc h2
              subst this
              exact ⟨S2, h2, h1, fun _ => rfl, fun _ => rfl⟩
end Go.Proofs.YtabgobmeibjeeaaGreatDoor

namespace Go.Proofs.YtabgobmeibjeeaaGreatDoor
open Go.RowKit
set_option linter.unusedVariables false
set_option linter.unusedSimpArgs false

/-- the first i of them, the newest first -/
def hist {α : Type} (V : Nat → α) (i : Nat) : List α := ((List.range i).map V).reverse
theorem hist_succ {α : Type} (V : Nat → α) (i : Nat) : hist V (i + 1) = V i :: hist V i := by simp [hist, List.range_succ]
theorem hist_congr {α : Type} {V W : Nat → α} {i : Nat} (h : ∀ k, k < i → V k = W k) : hist V i = hist W i := by
  unfold hist
  congr 1
  exact List.map_congr_left fun k hk => h k (List.mem_range.1 hk)
theorem hist_len {α : Type} (V : Nat → α) (i : Nat) : (hist V i).length = i := by simp [hist]
theorem hist_get {α : Type} (V : Nat → α) : ∀ (i d : Nat), d < i → (hist V i)[d]? = some (V (i - 1 - d))
  | 0, d, h => by omega
  | i + 1, 0, h => by rw [hist_succ]; simp
  | i + 1, d + 1, h => by
    rw [hist_succ, List.getElem?_cons_succ, hist_get V i d (by omega)]
    congr 2
    omega
theorem stp_drew (w : World) (ρ : RMap) (S : St) : Stp w ρ S w.drew ρ S :=
  ⟨rfl, rfl, rfl, rfl, Nat.le_refl _, Nat.le_refl _, fun b _ h => ⟨rfl, h⟩, fun b q h => ⟨rfl, h⟩, fun _ _ _ _ _ _ => rfl, fun g o h => ⟨o, h, ⟨Nat.le_refl _, rfl⟩, fun _ => rfl, fun _ => ⟨rfl, rfl, rfl, Nat.le_refl _, fun b cur _ h => ⟨cur, h, rfl⟩⟩⟩⟩
/-- the slots of the first i operations -/
def dstTo (ops : Array Oper) (i : Nat) : List (Option Tmp) := ((ops.toList.take i).map (·.dst)).reverse
theorem dstTo_succ {ops : Array Oper} {i : Nat} {o : Oper} (h : ops[i]? = some o) : dstTo ops (i + 1) = o.dst :: dstTo ops i := by
  have hl : ops.toList[i]? = some o := by simpa using h
  have hlt := lt_of_some hl
  unfold dstTo
  rw [List.take_succ_eq_append_getElem hlt, List.map_append, List.reverse_append]
  have : ops.toList[i] = o := by rw [List.getElem?_eq_getElem hlt] at hl; injection hl
  simp [this]
/-- one writer a slot: what the order of the text says of a slot -/
theorem sig_to {ops : Array Oper} {slots : List Nat} {V : Nat → D} {env : List D} {t : Nat} (hu : ∀ (k k' : Nat) (o o' : Oper), ops[k]? = some o → ops[k']? = some o' → o.dst = some t → o'.dst = some t → k = k') :
    ∀ i, i ≤ ops.size → ((∃ k o, k < i ∧ ops[k]? = some o ∧ o.dst = some t ∧ sig slots (dstTo ops i) (hist V i) env t = V k) ∨ ((∀ k o, k < i → ops[k]? = some o → o.dst ≠ some t) ∧ sig slots (dstTo ops i) (hist V i) env t = sig slots [] [] env t))
  | 0, _ => .inr ⟨fun k o hk => by omega, by simp [dstTo, hist]⟩
  | i + 1, hi => by
    have ho : ops[i]? = some ops[i] := Array.getElem?_eq_getElem (by omega)
    rw [dstTo_succ ho, hist_succ, sig_cons]
    by_cases e : ops[i].dst = some t
    · exact .inl ⟨i, ops[i], by omega, ho, e, by simp [e]⟩
    · rw [if_neg e]
      rcases sig_to hu i (by omega) with ⟨k, o, hk, hok, hd, hs⟩ | ⟨hn, hs⟩
      · exact .inl ⟨k, o, by omega, hok, hd, hs⟩
      · refine .inr ⟨fun k o hk hok hd => ?_, hs⟩
        by_cases hki : k = i
        · subst hki
          rw [ho] at hok
          injection hok with hok
          subst hok
          exact e hd
        · exact hn k o (by omega) hok hd


/-! the run of the abstract machine, operation by operation -/
inductive TStep (call : CallF) (n : Nat) (news : List (TypeId × List D)) (tl env : List D) (V : Nat → D) (ST : Nat → St) (W : Nat → Bool) (F : Nat → FP) (i : Nat) (lo : LOper) : Prop
  | skip (hg : onG (hist V i ++ tl) lo.guard = some false) (h1 : V i = .skip) (h2 : ST (i + 1) = ST i) (h3 : F i = fpQuiet)
  | run (hg : onG (hist V i ++ tl) lo.guard = some true) (h : exOp call lo.op (lo.args.map (opd (hist V i ++ tl) env)) (ST i) = some (V i, ST (i + 1), W i)) (hF : F i = fpHere n lo (lo.args.map (opd (hist V i ++ tl) env)) (V i) (W i)) (hs : okHere n news lo (hist F i) (F i) (ST (i + 1)) = true)

theorem trace_ex {call : CallF} {n : Nat} {news : List (TypeId × List D)} {tl env : List D} : ∀ (los : List LOper) (k : Nat) (V0 : Nat → D) (F0 : Nat → FP) (S : St) (valsF : List D) (SF : St), exDrw call n news los (hist F0 k) (hist V0 k ++ tl) env S = some (valsF, SF) →
    ∃ (V : Nat → D) (ST : Nat → St) (W : Nat → Bool) (F : Nat → FP), (∀ j, j < k → V j = V0 j) ∧ (∀ j, j < k → F j = F0 j) ∧ ST k = S ∧ ST (k + los.length) = SF ∧ valsF = hist V (k + los.length) ++ tl ∧ ∀ i lo, los[i]? = some lo → TStep call n news tl env V ST W F (k + i) lo
  | [], k, V0, F0, S, valsF, SF, h => by
    simp only [exDrw, Option.some.injEq, Prod.mk.injEq] at h
    obtain ⟨rfl, rfl⟩ := h
    exact ⟨V0, fun _ => S, fun _ => false, F0, fun _ _ => rfl, fun _ _ => rfl, rfl, rfl, rfl, fun i lo hi => by simp at hi⟩
  | lo :: los, k, V0, F0, S, valsF, SF, h => by
    have fin : ∀ (r : D) (S1 : St) (wr : Bool) (fp : FP), exDrw call n news los (fp :: hist F0 k) (r :: (hist V0 k ++ tl)) env S1 = some (valsF, SF) →
        (∀ V ST W F, hist V k = hist V0 k → hist F k = hist F0 k → V k = r → F k = fp → ST k = S → ST (k + 1) = S1 → W k = wr → TStep call n news tl env V ST W F k lo) →
        ∃ (V : Nat → D) (ST : Nat → St) (W : Nat → Bool) (F : Nat → FP), (∀ j, j < k → V j = V0 j) ∧ (∀ j, j < k → F j = F0 j) ∧ ST k = S ∧ ST (k + (lo :: los).length) = SF ∧ valsF = hist V (k + (lo :: los).length) ++ tl ∧ ∀ i lo', (lo :: los)[i]? = some lo' → TStep call n news tl env V ST W F (k + i) lo' := by
      intro r S1 wr fp hx ht
      have e1 : r :: (hist V0 k ++ tl) = hist (fun i => if i = k then r else V0 i) (k + 1) ++ tl := by
        rw [hist_succ]
        simp only [if_true, List.cons_append, List.cons.injEq, true_and]
        rw [hist_congr (V := fun i => if i = k then r else V0 i) (W := V0) (fun j hj => by rw [if_neg (by omega)])]
      have e2 : fp :: hist F0 k = hist (fun i => if i = k then fp else F0 i) (k + 1) := by
        rw [hist_succ]
        simp only [if_true, List.cons.injEq, true_and]
        rw [hist_congr (V := fun i => if i = k then fp else F0 i) (W := F0) (fun j hj => by rw [if_neg (by omega)])]
      rw [e1, e2] at hx
      obtain ⟨V, ST, W, F, h1, h2, h3, h4, h5, h6⟩ := trace_ex los (k + 1) _ _ S1 valsF SF hx
      have hV : ∀ j, j < k → V j = V0 j := fun j hj => by rw [h1 j (by omega), if_neg (by omega)]
      have hF : ∀ j, j < k → F j = F0 j := fun j hj => by rw [h2 j (by omega), if_neg (by omega)]
      refine ⟨V, fun i => if i = k then S else ST i, fun i => if i = k then wr else W i, F, hV, hF, by simp, ?_, ?_, ?_⟩
      · simp only [List.length_cons]
        rw [if_neg (by omega), ← h4]
        congr 1
        omega
      · rw [h5, List.length_cons]
        congr 2
        omega
      · intro i lo' hi
        cases i with
        | zero =>
          simp at hi
          subst hi
          exact ht V _ _ F (hist_congr hV) (hist_congr hF) (by rw [h1 k (by omega)]; simp) (by rw [h2 k (by omega)]; simp) (by simp) (by simp [h3]) (by simp)
        | succ i =>
          simp at hi
          have := h6 i lo' hi
          rw [show k + 1 + i = k + (i + 1) by omega] at this
          cases this with
          | skip hg a1 a2 a3 => exact .skip hg a1 (by rw [if_neg (by omega), if_neg (by omega)]; exact a2) a3
          | run hg hh hF hs => exact .run hg (by rw [if_neg (by omega), if_neg (by omega), if_neg (by omega)]; exact hh) (by rw [if_neg (by omega)]; exact hF) (by rw [if_neg (by omega)]; exact hs)
    unfold exDrw at h
    split at h
    · simp at h
    · rename_i hg
      exact fin .skip S false fpQuiet h fun V ST W F a1 a2 a3 a4 a5 a6 a7 => .skip (by rw [a1]; exact hg) a3 (by rw [a6, a5]) a4
    · rename_i hg
      split at h
      · simp at h
      · rename_i r S' wr hop
        split at h
        · rename_i hok
          exact fin r S' wr _ h fun V ST W F a1 a2 a3 a4 a5 a6 a7 => .run (by rw [a1]; exact hg) (by rw [a1, a3, a5, a6, a7]; exact hop) (by rw [a1, a3, a4, a7]) (by rw [a2, a4, a6]; exact hok)
        · simp at h

/-- what the lowering says of one operation -/
theorem lowDrw_get {P : Program} {mt : Bool} {nt : Nat} {slots bs : List Nat} {k : Nat} : ∀ {os : List Oper} {prev : List (Option Tmp)} {r0 : Nat} {los : List LOper}, lowDrw P mt nt slots bs k os prev r0 = some los →
    los.length = os.length ∧ (∀ o ∈ os, dstIn nt o.dst = true) ∧ ∀ i o, os[i]? = some o →
      (∃ p, newOf P o = some p ∧ los[i]? = some ⟨.mv, [.loc (prev.length + i + (k - 1 - (r0 + (newsOf P (os.take i)).length)))], none, ordOf bs (prev.length + i), some (r0 + (newsOf P (os.take i)).length)⟩) ∨
      (newOf P o = none ∧ ∃ l xs args g, (∃ mt', lowOpF P mt' o = some (l, xs)) ∧ lowOpds slots (((os.take i).map (·.dst)).reverse ++ prev) xs = some args ∧ lowGuard (((os.take i).map (·.dst)).reverse ++ prev) o.guard = some g ∧ los[i]? = some ⟨l, args, g, ordOf bs (prev.length + i), none⟩)
  | [], prev, r0, los, h => by
    simp only [lowDrw, Option.some.injEq] at h
    subst h
    exact ⟨rfl, by simp, fun i o hi => by simp at hi⟩
  | o :: os, prev, r0, los, h => by
    unfold lowDrw at h
    split at h
    · rename_i hd
      split at h
      · rename_i p hp
        split at h
        · rename_i rest hr
          simp only [Option.some.injEq] at h
          subst h
          obtain ⟨h1, h2, h3⟩ := lowDrw_get hr
          refine ⟨by simp [h1], fun o' ho' => ?_, fun i o' hi => ?_⟩
          · rcases List.mem_cons.1 ho' with rfl | ho'
            · exact hd
            · exact h2 o' ho'
          · cases i with
            | zero =>
              simp at hi
              subst hi
              exact .inl ⟨p, hp, by simp [newsOf]⟩
            | succ i =>
              simp at hi
              have e1 : prev.length + (i + 1) = (o.dst :: prev).length + i := by simp; omega
              have e2 : r0 + (newsOf P ((o :: os).take (i + 1))).length = r0 + 1 + (newsOf P (os.take i)).length := by
                simp only [newsOf, List.take_succ_cons, List.filterMap_cons, hp, List.length_cons]; omega
              rw [e1, e2]
              rcases h3 i o' hi with ⟨p', q1, q2⟩ | ⟨q0, l', xs', args', g', q1, q2, q3, q4⟩
              · exact .inl ⟨p', q1, by simpa using q2⟩
              · exact .inr ⟨q0, l', xs', args', g', q1, by simpa using q2, by simpa using q3, by simpa using q4⟩
        · simp at h
      · rename_i hp
        split at h
        · simp at h
        · rename_i l xs hl
          split at h
          · rename_i args g rest ha hg hr
            simp only [Option.some.injEq] at h
            subst h
            obtain ⟨h1, h2, h3⟩ := lowDrw_get hr
            refine ⟨by simp [h1], fun o' ho' => ?_, fun i o' hi => ?_⟩
            · rcases List.mem_cons.1 ho' with rfl | ho'
              · exact hd
              · exact h2 o' ho'
            · cases i with
              | zero =>
                simp at hi
                subst hi
                exact .inr ⟨hp, l, xs, args, g, ⟨_, hl⟩, by simpa using ha, by simpa using hg, by simp⟩
              | succ i =>
                simp at hi
                have e1 : prev.length + (i + 1) = (o.dst :: prev).length + i := by simp; omega
                have e2 : r0 + (newsOf P ((o :: os).take (i + 1))).length = r0 + (newsOf P (os.take i)).length := by
                  simp only [newsOf, List.take_succ_cons, List.filterMap_cons, hp]
                rw [e1, e2]
                rcases h3 i o' hi with ⟨p', q1, q2⟩ | ⟨q0, l', xs', args', g', q1, q2, q3, q4⟩
                · exact .inl ⟨p', q1, by simpa using q2⟩
                · exact .inr ⟨q0, l', xs', args', g', q1, by simpa using q2, by simpa using q3, by simpa using q4⟩
          · simp at h
    · simp at h

/-! the operations that are left, in the order of the text -/
structure Ev where
  op : LOp
  ds : List D
  r : D
  wr : Bool
def Ev.fp (e : Ev) : FP := fpOf e.op e.ds e.r e.wr
/-- Z: what an operation that may change any object owes -/
def Runs (call : CallF) (E : Nat → Option Ev) (Z : Nat → List AObj → Prop) : List Nat → St → St → Prop
  | [], S, S' => S' = S
  | i :: l, S, S' => match E i with
    | none => Runs call E Z l S S'
    | some e => ∃ S1, exOp call e.op e.ds S = some (e.r, S1, e.wr) ∧ (e.fp.writes = none → Z i S1.heap) ∧ Runs call E Z l S1 S'
theorem Runs.drop {call : CallF} {E : Nat → Option Ev} {Z : Nat → List AObj → Prop} {i : Nat} (hi : E i = none) {post : List Nat} : ∀ {pre : List Nat} {S S' : St}, Runs call E Z (pre ++ i :: post) S S' → Runs call E Z (pre ++ post) S S'
  | [], S, S', h => by simpa [Runs, hi] using h
  | j :: pre, S, S', h => by
    simp only [List.cons_append, Runs] at h ⊢
    split at h
    · rename_i hj
      exact Runs.drop hi h
    · rename_i e hj
      obtain ⟨S1, h1, h2, h3⟩ := h
      exact ⟨S1, h1, h2, Runs.drop hi h3⟩
theorem Runs.front {call : CallF} (hc : CallClean call) {E : Nat → Option Ev} {Z : Nat → List AObj → Prop} {i : Nat} {e : Ev} (hi : E i = some e) {post : List Nat} : ∀ {pre : List Nat} {S S' : St}, Runs call E Z (pre ++ i :: post) S S' → (∀ j ∈ pre, ∀ e', E j = some e' → indep e'.fp e.fp = true) →
    ∃ S1, exOp call e.op e.ds S = some (e.r, S1, e.wr) ∧ (e.fp.writes = none → Z i S1.heap) ∧ Runs call E Z (pre ++ post) S1 S'
  | [], S, S', h, _ => by simpa [Runs, hi] using h
  | j :: pre, S, S', h, hd => by
    simp only [List.cons_append, Runs] at h ⊢
    split at h
    · rename_i hj
      exact Runs.front hc hi h fun k hk => hd k (List.mem_cons_of_mem _ hk)
    · rename_i e' hj
      obtain ⟨S1, h1, h2, h3⟩ := h
      obtain ⟨S2, k1, k2, k3⟩ := Runs.front hc hi h3 fun k hk => hd k (List.mem_cons_of_mem _ hk)
      obtain ⟨S3, q1, q2, q3, q4⟩ := swap hc h1 k1 (hd j (by simp) e' hj)
      exact ⟨S3, q1, fun hw => by rw [q4 hw]; exact k2 hw, S2, q2, fun hw => by rw [q3 hw]; exact h2 hw, k3⟩
end Go.Proofs.YtabgobmeibjeeaaGreatDoor

namespace Go.Proofs.YtabgobmeibjeeaaGreatDoor
open Go.RowKit
set_option linter.unusedVariables false
set_option linter.unusedSimpArgs false

theorem okFP_get : ∀ {bs : List Bool} {fs : List FP} {x : FP}, okFP bs fs x = true → ∀ (d : Nat) (f : FP), fs[d]? = some f → ∃ b, bs[d]? = some b ∧ okPair b f x = true
  | [], [], x, h, d, f, hd => by simp at hd
  | b :: bs, [], x, h, d, f, hd => by simp at hd
  | [], _ :: _, x, h, d, f, hd => by simp [okFP] at h
  | b :: bs, f' :: fs, x, h, 0, f, hd => by
    simp only [okFP, Bool.and_eq_true] at h
    simp at hd
    subst hd
    exact ⟨b, rfl, h.1⟩
  | b :: bs, f' :: fs, x, h, d + 1, f, hd => by
    simp only [okFP, Bool.and_eq_true] at h
    exact okFP_get h.2 d f (by simpa using hd)
theorem doneFP_get : ∀ {bs : List Bool} {fs : List FP} {g : Nat}, g ∈ doneFP bs fs → ∃ (d : Nat) (f : FP), bs[d]? = some true ∧ fs[d]? = some f ∧ f.hoist = some g
  | [], fs, g, h => by simp [doneFP] at h
  | b :: bs, [], g, h => by simp [doneFP] at h
  | b :: bs, f :: fs, g, h => by
    unfold doneFP at h
    split at h
    · rename_i g' hb hf
      rcases List.mem_cons.1 h with rfl | h
      · exact ⟨0, f, rfl, rfl, hf⟩
      · obtain ⟨d, f', h1, h2, h3⟩ := doneFP_get h
        exact ⟨d + 1, f', h1, h2, h3⟩
    · obtain ⟨d, f', h1, h2, h3⟩ := doneFP_get h
      exact ⟨d + 1, f', h1, h2, h3⟩
theorem sameD_eq {a b : D} (h : sameD a b = true) : a = b := by
  unfold sameD at h
  split at h
  all_goals first | rfl | (simp at h; done) | skip
  · simp only [Bool.and_eq_true, decide_eq_true_eq] at h; rw [h.1, h.2]
  · simp only [beq_iff_eq] at h; rw [h]
  · simp only [decide_eq_true_eq] at h; rw [h]
theorem sameDs_eq : ∀ {l m : List D}, sameDs l m = true → l = m
  | [], [], _ => rfl
  | a :: l, b :: m, h => by
    simp only [sameDs, Bool.and_eq_true] at h
    rw [sameD_eq h.1, sameDs_eq h.2]
  | [], _ :: _, h => by simp [sameDs] at h
  | _ :: _, [], h => by simp [sameDs] at h
theorem sameNew_eq {p : TypeId × List D} {x : Option AObj} (h : sameNew p x = true) : x = some (newsObj p) := by
  unfold sameNew at h
  split at h
  · simp only [Bool.and_eq_true, decide_eq_true_eq] at h
    obtain ⟨⟨rfl, rfl⟩, h3⟩ := h
    rw [sameDs_eq h3]
    rfl
  · simp at h
theorem sparesFP_get {n : Nat} {dn : List Nat} {H : List AObj} : ∀ {l : List (TypeId × List D)} {r0 : Nat}, sparesFP n dn H l r0 = true → ∀ r p, l[r]? = some p → n + (r0 + r) ∉ dn → H[n + (r0 + r)]? = some (newsObj p)
  | [], r0, h, r, p, hr, _ => by simp at hr
  | q :: l, r0, h, 0, p, hr, hn => by
    simp only [sparesFP, Bool.and_eq_true, Bool.or_eq_true] at h
    simp at hr
    subst hr
    rcases h.1 with h1 | h1
    · exact absurd (by simpa using h1) hn
    · exact sameNew_eq h1
  | q :: l, r0, h, r + 1, p, hr, hn => by
    simp only [sparesFP, Bool.and_eq_true] at h
    have e : r0 + (r + 1) = r0 + 1 + r := by omega
    rw [e] at hn ⊢
    exact sparesFP_get h.2 r p (by simpa using hr) hn
theorem fpOf_hoist (l : LOp) (ds : List D) (r : D) (wr : Bool) : (fpOf l ds r wr).hoist = none := by
  unfold fpOf
  repeat' split
  all_goals first | rfl | (cases wr <;> rfl)

/-- the rank of a new variable -/
def rk (P : Program) (ops : Array Oper) (j : Nat) : Nat := (newsOf P (ops.toList.take j)).length
theorem rk_get {P : Program} {ops : Array Oper} {j : Nat} {o : Oper} {p : TypeId × List D} (ho : ops[j]? = some o) (hp : newOf P o = some p) : (newsOf P ops.toList)[rk P ops j]? = some p := by
  have hl : ops.toList[j]? = some o := by simpa using ho
  have hlt := lt_of_some hl
  have e : ops.toList = ops.toList.take j ++ o :: ops.toList.drop (j + 1) := by
    conv => lhs; rw [← List.take_append_drop j ops.toList]
    rw [List.drop_eq_getElem_cons hlt]
    rw [List.getElem?_eq_getElem hlt] at hl
    injection hl with hl
    rw [hl]
  unfold rk
  conv => lhs; arg 1; rw [e]
  unfold newsOf
  rw [List.filterMap_append, List.getElem?_append_right (Nat.le_refl _), Nat.sub_self, List.filterMap_cons_some hp]
  rfl
theorem rk_lt {P : Program} {ops : Array Oper} {i j : Nat} {o : Oper} {p : TypeId × List D} (ho : ops[i]? = some o) (hp : newOf P o = some p) (hij : i < j) : rk P ops i < rk P ops j := by
  have hl : ops.toList[i]? = some o := by simpa using ho
  have hlt := lt_of_some hl
  have e : ops.toList.take j = ops.toList.take i ++ o :: (ops.toList.take j).drop (i + 1) := by
    conv => lhs; rw [← List.take_append_drop i (ops.toList.take j)]
    have hlt' : i < (ops.toList.take j).length := by rw [List.length_take]; omega
    rw [List.drop_eq_getElem_cons hlt', List.take_take, Nat.min_eq_left (Nat.le_of_lt hij)]
    rw [List.getElem?_eq_getElem hlt] at hl
    injection hl with hl
    rw [List.getElem_take, hl]
  unfold rk
  conv => rhs; rw [e]
  unfold newsOf
  rw [List.filterMap_append, List.length_append, List.filterMap_cons_some hp, List.length_cons]
  omega
theorem rk_inj {P : Program} {ops : Array Oper} {i j : Nat} {o o' : Oper} {p p' : TypeId × List D} (ho : ops[i]? = some o) (hp : newOf P o = some p) (ho' : ops[j]? = some o') (hp' : newOf P o' = some p') (h : rk P ops i = rk P ops j) : i = j := by
  rcases Nat.lt_trichotomy i j with h1 | h1 | h1
  · have := rk_lt ho hp h1; omega
  · exact h1
  · have := rk_lt ho' hp' h1; omega
theorem newOf_some {P : Program} {o : Oper} {p : TypeId × List D} (h : newOf P o = some p) : ∃ n, o.op = .alloc p.1 ∧ o.guard = none ∧ zeroT P p.1 = some p.2 ∧ sizeT P p.1 = some n ∧ p.2.length = n := by
  unfold newOf at h
  split at h
  · rename_i e ho hg
    split at h
    · rename_i z n hz hn
      split at h
      · rename_i hl
        simp only [Option.some.injEq] at h
        subst h
        exact ⟨n, ho, hg, hz, hn, hl⟩
      · simp at h
    · simp at h
  · simp at h
theorem dstTo_len {ops : Array Oper} {i : Nat} (h : i ≤ ops.size) : (dstTo ops i).length = i := by
  unfold dstTo
  rw [List.length_reverse, List.length_map, List.length_take, Array.length_toList]
  omega
theorem sig_tl {slots : List Nat} {prev : List (Option Tmp)} {vals tl env : List D} {t i : Nat} (hp : prev.length = i) (hv : vals.length = i) : sig slots prev (vals ++ tl) env t = sig slots prev vals env t := by
  unfold sig
  split
  · rename_i d hd
    have := lt_of_some (locOf_mem hd)
    simp only [List.getD_eq_getElem?_getD]
    rw [List.getElem?_append_left (by omega)]
  · rfl
theorem newsVals_get {n k r : Nat} (h : r < k) : (newsVals n k)[k - 1 - r]? = some (.ptr (n + r) 0 0 0) := by
  have := hist_get (fun r => D.ptr (n + r) 0 0 0) k (k - 1 - r) (by omega)
  rw [show k - 1 - (k - 1 - r) = r by omega] at this
  exact this

noncomputable def notB (p : Prop) : Bool := @decide (¬ p) (Classical.propDecidable _)
theorem notB_iff {p : Prop} : notB p = true ↔ ¬ p := by unfold notB; exact @decide_eq_true_iff _ (Classical.propDecidable _)
theorem notB_congr {p q : Prop} (h : p ↔ q) : notB p = notB q := by rw [propext h]
noncomputable def left (n : Nat) (L : Nat → Prop) : List Nat := (List.range n).filter (fun i => notB (L i))
theorem left_split {n i : Nat} {L : Nat → Prop} (hi : i < n) (hL : ¬ L i) : ∃ pre post, left n L = pre ++ i :: post ∧ left n (fun k => L k ∨ k = i) = pre ++ post ∧ ∀ j ∈ pre, j < i ∧ ¬ L j := by
  have e : List.range n = List.range i ++ i :: List.range' (i + 1) (n - i - 1) := by
    rw [List.range_eq_range', List.range_eq_range', ← List.range'_succ, show n - i - 1 + 1 = n - i by omega]
    have := List.range'_append (s := 0) (m := i) (n := n - i) (step := 1)
    simp only [Nat.one_mul, Nat.zero_add] at this
    rw [this]
    congr 1
    omega
  refine ⟨(List.range i).filter (fun k => notB (L k)), (List.range' (i + 1) (n - i - 1)).filter (fun k => notB (L k)), ?_, ?_, ?_⟩
  · unfold left
    rw [e, List.filter_append, List.filter_cons_of_pos (by rw [notB_iff]; exact hL)]
  · unfold left
    rw [e, List.filter_append, List.filter_cons_of_neg (by rw [notB_iff]; simp)]
    congr 1
    · apply List.filter_congr
      intro k hk
      have : k ≠ i := by have := List.mem_range.1 hk; omega
      exact notB_congr (by simp [this])
    · apply List.filter_congr
      intro k hk
      have : k ≠ i := by have := List.mem_range'_1.1 hk; omega
      exact notB_congr (by simp [this])
  · intro j hj
    rw [List.mem_filter] at hj
    exact ⟨List.mem_range.1 hj.1, notB_iff.1 hj.2⟩

section
variable {P : Program} {call : CallF} {mt : Bool} {nt : Nat} {slots : List Nat} {ops : Array Oper} {env : List D} {Q : Exit → Act → World → Prop}

/-- the state of the frame and of the heap when the operations of L have been carried out -/
structure DInv (P : Program) (call : CallF) (ops : Array Oper) (slots : List Nat) (nt : Nat) (env : List D) (V : Nat → D) (E : Nat → Option Ev) (Z : Nat → List AObj → Prop) (S SF : St) (w0 : World) (ρ0 : RMap) (df : List Deferred) (L : Nat → Prop) (a : Act) (w : World) (ρ : RMap) (S1 : St) : Prop where
  rel : Rel w ρ S1.heap
  stp : Stp w0 ρ0 S w ρ S1
  size : a.tmps.size = nt
  defers : a.defers = df
  slot : ∀ t, t < nt → (∃ k o, ops[k]? = some o ∧ L k ∧ o.dst = some t ∧ VR w ρ S1.heap (V k) (a.tmps.getD t undef)) ∨ ((∀ k o, ops[k]? = some o → L k → o.dst ≠ some t) ∧ VR w ρ S1.heap (sig slots [] [] env t) (a.tmps.getD t undef))
  runs : Runs call E Z (left ops.size L) S1 SF
  pend : ∀ j o p, ops[j]? = some o → ¬ L j → newOf P o = some p → S1.heap[S.heap.length + rk P ops j]? = some (newsObj p) ∧ ρ (S.heap.length + rk P ops j) = none

theorem draw_ok (hm : P.follows .mixedOrders = true) (hcall : CallOK P call) (hclean : CallClean call) {S S' : St} {vals' : List D} {los : List LOper} {w : World} {ρ : RMap} {a : Act} {id : Nat} (hs : slots.all (· < nt) = true) (hdraw : drawOk P mt ops (Region.before ops).toList = true)
    (hlow : lowDrw P mt nt slots (Region.before ops).toList (newsOf P ops.toList).length ops.toList [] 0 = some los) (hex : exDrw call S.heap.length (newsOf P ops.toList) los [] (newsVals S.heap.length (newsOf P ops.toList).length) env ⟨S.heap ++ (newsOf P ops.toList).map newsObj, S.low⟩ = some (vals', S')) (hr : Rel w ρ S.heap) (hf : FR w ρ S.heap nt (sig slots [] [] env) a)
    (hQ : ∀ a' w' ρ', Rel w' ρ' S'.heap → Stp w ρ S w' ρ' S' → FR w' ρ' S'.heap nt (sig slots (dstsOf ops.toList) vals' env) a' → a'.defers = a.defers → Q .normal a' w') : (Code.region id ops true).wp P Q a w := by
  obtain ⟨hll, hdin, hget⟩ := lowDrw_get hlow
  generalize htl : newsVals S.heap.length (newsOf P ops.toList).length = tl at hex
  obtain ⟨V, ST, W, F, _, _, t2, t3, t4, t5⟩ := trace_ex los 0 (fun _ => .undef) (fun _ => fpQuiet) _ vals' S' hex
  simp only [Nat.zero_add, List.length_nil] at t3 t4 t5 hget
  have hsz : los.length = ops.size := by rw [hll]; simp
  rw [hsz] at t3 t4
  -- the checks
  have hdr : ∀ i o, ops[i]? = some o → (∀ e ∈ o.after, Region.binds .any e = true → e.on < i) ∧ ∀ k o' d, ops[k]? = some o' → o'.dst = some d → k ≠ i → o.dst ≠ some d ∧
      (ordered (Region.before ops).toList i k = true ∨ ((∀ mt l xs, lowOpF P mt o = some (l, xs) → .tmp d ∉ xs) ∧ ∀ j b oj, o.guard = some (j, b) → ops[j]? = some oj → oj.dst ≠ some d)) := by
    intro i o ho
    have hil := (Array.getElem?_eq_some_iff.1 ho).1
    have h := List.all_eq_true.1 hdraw i (List.mem_range.2 hil)
    rw [ho] at h
    simp only [Bool.and_eq_true] at h
    obtain ⟨h1, h2⟩ := h
    refine ⟨fun e he hb => ?_, fun k o' d hk hd hne => ?_⟩
    · have := List.all_eq_true.1 h1 e (Array.mem_toList_iff.2 he)
      simpa [hb] using this
    · have hkl := (Array.getElem?_eq_some_iff.1 hk).1
      have h3 := List.all_eq_true.1 h2 k (List.mem_range.2 hkl)
      rw [hk] at h3
      simp only [hd, Bool.or_eq_true, beq_iff_eq, hne, false_or, Bool.and_eq_true, bne_iff_ne, ne_eq] at h3
      refine ⟨h3.1, ?_⟩
      rcases h3.2 with h4 | ⟨h4, h5⟩
      · exact .inl h4
      · refine .inr ⟨fun mt l xs hl hmem => ?_, fun j b oj hg hj he => ?_⟩
        · cases mt with
          | true =>
            rw [hl] at h4
            have := List.all_eq_true.1 h4.1 _ hmem
            simp at this
          | false =>
            have h4 := h4.2
            rw [hl] at h4
            have := List.all_eq_true.1 h4 _ hmem
            simp at this
        · rw [hg] at h5
          simp only [hj] at h5
          simp [he] at h5
  have hu : ∀ (t k k' : Nat) (o o' : Oper), ops[k]? = some o → ops[k']? = some o' → o.dst = some t → o'.dst = some t → k = k' := by
    intro t k k' o o' hk hk' hd hd'
    by_cases e : k' = k
    · exact e.symm
    · exact absurd hd ((hdr k o hk).2 k' o' t hk' hd' e).1
  have hT : ∀ i, i < ops.size → ∃ lo, los[i]? = some lo ∧ TStep call S.heap.length (newsOf P ops.toList) tl env V ST W F i lo := fun i hi => ⟨los[i]'(by omega), List.getElem?_eq_getElem (by omega), t5 i _ (List.getElem?_eq_getElem (by omega))⟩
  -- the operations as they were run
  let E : Nat → Option Ev := fun i => match los[i]? with
    | some lo => if onG (hist V i ++ tl) lo.guard = some true ∧ lo.hoist = none then some ⟨lo.op, lo.args.map (opd (hist V i ++ tl) env), V i, W i⟩ else none
    | none => none
  let Z : Nat → List AObj → Prop := fun i H => ∀ r p, (newsOf P ops.toList)[r]? = some p → S.heap.length + r ∉ doneFP (ordOf (Region.before ops).toList i) (hist F i) → H[S.heap.length + r]? = some (newsObj p)
  have hordo : ∀ i lo, los[i]? = some lo → lo.ord = ordOf (Region.before ops).toList i := by
    intro i lo hlo
    have hil : i < ops.size := by have := lt_of_some hlo; omega
    rcases hget i ops[i] (by simp [hil]) with ⟨p, _, q2⟩ | ⟨_, l, xs, args, g, _, _, _, q4⟩
    · rw [hlo] at q2; injection q2 with q2; rw [q2]
    · rw [hlo] at q4; injection q4 with q4; rw [q4]
  -- hoisted operations
  have hhoist : ∀ i o p, ops[i]? = some o → newOf P o = some p → (∃ lo, los[i]? = some lo ∧ lo.hoist = some (rk P ops i)) ∧ E i = none ∧ V i = .ptr (S.heap.length + rk P ops i) 0 0 0 ∧ (F i).hoist = some (S.heap.length + rk P ops i) ∧ okFP (ordOf (Region.before ops).toList i) (hist F i) (F i) = true := by
    intro i o p ho hp
    have hil := (Array.getElem?_eq_some_iff.1 ho).1
    rcases hget i o (by simpa using ho) with ⟨p', q1, q2⟩ | ⟨q0, _⟩
    · obtain ⟨lo, hlo, ht⟩ := hT i hil
      rw [hlo] at q2
      injection q2 with q2
      have hho : lo.hoist = some (rk P ops i) := by rw [q2]; rfl
      have hE : E i = none := by simp only [E, hlo, hho]; simp
      have hrl : rk P ops i < (newsOf P ops.toList).length := lt_of_some (rk_get ho hp)
      cases ht with
      | skip hg => rw [q2] at hg; simp [onG] at hg
      | run hg hh hF hok =>
        refine ⟨⟨lo, hlo, hho⟩, hE, ?_, ?_, ?_⟩
        · rw [q2] at hh
          simp only [exOp, aop, LOp.loud, pop, List.map_cons, List.map_nil, opd, Bool.false_eq_true, if_false, Option.map_some, Option.some.injEq, Prod.mk.injEq] at hh
          rw [← hh.1]
          have h1 := newsVals_get (n := S.heap.length) hrl
          rw [htl] at h1
          simp only [List.getD_eq_getElem?_getD]
          rw [List.getElem?_append_right (by rw [hist_len]; omega), hist_len, Nat.add_sub_cancel_left]
          show (tl[(newsOf P ops.toList).length - 1 - rk P ops i]?).getD _ = _
          rw [h1]
          rfl
        · rw [hF]; simp [fpHere, hho]
        · have h1 := hok
          simp only [okHere, Bool.and_eq_true] at h1
          rw [← hordo i lo hlo]
          exact h1.1
    · rw [hp] at q0; cases q0
  -- the others
  have hother : ∀ i lo e, los[i]? = some lo → E i = some e → e = ⟨lo.op, lo.args.map (opd (hist V i ++ tl) env), V i, W i⟩ ∧ F i = e.fp ∧ exOp call e.op e.ds (ST i) = some (e.r, ST (i + 1), e.wr) ∧ okFP (ordOf (Region.before ops).toList i) (hist F i) (F i) = true ∧ (e.fp.writes = none → Z i (ST (i + 1)).heap) := by
    intro i lo e hlo he
    simp only [E, hlo] at he
    split at he
    · rename_i hc
      simp only [Option.some.injEq] at he
      subst he
      have hil : i < ops.size := by have := lt_of_some hlo; omega
      obtain ⟨lo', hlo', ht⟩ := hT i hil
      rw [hlo] at hlo'
      injection hlo' with hlo'
      subst hlo'
      cases ht with
      | skip hg => rw [hc.1] at hg; cases hg
      | run hg hh hF hok =>
        simp only [okHere, Bool.and_eq_true, Bool.or_eq_true] at hok
        have hFe : F i = (⟨lo.op, lo.args.map (opd (hist V i ++ tl) env), V i, W i⟩ : Ev).fp := by rw [hF]; simp [fpHere, hc.2, Ev.fp]
        refine ⟨rfl, hFe, hh, by rw [← hordo i lo hlo]; exact hok.1, fun hw r p hr hn => ?_⟩
        rcases hok.2 with h1 | h1
        · rw [hFe, hw] at h1; cases h1
        · have := sparesFP_get h1 r p hr (by rw [hordo i lo hlo, Nat.zero_add]; exact hn)
          rwa [Nat.zero_add] at this
    · cases he
  have hruns0 : ∀ m k, k + m = ops.size → Runs call E Z (List.range' k m) (ST k) S' := by
    intro m
    induction m with
    | zero => intro k hk; rw [show k = ops.size by omega, t3]; rfl
    | succ m ih =>
      intro k hk
      obtain ⟨lo, hlo, ht⟩ := hT k (by omega)
      rw [List.range'_succ]
      have ihk := ih (k + 1) (by omega)
      simp only [Runs]
      cases hE : E k with
      | none =>
        have hst : ST (k + 1) = ST k := by
          cases ht with
          | skip hg h1 h2 h3 => exact h2
          | run hg hh hF hok =>
            have hho : lo.hoist ≠ none := by
              intro hn
              simp [E, hlo, hg, hn] at hE
            rcases hget k ops[k] (by simp) with ⟨p, _, q2⟩ | ⟨_, l, xs, args, g, _, _, _, q4⟩
            · rw [hlo] at q2
              injection q2 with q2
              rw [q2] at hh
              simp only [exOp, aop, LOp.loud, pop, List.map_cons, List.map_nil, opd, Bool.false_eq_true, if_false, Option.map_some, Option.some.injEq, Prod.mk.injEq] at hh
              exact hh.2.1.symm
            · rw [hlo] at q4
              injection q4 with q4
              rw [q4] at hho
              exact absurd rfl hho
        rw [hst] at ihk
        exact ihk
      | some e =>
        obtain ⟨_, _, h3, _, h5⟩ := hother k lo e hlo hE
        exact ⟨ST (k + 1), h3, h5, ihk⟩
  refine wp_region_inv hm (fun i o ho => (hdr i o ho).1) (fun L a' w' => ∃ ρ' S1, DInv P call ops slots nt env V E Z S S' w ρ a.defers L a' w' ρ' S1) ⟨ρ, ST 0, ?_⟩ ?_ ?_
  · rw [t2]
    have hst : Stp w ρ S w.drew ρ ⟨S.heap ++ (newsOf P ops.toList).map newsObj, S.low⟩ := (stp_news hr _).trans (stp_drew w ρ _)
    refine ⟨?_, hst, hf.1, rfl, fun t ht => .inr ⟨fun k o _ h => h.elim, (hf.2 t ht).mono hst⟩, ?_, fun j o p hj _ hp => ?_⟩
    · exact ⟨hr.inj, fun g b hb => by
        obtain ⟨o, ho, hk⟩ := hr.obj g b hb
        exact ⟨o, by rw [List.getElem?_append_left (lt_of_some ho)]; exact ho, hk.mono hst rfl⟩, hr.hids hst⟩
    · have h0 := hruns0 ops.size 0 (by omega)
      rw [t2] at h0
      have : left ops.size (fun _ => False) = List.range' 0 ops.size := by
        unfold left
        rw [List.filter_eq_self.2 (fun k _ => notB_iff.2 (fun h => h)), List.range_eq_range']
      rw [this]
      exact h0
    · have hg := rk_get hj hp
      refine ⟨?_, ?_⟩
      · show (S.heap ++ (newsOf P ops.toList).map newsObj)[S.heap.length + rk P ops j]? = _
        rw [List.getElem?_append_right (by omega), Nat.add_sub_cancel_left, List.getElem?_map, hg]
        rfl
      · cases hρ : ρ (S.heap.length + rk P ops j) with
        | none => rfl
        | some b => have := hr.in hρ; omega
  · -- one operation
    rintro L i o a1 w1 ho hni hdown hdep ⟨ρ1, S1, hI⟩
    have hil := (Array.getElem?_eq_some_iff.1 ho).1
    obtain ⟨lo, hlo, ht⟩ := hT i hil
    have hdst : dstIn nt o.dst = true := hdin o (by rw [Array.mem_toList_iff]; exact Array.mem_of_getElem? ho)
    have hprev : ∀ d ∈ dstTo ops i, dstIn nt d = true := by
      intro d hd
      unfold dstTo at hd
      rw [List.mem_reverse, List.mem_map] at hd
      obtain ⟨o', ho', rfl⟩ := hd
      exact hdin o' (List.mem_of_mem_take ho')
    obtain ⟨pre, post, hl1, hl2, hpre⟩ := left_split hil hni
    have hruns := hI.runs
    rw [hl1] at hruns
    -- what the operation sees
    have hdown' : Down ops (fun k => L k ∨ k = i) := by
      intro k ok hk hLk e he hb
      rcases hLk with hLk | rfl
      · exact .inl (hdown k ok hk hLk e he hb)
      · rw [ho] at hk
        injection hk with hk
        subst hk
        exact .inl (hdep e he hb)
    have hanc : ∀ k, k < i → ordered (Region.before ops).toList i k = true → L k := fun k hk h => ((ordered_down hdown' h).1 hk (.inr rfl)).resolve_right (by omega)
    have hdesc : ∀ k, i < k → ordered (Region.before ops).toList i k = true → ¬ L k := fun k hk h hLk => hni ((ordered_down hdown h).2 hk hLk)
    have hbit : ∀ k, k < i → ((Region.before ops).toList.getD i 0).testBit k = true → L k := fun k hk h => (before_down hdown' h (.inr rfl)).resolve_right (by omega)
    -- behind it
    have hput : ∀ (v : Value) (w2 : World) (ρ2 : RMap) (S2 : St), Rel w2 ρ2 S2.heap → Stp w ρ S w2 ρ2 S2 → Fwd w1 ρ1 S1.heap w2 ρ2 S2.heap → VR w2 ρ2 S2.heap (V i) v → Runs call E Z (pre ++ post) S2 S' →
        (∀ j o p, ops[j]? = some o → ¬ L j → j ≠ i → newOf P o = some p → S2.heap[S.heap.length + rk P ops j]? = some (newsObj p) ∧ ρ2 (S.heap.length + rk P ops j) = none) →
        ∃ ρ' S2, DInv P call ops slots nt env V E Z S S' w ρ a.defers (fun k => L k ∨ k = i) (a1.put o.dst v) w2 ρ' S2 := by
      intro v w2 ρ2 S2 hrel hst hfw hvr hrun hpend
      refine ⟨ρ2, S2, ⟨hrel, hst, ?_, ?_, fun t ht => ?_, by rw [hl2]; exact hrun, fun j oj p hj hLj hp => hpend j oj p hj (fun h => hLj (.inl h)) (fun h => hLj (.inr h)) hp⟩⟩
      · cases o.dst with
        | none => exact hI.size
        | some d => simpa [Act.put] using hI.size
      · cases o.dst with
        | none => exact hI.defers
        | some d => exact hI.defers
      · by_cases e : o.dst = some t
        · refine .inl ⟨i, o, ho, .inr rfl, e, ?_⟩
          have htl : t < a1.tmps.size := by rw [hI.size]; exact ht
          rw [e]
          simpa [Act.put, htl] using hvr
        · have hsame : (a1.put o.dst v).tmps.getD t undef = a1.tmps.getD t undef := by
            cases hd : o.dst with
            | none => rfl
            | some d =>
              have hne : d ≠ t := fun h => e (by rw [hd, h])
              simp only [Act.put, Array.getD_eq_getD_getElem?, Array.getElem?_setIfInBounds, if_neg hne]
          rw [hsame]
          rcases hI.slot t ht with ⟨k', o', hk', hLk', hd', hvr'⟩ | ⟨hno, hvr'⟩
          · exact .inl ⟨k', o', hk', .inl hLk', hd', hvr'.fwd hfw⟩
          · refine .inr ⟨fun k o' hk hLk => ?_, hvr'.fwd hfw⟩
            rcases hLk with hLk | rfl
            · exact hno k o' hk hLk
            · rw [ho] at hk
              injection hk with hk
              subst hk
              exact e
    rcases hget i o (by simpa using ho) with ⟨p, hp, k4⟩ | ⟨hnn, l, xs, args, g, k1, k2, k3, k4⟩
    · -- a new variable
      obtain ⟨⟨lo', hlo', _⟩, hE, hV, _, _⟩ := hhoist i o p ho hp
      obtain ⟨n, hop, hgd, hz, hn, hlen⟩ := newOf_some hp
      obtain ⟨hobj, hnone⟩ := hI.pend i o p ho hni hp
      obtain ⟨v, w2, ob, hrun, hadd, hrel, hvr⟩ := alloc_fill (P := P) (S := S1) (g := S.heap.length + rk P ops i) hI.rel hz hn hlen hobj hnone
      unfold wpOp
      rw [ho]
      have hw : Region.wanted o (yielded ops a1.tmps) = true := by simp [Region.wanted, hgd]
      simp only [hw, if_true]
      left
      have hx : (execOp a1.eval o).run P w1 = .ok (.value v) w2 := by
        have he : execOp a1.eval o = (do pure (.value (← Instr.alloc p.1 true (.tuple #[])))) := by simp [execOp, hop]
        rw [he, run_ok_bind hrun]
        rfl
      unfold Oper.wp
      rw [hx]
      refine hput v w2 _ S1 hrel (stp_fill hI.stp hI.rel hadd hnone (by omega)) (fwd_fill hI.rel hadd hnone) (by rw [hV]; exact hvr) (Runs.drop hE hruns) fun j oj p' hj hLj hne hp' => ?_
      obtain ⟨q1, q2⟩ := hI.pend j oj p' hj hLj hp'
      refine ⟨q1, ?_⟩
      simp only [upd]
      rw [if_neg (fun h => hne (rk_inj hj hp' ho hp (by omega)))]
      exact q2
    · rw [hlo] at k4
      injection k4 with k4
      subst k4
      simp only [List.append_nil] at k2 k3
      have hsee : ∀ t, t < nt → (∀ k o', ops[k]? = some o' → o'.dst = some t → k ≠ i → ordered (Region.before ops).toList i k = true) → VR w1 ρ1 S1.heap (sig slots (dstTo ops i) (hist V i ++ tl) env t) (a1.tmps.getD t undef) := by
        intro t ht hord
        rw [sig_tl (dstTo_len (Nat.le_of_lt hil)) (hist_len V i)]
        rcases sig_to (slots := slots) (V := V) (env := env) (hu t) i (Nat.le_of_lt hil) with ⟨k, ok, hk, hok, hd, hsg⟩ | ⟨hn, hsg⟩
        · rw [hsg]
          have hLk := hanc k hk (hord k ok hok hd (by omega))
          rcases hI.slot t ht with ⟨k', o', hk', hLk', hd', hvr⟩ | ⟨hno, _⟩
          · have := hu t k k' ok o' hok hk' hd hd'
            subst this
            exact hvr
          · exact absurd hd (hno k ok hok hLk)
        · rw [hsg]
          rcases hI.slot t ht with ⟨k', o', hk', hLk', hd', hvr⟩ | ⟨hno, hvr⟩
          · exfalso
            have hki : ¬ k' < i := fun h => hn k' o' h hk' hd'
            have hne : k' ≠ i := fun e => hni (e ▸ hLk')
            exact hdesc k' (by omega) (hord k' o' hk' hd' hne) hLk'
          · exact hvr
      have hops : VL w1 ρ1 S1.heap (args.map (opd (hist V i ++ tl) env)) (xs.map a1.eval) := by
        refine opds_ok hs hprev k2 fun t hmem ht => hsee t ht fun k o' hk hd hne => ?_
        rcases ((hdr i o ho).2 k o' t hk hd hne).2 with h | ⟨h, _⟩
        · exact h
        · obtain ⟨mt', k1⟩ := k1
          exact absurd hmem (h mt' l xs k1)
      have hguard : ∀ j b d b0, o.guard = some (j, b) → g = some (d, b0) → (∀ b', (hist V i ++ tl).getD d .undef = .bool b' → yielded ops a1.tmps j = some b') ∧ ((hist V i ++ tl).getD d .undef = .skip → yielded ops a1.tmps j = none) ∧ b0 = b := by
        intro j b d b0 hgd hg
        rw [hgd] at k3
        unfold lowGuard at k3
        simp only at k3
        split at k3
        · rename_i hj
          split at k3
          · rename_i t htt
            split at k3
            · rename_i hloc
              simp only [Option.some.injEq] at k3
              subst k3
              simp only [Option.some.injEq, Prod.mk.injEq] at hg
              obtain ⟨rfl, rfl⟩ := hg
              have hlen : ((ops.toList.take i).map (·.dst)).reverse.length = i := by
                rw [List.length_reverse, List.length_map, List.length_take, Array.length_toList]; omega
              rw [hlen] at hj htt hloc
              have hjl : j < ops.toList.length := by rw [Array.length_toList]; omega
              have hjd : (ops[j]?).bind (·.dst) = some t := by
                have h1 : ((ops.toList.take i).map (·.dst)).length = i := by rw [List.length_map, List.length_take, Array.length_toList]; omega
                rw [List.getD_eq_getElem?_getD, List.getElem?_reverse (by rw [h1]; omega), h1, show i - 1 - (i - 1 - j) = j by omega] at htt
                simp only [List.getElem?_map, List.getElem?_take] at htt
                rw [if_pos hj, List.getElem?_eq_getElem hjl] at htt
                have h2 : ops[j]? = some ops.toList[j] := by simp
                rw [h2]
                simpa using htt
              have htn : t < nt := by
                have := hprev _ (List.mem_of_getElem? (locOf_mem hloc))
                simpa [dstIn] using this
              have hvis := hsee t htn fun k o' hk hd hne => by
                obtain ⟨oj, hoj, hdj⟩ : ∃ oj, ops[j]? = some oj ∧ oj.dst = some t := by
                  cases hx : ops[j]? with
                  | none => simp [hx] at hjd
                  | some oj => exact ⟨oj, rfl, by simpa [hx] using hjd⟩
                rcases ((hdr i o ho).2 k o' t hk hd hne).2 with h | ⟨_, h⟩
                · exact h
                · exact absurd hdj (h j _ oj hgd hoj)
              refine ⟨fun b' hb' => ?_, fun hb' => ?_, rfl⟩
              · rw [hlen] at hb'
                exact guard_ok (b := b) hjd hloc hprev hvis hI.size hb'
              · rw [hlen] at hb'
                exact guard_skip hjd hloc hprev hvis hI.size hb'
            · simp at k3
          · simp at k3
        · simp at k3
      cases ht with
      | skip hg h1 h2 h3 =>
        have hE : E i = none := by simp only [E, hlo, hg]; simp
        have hw : Region.wanted o (yielded ops a1.tmps) = false := by
          cases hgd : o.guard with
          | none => rw [hgd] at k3; simp only [lowGuard, Option.some.injEq] at k3; subst k3; simp [onG] at hg
          | some jb =>
            obtain ⟨j, b2⟩ := jb
            cases hgg : g with
            | none => simp [hgg, onG] at hg
            | some db =>
              obtain ⟨d, b⟩ := db
              simp only [hgg, onG] at hg
              split at hg
              · rename_i b' hb'
                simp only [Option.some.injEq] at hg
                obtain ⟨hy, _, rfl⟩ := hguard j b2 d b hgd hgg
                have hy := hy b' hb'
                simp only [Region.wanted, hgd, hy]
                simpa using hg
              · rename_i hb'
                obtain ⟨_, hy, rfl⟩ := hguard j b2 d b hgd hgg
                have hy := hy hb'
                simp only [Region.wanted, hgd, hy]
                rfl
              · simp at hg
        unfold wpOp
        rw [ho]
        simp only [hw, Bool.false_eq_true, if_false]
        exact hput undef w1 ρ1 S1 hI.rel hI.stp (Stp.refl w1 ρ1 S1).fwd (by rw [h1]; exact .skip) (Runs.drop hE hruns) fun j oj p hj hLj _ hp => hI.pend j oj p hj hLj hp
      | run hg hh hF hok =>
        have hw : Region.wanted o (yielded ops a1.tmps) = true := by
          cases hgd : o.guard with
          | none => simp [Region.wanted, hgd]
          | some jb =>
            obtain ⟨j, b2⟩ := jb
            cases hgg : g with
            | none =>
              rw [hgd, hgg] at k3
              unfold lowGuard at k3
              simp only at k3
              split at k3
              · split at k3
                · split at k3 <;> simp at k3
                · simp at k3
              · simp at k3
            | some db =>
              obtain ⟨d, b⟩ := db
              simp only [hgg, onG] at hg
              split at hg
              · rename_i b' hb'
                simp only [Option.some.injEq] at hg
                obtain ⟨hy, _, rfl⟩ := hguard j b2 d b hgd hgg
                have hy := hy b' hb'
                simp only [Region.wanted, hgd, hy]
                simpa using hg
              · simp at hg
              · simp at hg
        have hE : E i = some ⟨l, args.map (opd (hist V i ++ tl) env), V i, W i⟩ := by simp only [E, hlo]; rw [if_pos ⟨hg, trivial⟩]
        obtain ⟨_, hFe, _, hokF, _⟩ := hother i _ _ hlo hE
        have hFh : (F i).hoist = none := by rw [hFe]; exact fpOf_hoist _ _ _ _
        have hpair : ∀ j, j < i → ∃ b, (b = true → L j) ∧ okPair b (F j) (F i) = true := by
          intro j hj
          obtain ⟨b, h1, h2⟩ := okFP_get hokF (i - 1 - j) (F j) (by rw [hist_get F i _ (by omega)]; congr 2; omega)
          refine ⟨b, fun hb => hbit j hj ?_, h2⟩
          have h3 := hist_get (fun k => ((Region.before ops).toList.getD i 0).testBit k) i (i - 1 - j) (by omega)
          have h4 : (ordOf (Region.before ops).toList i)[i - 1 - j]? = some (((Region.before ops).toList.getD i 0).testBit (i - 1 - (i - 1 - j))) := h3
          rw [h4, show i - 1 - (i - 1 - j) = j by omega] at h1
          injection h1 with h1
          rw [h1]; exact hb
        obtain ⟨S2, r1, r2, r3⟩ := Runs.front hclean hE hruns (fun j hj e' he' => by
          obtain ⟨hji, hnL⟩ := hpre j hj
          obtain ⟨lo', hlo', _⟩ := hT j (by omega)
          obtain ⟨_, hFj, _, _, _⟩ := hother j lo' e' hlo' he'
          obtain ⟨b, h1, h2⟩ := hpair j hji
          have hFjh : (F j).hoist = none := by rw [hFj]; exact fpOf_hoist _ _ _ _
          simp only [okPair, hFh, hFjh, Bool.or_eq_true] at h2
          rcases h2 with h2 | h2
          · exact absurd (h1 h2) hnL
          · rw [hFj, hFe] at h2; exact h2)
        unfold wpOp
        rw [ho]
        simp only [hw, if_true]
        left
        refine exOp_ok hcall k1.choose_spec hops hI.rel r1 ?_
        rintro v w2 ⟨ρ2, q1, q2, q3, _⟩
        refine hput v w2 ρ2 S2 q1 (hI.stp.trans q2) q2.fwd q3 r3 fun j oj p hj hLj hne hp => ?_
        obtain ⟨p1, p2⟩ := hI.pend j oj p hj hLj hp
        obtain ⟨_, _, _, hFjh, hokj⟩ := hhoist j oj p hj hp
        have hsame : S2.heap[S.heap.length + rk P ops j]? = some (newsObj p) := by
          cases hwr : (F i).writes with
          | none =>
            rw [hFe] at hwr
            refine r2 hwr _ p (rk_get hj hp) fun hd => ?_
            obtain ⟨d, f, d1, d2, d3⟩ := doneFP_get hd
            have hdl : d < i := by have := lt_of_some d2; rw [hist_len] at this; exact this
            rw [hist_get F i d hdl] at d2
            injection d2 with d2
            subst d2
            have d4 : (ordOf (Region.before ops).toList i)[d]? = some (((Region.before ops).toList.getD i 0).testBit (i - 1 - d)) := hist_get (fun k => ((Region.before ops).toList.getD i 0).testBit k) i d hdl
            rw [d4] at d1
            injection d1 with d1
            have hLd := hbit (i - 1 - d) (by omega) d1
            obtain ⟨lo', hlo', ht'⟩ := hT (i - 1 - d) (by omega)
            have hod : ops[i - 1 - d]? = some ops[i - 1 - d] := Array.getElem?_eq_getElem (by omega)
            cases hpd : newOf P ops[i - 1 - d] with
            | some p' =>
              obtain ⟨_, _, _, hh', _⟩ := hhoist (i - 1 - d) _ p' hod hpd
              rw [hh'] at d3
              injection d3 with d3
              have := rk_inj hod hpd hj hp (by omega)
              exact hLj (this ▸ hLd)
            | none =>
              have hnh : (F (i - 1 - d)).hoist = none := by
                rcases hget (i - 1 - d) ops[i - 1 - d] (by simp) with ⟨p', q1', _⟩ | ⟨_, l', xs', args', g', _, _, _, q4'⟩
                · rw [hpd] at q1'; cases q1'
                · rw [hlo'] at q4'
                  injection q4' with q4'
                  cases ht' with
                  | skip hg' h1' h2' h3' => rw [h3']; rfl
                  | run hg' hh' hF' hok' => rw [hF', q4']; exact fpOf_hoist _ _ _ _
              rw [hnh] at d3
              cases d3
          | some Wr =>
            have hap : apartW (S.heap.length + rk P ops j) (F i).writes = true := by
              rcases Nat.lt_trichotomy j i with h | h | h
              · obtain ⟨b, h1, h2⟩ := hpair j h
                simp only [okPair, hFjh, hFh, Bool.or_eq_true] at h2
                rcases h2 with h2 | h2
                · exact absurd (h1 h2) hLj
                · exact h2
              · exact absurd h hne
              · obtain ⟨b, h1, h2⟩ := okFP_get hokj (j - 1 - i) (F i) (by rw [hist_get F j _ (by omega)]; congr 2; omega)
                simp only [okPair, hFjh, hFh] at h2
                exact h2
            rw [hwr] at hap
            have hap : S.heap.length + rk P ops j ∉ Wr := by simpa [apartW] using hap
            rw [← p1]
            rcases fp_cases r1 with ⟨R, W', eff, _, hw', rfl, hin, _⟩ | hall
            · have : W' = Wr := by
                rw [hFe] at hwr
                have hw2 : (Ev.fp ⟨l, args.map (opd (hist V i ++ tl) env), V i, W i⟩).writes = some W' := hw'
                rw [hw2] at hwr
                injection hwr
              subst this
              exact app_get hin hap
            · rw [hFe] at hwr
              have hall' : Ev.fp ⟨l, args.map (opd (hist V i ++ tl) env), V i, W i⟩ = fpAll (W i) := hall
              rw [hall'] at hwr
              cases hWi : W i with
              | true => rw [hWi] at hwr; cases hwr
              | false =>
                simp only [hWi] at r1
                rw [exOp_clean hclean r1]
        refine ⟨hsame, ?_⟩
        obtain ⟨o', ho', _, _, hv'⟩ := q2.obj _ _ p1
        rw [hsame] at ho'
        injection ho' with ho'
        subst ho'
        rw [(hv' rfl).1]
        exact p2
  · -- the end
    rintro L a1 w1 hall ⟨ρ1, S1, hI⟩
    have hSt : S' = S1 := by
      have h := hI.runs
      have : left ops.size L = [] := by
        unfold left
        rw [List.filter_eq_nil_iff]
        intro k hk
        rw [notB_iff]
        exact fun h => h (hall k (List.mem_range.1 hk))
      rw [this] at h
      exact h
    subst hSt
    have hslot := hI.slot
    refine hQ a1 w1 ρ1 hI.rel hI.stp ⟨hI.size, fun t ht => ?_⟩ hI.defers
    have hde : dstsOf ops.toList = dstTo ops ops.size := by unfold dstsOf dstTo; rw [List.take_of_length_le (by simp)]
    rw [hde, t4, sig_tl (dstTo_len (Nat.le_refl _)) (hist_len V _)]
    rcases sig_to (slots := slots) (V := V) (env := env) (hu t) ops.size (Nat.le_refl _) with ⟨k, ok, hk, hok, hd, hsg⟩ | ⟨hn, hsg⟩
    · rw [hsg]
      rcases hslot t ht with ⟨k', o', hk', hLk', hd', hvr⟩ | ⟨hno, _⟩
      · have := hu t k k' ok o' hok hk' hd hd'
        subst this
        exact hvr
      · exact absurd hd (hno k ok hok (hall k hk))
    · rw [hsg]
      rcases hslot t ht with ⟨k', o', hk', hLk', hd', hvr⟩ | ⟨hno, hvr⟩
      · exact absurd hd' (hn k' o' (Array.getElem?_eq_some_iff.1 hk').1 hk')
      · exact hvr
end
end Go.Proofs.YtabgobmeibjeeaaGreatDoor

namespace Go.Proofs.YtabgobmeibjeeaaGreatDoor
open Go.RowKit
set_option linter.unusedVariables false
set_option linter.unusedSimpArgs false

def exOf : LExit → Exit
  | .normal => .normal
  | .ret => .ret
  | .exit i => .exit i

/-- what lies behind a piece of code -/
def CQ (w : World) (ρ : RMap) (S : St) (slots : List Nat) (nt : Nat) (df : List Deferred) (e : LExit) (env' : List D) (S' : St) (ex : Exit) (a' : Act) (w' : World) : Prop :=
  ∃ ρ', exOf e = ex ∧ Rel w' ρ' S'.heap ∧ Stp w ρ S w' ρ' S' ∧ FR w' ρ' S'.heap nt (sig slots [] [] env') a' ∧ a'.defers = df ∧ env'.length = slots.length

section
variable {P : Program} {call : CallF} {mt : Bool} {nt : Nat} {slots : List Nat} {N : Nat}

theorem code_ok (hm : P.follows .mixedOrders = true) (hcall : CallOK P call) (hclean : CallClean call) (hs : slots.all (· < nt) = true) :
    ∀ (c : Code) (lc : LCode) (env : List D) (S : St) (e : LExit) (env' : List D) (S' : St) (a : Act) (w : World) (ρ : RMap) (Q : Exit → Act → World → Prop), lowCode P mt nt slots c = some lc → exCode call N lc env S = some (e, env', S') → env.length = slots.length → Rel w ρ S.heap → FR w ρ S.heap nt (sig slots [] [] env) a →
      (∀ ex a' w', CQ w ρ S slots nt a.defers e env' S' ex a' w' → Q ex a' w') → c.wp P Q a w := by
  intro c
  induction c with
  | skip =>
    intro lc env S e env' S' a w ρ Q hl hx hlen hr hf hQ
    simp only [lowCode, Option.some.injEq] at hl
    subst hl
    simp only [exCode, Option.some.injEq, Prod.mk.injEq] at hx
    obtain ⟨rfl, rfl, rfl⟩ := hx
    exact wp_skip (hQ _ _ _ ⟨ρ, rfl, hr, Stp.refl _ _ _, hf, rfl, hlen⟩)
  | ret =>
    intro lc env S e env' S' a w ρ Q hl hx hlen hr hf hQ
    simp only [lowCode, Option.some.injEq] at hl
    subst hl
    simp only [exCode, Option.some.injEq, Prod.mk.injEq] at hx
    obtain ⟨rfl, rfl, rfl⟩ := hx
    exact wp_ret (hQ _ _ _ ⟨ρ, rfl, hr, Stp.refl _ _ _, hf, rfl, hlen⟩)
  | exit i =>
    intro lc env S e env' S' a w ρ Q hl hx hlen hr hf hQ
    simp only [lowCode, Option.some.injEq] at hl
    subst hl
    simp only [exCode, Option.some.injEq, Prod.mk.injEq] at hx
    obtain ⟨rfl, rfl, rfl⟩ := hx
    exact wp_exit (hQ _ _ _ ⟨ρ, rfl, hr, Stp.refl _ _ _, hf, rfl, hlen⟩)
  | region id ops draw =>
    intro lc env S e env' S' a w ρ Q hl hx hlen hr hf hQ
    simp only [lowCode, lowRegion] at hl
    cases draw with
    | false =>
      simp only [Bool.false_eq_true, if_false, Option.map_eq_some_iff] at hl
      obtain ⟨los, hlos, rfl⟩ := hl
      simp only [exCode] at hx
      split at hx
      · rename_i vals S1 hops
        simp only [Option.some.injEq, Prod.mk.injEq] at hx
        obtain ⟨rfl, rfl, rfl⟩ := hx
        refine wp_region ?_
        rw [List.range_eq_range', ← Array.length_toList]
        exact seq_ok hcall hs ops.toList 0 [] [] los S vals S1 a w ρ (by simp) (by simp) (by simp) hlos hops hr hf fun a' w' ρ' h1 h2 h3 h4 => hQ _ _ _ ⟨ρ', rfl, h1, h2, h3.end_ hlen, h4, by rw [exports_len]; exact hlen⟩
      · simp at hx
    | true =>
      simp only [if_true] at hl
      split at hl
      · rename_i hdr
        simp only [Option.map_eq_some_iff] at hl
        obtain ⟨los, hlos, rfl⟩ := hl
        simp only [exCode] at hx
        split at hx
        · rename_i vals S1 hops
          simp only [Option.some.injEq, Prod.mk.injEq] at hx
          obtain ⟨rfl, rfl, rfl⟩ := hx
          exact draw_ok hm hcall hclean hs hdr hlos hops hr hf fun a' w' ρ' h1 h2 h3 h4 => hQ _ _ _ ⟨ρ', rfl, h1, h2, h3.end_ hlen, h4, by rw [exports_len]; exact hlen⟩
        · simp at hx
      · simp at hl
  | seq x y ihx ihy =>
    intro lc env S e env' S' a w ρ Q hl hx hlen hr hf hQ
    simp only [lowCode] at hl
    split at hl
    · rename_i lx ly hlx hly
      simp only [Option.some.injEq] at hl
      subst hl
      simp only [exCode] at hx
      refine wp_seq ?_
      cases hex : exCode call N lx env S with
      | none => simp [hex] at hx
      | some q =>
        obtain ⟨e1, env1, S1⟩ := q
        rw [hex] at hx
        refine ihx lx env S e1 env1 S1 a w ρ _ hlx hex hlen hr hf ?_
        rintro ex a' w' ⟨ρ', h1, h2, h3, h4, h5, h6⟩
        cases e1 with
        | normal =>
          simp only at hx
          simp only [exOf] at h1
          subst h1
          refine ihy ly env1 S1 e env' S' a' w' ρ' Q hly hx h6 h2 h4 ?_
          rintro ex a2 w2 ⟨ρ2, k1, k2, k3, k4, k5, k6⟩
          exact hQ _ _ _ ⟨ρ2, k1, k2, h3.trans k3, k4, k5.trans h5, k6⟩
        | ret =>
          simp only [Option.some.injEq, Prod.mk.injEq] at hx
          obtain ⟨rfl, rfl, rfl⟩ := hx
          simp only [exOf] at h1
          subst h1
          exact hQ _ _ _ ⟨ρ', rfl, h2, h3, h4, h5, h6⟩
        | exit i =>
          simp only [Option.some.injEq, Prod.mk.injEq] at hx
          obtain ⟨rfl, rfl, rfl⟩ := hx
          simp only [exOf] at h1
          subst h1
          exact hQ _ _ _ ⟨ρ', rfl, h2, h3, h4, h5, h6⟩
    · simp at hl
  | cond c x y ihx ihy =>
    intro lc env S e env' S' a w ρ Q hl hx hlen hr hf hQ
    simp only [lowCode] at hl
    split at hl
    · rename_i z lx ly hz hlx hly
      simp only [Option.some.injEq] at hl
      subst hl
      have hc : VR w ρ S.heap (opd [] env z) (a.eval c) := opd_ok hz hs (by simp) fun t ht => hf.2 t (tmp_in (ht ▸ hz) hs (by simp))
      simp only [exCode] at hx
      split at hx
      · rename_i hb
        rw [hb] at hc
        generalize hv : a.eval c = v at hc
        cases hc
        exact wp_cond_true hv (ihx lx env S e env' S' a w ρ Q hlx hx hlen hr hf hQ)
      · rename_i hb
        rw [hb] at hc
        generalize hv : a.eval c = v at hc
        cases hc
        exact wp_cond_false hv (ihy ly env S e env' S' a w ρ Q hly hx hlen hr hf hQ)
      · simp at hx
    · simp at hl
  | block i c ih =>
    intro lc env S e env' S' a w ρ Q hl hx hlen hr hf hQ
    simp only [lowCode, Option.map_eq_some_iff] at hl
    obtain ⟨lc, hlc, rfl⟩ := hl
    simp only [exCode] at hx
    refine wp_block ?_
    cases hex : exCode call N lc env S with
    | none => simp [hex] at hx
    | some q =>
      obtain ⟨e1, env1, S1⟩ := q
      rw [hex] at hx
      refine ih lc env S e1 env1 S1 a w ρ _ hlc hex hlen hr hf ?_
      rintro ex a' w' ⟨ρ', h1, h2, h3, h4, h5, h6⟩
      cases e1 with
      | normal =>
        simp only [Option.some.injEq, Prod.mk.injEq] at hx
        obtain ⟨rfl, rfl, rfl⟩ := hx
        simp only [exOf] at h1
        subst h1
        exact hQ _ _ _ ⟨ρ', rfl, h2, h3, h4, h5, h6⟩
      | ret =>
        simp only [Option.some.injEq, Prod.mk.injEq] at hx
        obtain ⟨rfl, rfl, rfl⟩ := hx
        simp only [exOf] at h1
        subst h1
        exact hQ _ _ _ ⟨ρ', rfl, h2, h3, h4, h5, h6⟩
      | exit j =>
        simp only [exOf] at h1
        subst h1
        simp only at hx
        simp only [Exit.inBlock]
        split at hx
        · rename_i hj
          rw [if_pos hj]
          simp only [Option.some.injEq, Prod.mk.injEq] at hx
          obtain ⟨rfl, rfl, rfl⟩ := hx
          exact hQ _ _ _ ⟨ρ', rfl, h2, h3, h4, h5, h6⟩
        · rename_i hj
          rw [if_neg hj]
          simp only [Option.some.injEq, Prod.mk.injEq] at hx
          obtain ⟨rfl, rfl, rfl⟩ := hx
          exact hQ _ _ _ ⟨ρ', rfl, h2, h3, h4, h5, h6⟩
  | loop c ih =>
    intro lc env S e env' S' a w ρ Q hl hx hlen hr hf hQ
    simp only [lowCode, Option.map_eq_some_iff] at hl
    obtain ⟨lc, hlc, rfl⟩ := hl
    simp only [exCode] at hx
    have key : ∀ (n : Nat) (env : List D) (S : St) (a : Act) (w : World) (ρ : RMap), loopN (exCode call N lc) n env S = some (e, env', S') → env.length = slots.length → Rel w ρ S.heap → FR w ρ S.heap nt (sig slots [] [] env) a → (∀ ex a' w', CQ w ρ S slots nt a.defers e env' S' ex a' w' → Q ex a' w') → Code.rounds P c Q n a w := by
      intro n
      induction n with
      | zero => intro env S a w ρ hx; simp [loopN] at hx
      | succ n ihn =>
        intro env S a w ρ hx hlen hr hf hQ
        rw [rounds_succ]
        simp only [loopN] at hx
        cases hex : exCode call N lc env S with
        | none => simp [hex] at hx
        | some q =>
          obtain ⟨e1, env1, S1⟩ := q
          rw [hex] at hx
          refine ih lc env S e1 env1 S1 a w ρ _ hlc hex hlen hr hf ?_
          rintro ex a' w' ⟨ρ', h1, h2, h3, h4, h5, h6⟩
          cases e1 with
          | normal =>
            simp only at hx
            simp only [exOf] at h1
            subst h1
            refine ihn env1 S1 a' w' ρ' hx h6 h2 h4 ?_
            rintro ex a2 w2 ⟨ρ2, k1, k2, k3, k4, k5, k6⟩
            exact hQ _ _ _ ⟨ρ2, k1, k2, h3.trans k3, k4, k5.trans h5, k6⟩
          | ret =>
            simp only [Option.some.injEq, Prod.mk.injEq] at hx
            obtain ⟨rfl, rfl, rfl⟩ := hx
            simp only [exOf] at h1
            subst h1
            exact hQ _ _ _ ⟨ρ', rfl, h2, h3, h4, h5, h6⟩
          | exit i =>
            simp only [Option.some.injEq, Prod.mk.injEq] at hx
            obtain ⟨rfl, rfl, rfl⟩ := hx
            simp only [exOf] at h1
            subst h1
            exact hQ _ _ _ ⟨ρ', rfl, h2, h3, h4, h5, h6⟩
    exact wp_loop_rounds N (key N env S a w ρ hx hlen hr hf hQ)
  | rangeFunc => intro lc env S e env' S' a w ρ Q hl hx; simp only [lowCode, Option.some.injEq] at hl; subst hl; simp [exCode] at hx
  | scope c ih =>
    intro lc env S e env' S' a w ρ Q hl hx hlen hr hf hQ
    simp only [lowCode] at hl
    refine wp_scope_straight (ih lc env S e env' S' a w ρ _ hl hx hlen hr hf ?_)
    intro ex a' w' hc
    have hq := hQ ex a' w' hc
    obtain ⟨ρ', h1, _⟩ := hc
    cases e <;> simp only [exOf] at h1 <;> subst h1 <;> exact hq
  | label =>
    intro lc env S e env' S' a w ρ Q hl hx hlen hr hf hQ
    simp only [lowCode, Option.some.injEq] at hl
    subst hl
    simp only [exCode, Option.some.injEq, Prod.mk.injEq] at hx
    obtain ⟨rfl, rfl, rfl⟩ := hx
    exact wp_label (hQ _ _ _ ⟨ρ, rfl, hr, Stp.refl _ _ _, hf, rfl, hlen⟩)
  | goto => intro lc env S e env' S' a w ρ Q hl hx; simp only [lowCode, Option.some.injEq] at hl; subst hl; simp [exCode] at hx
  | refuse => intro lc env S e env' S' a w ρ Q hl hx; simp only [lowCode, Option.some.injEq] at hl; subst hl; simp [exCode] at hx
end

/-! results -/
def resSem (tmps : Array Value) : ResultVar → Sem Value
  | .tmp t => pure (tmps.getD t undef)
  | .cell a t => do loadVar t (← asAddr (tmps.getD a undef))
theorem results_eq (fn : Func) (tmps : Array Value) : results fn tmps = (do let vs ← fn.results.mapM (resSem tmps); pure (if h : vs.size = 1 then vs[0] else .tuple vs)) := by
  unfold results
  congr 1
section
variable {P : Program} {w : World} {ρ : RMap} {S : St}
theorem res_ok {nt : Nat} {slots : List Nat} {env : List D} {a : Act} (hr : Rel w ρ S.heap) (hs : slots.all (· < nt) = true) (hf : FR w ρ S.heap nt (sig slots [] [] env) a) : ∀ {rs : List ResultVar} {ls : List LRes} {ds : List D}, lowRes P slots rs = some ls → resDs env S ls = some ds →
    ∃ vs, (rs.mapM (resSem a.tmps)).run P w = .ok vs w ∧ VL w ρ S.heap ds vs
  | [], ls, ds, hl, hd => by
    simp only [lowRes, Option.some.injEq] at hl
    subst hl
    simp only [resDs, Option.some.injEq] at hd
    subst hd
    exact ⟨[], by simp, .nil⟩
  | .tmp t :: rs, ls, ds, hl, hd => by
    simp only [lowRes] at hl
    split at hl
    · rename_i j m hj hm
      simp only [Option.some.injEq] at hl
      subst hl
      simp only [resDs, resD] at hd
      split at hd
      · rename_i x y hx hy
        simp only [Option.some.injEq] at hd hx
        subst hd hx
        obtain ⟨vs, h1, h2⟩ := res_ok hr hs hf hm hy
        have ht : t < nt := by
          have := List.all_eq_true.1 hs t (List.mem_of_getElem? (idxOf_mem hj))
          simpa using this
        have h3 := hf.2 t ht
        unfold sig at h3
        simp only [locOf, hj] at h3
        exact ⟨a.tmps.getD t undef :: vs, by rw [List.mapM_cons, run_ok_bind (a := a.tmps.getD t undef) (w' := w) rfl, run_ok_bind h1]; rfl, .cons h3 h2⟩
      · simp at hd
    · simp at hl
  | .cell ad t :: rs, ls, ds, hl, hd => by
    simp only [lowRes] at hl
    split at hl
    · rename_i j n m hj hn hm
      simp only [Option.some.injEq] at hl
      subst hl
      simp only [resDs, resD] at hd
      split at hd
      · rename_i x y hx hy
        simp only [Option.some.injEq] at hd
        subst hd
        obtain ⟨vs, h1, h2⟩ := res_ok hr hs hf hm hy
        have ht : ad < nt := by
          have := List.all_eq_true.1 hs ad (List.mem_of_getElem? (idxOf_mem hj))
          simpa using this
        have h3 := hf.2 ad ht
        unfold sig at h3
        simp only [locOf, hj] at h3
        obtain ⟨v, h4, h5⟩ := load_ok (P := P) hr h3 hx hn rfl
        have h6 : (resSem a.tmps (.cell ad t)).run P w = .ok v w := by
          rw [← h4]
          show (do loadVar t (← asAddr (a.tmps.getD ad undef)) : Sem Value).run P w = _
          generalize a.tmps.getD ad undef = u at h3 ⊢
          generalize env.getD j .undef = du at h3 hx
          unfold loadD at hx
          split at hx
          · cases h3; simp [Instr.loadAt, Instr.sureAddr, asAddr]
          · cases h3; simp [Instr.loadAt, Instr.sureAddr, asAddr]
          · simp at hx
        exact ⟨v :: vs, by rw [List.mapM_cons, run_ok_bind h6, run_ok_bind h1]; rfl, .cons h5 h2⟩
      · simp at hd
    · simp at hl
theorem results_ok {nt : Nat} {slots : List Nat} {env : List D} {a : Act} {fn : Func} {ls : List LRes} {r : D} (hr : Rel w ρ S.heap) (hs : slots.all (· < nt) = true) (hf : FR w ρ S.heap nt (sig slots [] [] env) a) (hl : lowRes P slots fn.results.toList = some ls) (hd : resultD env S ls = some r) :
    ∃ v, (results fn a.tmps).run P w = .ok v w ∧ VR w ρ S.heap r v := by
  unfold resultD at hd
  cases hds : resDs env S ls with
  | none => simp [hds] at hd
  | some ds =>
    obtain ⟨vs, h1, h2⟩ := res_ok (P := P) hr hs hf hl hds
    have hrun : (results fn a.tmps).run P w = .ok (if h : vs.toArray.size = 1 then vs.toArray[0] else .tuple vs.toArray) w := by
      rw [results_eq]
      have e : fn.results = fn.results.toList.toArray := by simp
      rw [e, List.mapM_toArray]
      have : (List.toArray <$> fn.results.toList.mapM (resSem a.tmps)).run P w = .ok vs.toArray w := by
        rw [map_eq_pure_bind, run_ok_bind h1]
        rfl
      rw [run_ok_bind this]
      rfl
    refine ⟨_, hrun, ?_⟩
    have hlen := h2.len
    rw [hds] at hd
    split at hd
    · rename_i x hx
      simp only [Option.some.injEq] at hd hx
      subst hd hx
      cases h2 with
      | cons h t => cases t with
        | nil => simpa using h
    · rename_i xs hne hxs
      simp only [Option.some.injEq] at hd hxs
      subst hd hxs
      have h1 : ¬ vs.toArray.size = 1 := by
        intro h
        simp only [List.size_toArray] at h
        rw [hlen] at h
        obtain ⟨x, hx⟩ := List.length_eq_one_iff.1 h
        exact hne x (by rw [hx])
      rw [dif_neg h1]
      exact .tup ds vs hlen (fun j d v => h2.get)
    · rename_i h; simp at h

/-! calls -/
theorem Stp.relow {w' : World} {ρ' : RMap} {n : Nat} {S2 : St} (h : Stp w ρ ⟨S.heap, n⟩ w' ρ' S2) : Stp w ρ S w' ρ' ⟨S2.heap, min S.low S2.low⟩ :=
  ⟨h.hid, h.os, h.tape, h.output, h.size, Nat.min_le_left _ _, h.out, h.imm, fun g b o ho hg hb => h.keep g b o ho (Nat.lt_of_lt_of_le hg (Nat.min_le_right _ _)) hb, fun g o ho => by
    obtain ⟨o', h1, h2, h3, h4⟩ := h.obj g o ho
    exact ⟨o', h1, h2, fun hg => h3 (Nat.lt_of_lt_of_le hg (Nat.min_le_right _ _)), h4⟩⟩
/-- nothing that was there has been written -/
theorem Stp.clean {w' : World} {ρ' : RMap} {S2 : St} (hr : Rel w ρ S.heap) (h : Stp w ρ ⟨S.heap, S.heap.length⟩ w' ρ' S2) (hlow : S.heap.length ≤ S2.low) : Stp w ρ S w' ρ S :=
  ⟨rfl, h.os, h.tape, h.output, h.size, Nat.le_refl _, fun b hb hg => ⟨(h.out b hb hg).1, hg⟩, fun b q hi => ⟨(h.imm b q hi).1, Nat.lt_of_lt_of_le hi.1 h.size, hi.2⟩,
    fun g b o ho hg hb => h.keep g b o ho (Nat.lt_of_lt_of_le (lt_of_some ho) hlow) hb, fun g o ho => ⟨o, ho, ⟨Nat.le_refl _, rfl⟩, fun _ => rfl, fun _ => ⟨rfl, rfl, rfl, Nat.le_refl _, fun b cur hb hc => ⟨cur, (h.keep g b o ho (Nat.lt_of_lt_of_le (lt_of_some ho) hlow) hb).trans hc, rfl⟩⟩⟩⟩
section
variable {w' : World} {ρ' : RMap} {S2 : St} (hr : Rel w ρ S.heap) (hr2 : Rel w' ρ' S2.heap) (h : Stp w ρ ⟨S.heap, S.heap.length⟩ w' ρ' S2) (hlow : S.heap.length ≤ S2.low)
include hr h hlow
theorem leave_map {g b : Nat} (hb : ρ g = some b) : g < S.heap.length ∧ ρ' g = some b ∧ S2.heap[g]? = S.heap[g]? := by
  have hg := hr.in hb
  obtain ⟨o', h1, h2, h3, h4⟩ := h.obj g S.heap[g] (List.getElem?_eq_getElem hg)
  have := h3 (Nat.lt_of_lt_of_le hg hlow)
  subst this
  exact ⟨hg, by rw [(h4 rfl).1]; exact hb, by rw [h1, List.getElem?_eq_getElem hg]⟩
theorem leave_imm {b q : Nat} (hi : Imm w' ρ' S2.heap b q) : Imm w' ρ S.heap b q :=
  ⟨hi.1, by rw [← h.hid]; exact hi.2.1, fun g hg => by
    obtain ⟨_, h1, h2⟩ := leave_map hr h hlow hg
    rw [← h2]
    exact hi.2.2 g h1⟩
theorem leave_out : ∀ b es c, w'.heap[b]? = some (.map es c) → (∀ g, ρ' g ≠ some b) → ¬ ρ'.X b 0 → w'.heap[b]? = w'.heap[b]? ∧ (∀ g, ρ g ≠ some b) ∧ ¬ ρ.X b 0 :=
  fun b _ _ _ hg hx => ⟨rfl, fun g hb => hg g (leave_map hr h hlow hb).2.1, by rw [← h.hid]; exact hx⟩
include hr2
theorem snap_leave {d r : D} {v : Value} (hv : VR w' ρ' S2.heap d v) (hs : snap S.heap.length S2.heap d = some r) (hf : r.free = true) : VR w' ρ S.heap r v := by
  unfold snap at hs
  split at hs
  · rename_i g ver lo n cap
    cases hv with
    | msl _ _ _ _ _ A c ob hnc hcap hg hver hk3 hcur =>
      simp only [hg] at hs
      split at hs
      · rename_i hk
        simp only [Option.some.injEq] at hs
        subst hs
        obtain ⟨b, hρ, hlo, hA, hcp⟩ := hcur hk.1
        obtain ⟨o1, ho1, cur, hc, hz, ⟨cc, hcc, hcl, hcm, hcg⟩, hl, hkk, hh⟩ := hr2.cel hρ hg hk3
        rw [hg] at ho1
        injection ho1 with ho1
        subst ho1
        have hlen : ((ob.rows.drop lo).take n).length = n := by simp; omega
        have hcell : ∀ i r' j d, ((ob.rows.drop lo).take n)[i]? = some r' → r'[j]? = some d → w'.cell? ⟨b, lo * ob.sz + i * ob.sz + j, none⟩ = some (cur.getD ((lo + i) * ob.sz + j) undef) ∧ Imm w' ρ S.heap b (lo * ob.sz + i * ob.sz + j) ∧ d.free = true ∧ VR w' ρ' S2.heap d (cur.getD ((lo + i) * ob.sz + j) undef) := by
          intro i r' j d hi hj
          obtain ⟨h1, h2⟩ := drop_take_get hi
          obtain ⟨h3, h4, v, hv1, hv2⟩ := hh _ r' j d h1 hj
          obtain ⟨h5, h6⟩ := Array.getElem?_eq_some_iff.1 hv1
          have hg1 : cur.getD ((lo + i) * ob.sz + j) undef = v := by simp [Array.getD, h5, h6]
          rw [hg1]
          refine ⟨?_, ⟨lt_of_heap hc, fun hx => (hr2.hid _ _ (by rw [h.hid]; exact hx)).2 g hρ, fun g' hg' => ?_⟩, h4 (by omega), hv2⟩
          · rw [cell_of_row w' b _ cur ob.elem (0, 0) hc, ← hv1]
            congr 1
            rw [Nat.add_mul]
          · obtain ⟨q1, q2, q3⟩ := leave_map hr h hlow hg'
            have := hr2.inj g' g b q2 hρ
            subst this
            rcases hk.2 with hk1 | hk1
            · refine ⟨ob, by rw [← q3]; exact hg, hk1, ?_⟩
              have h7 : j < ob.sz := by rw [← hl r' (List.mem_of_getElem? h1)]; exact lt_of_some hj
              have h8 : lo + i < ob.rows.length := lt_of_some h1
              have := row_in h8 h7
              rwa [Nat.add_mul] at this
            · omega
        refine .sl ob.sz _ _ A n c hlen.symm hnc (fun k hk' => ?_) (fun r hr' => hl r (mem_drop_take hr')) b (lo * ob.sz) (fun i j => cur.getD ((lo + i) * ob.sz + j) undef) (fun hne => hA ?_) (fun i r' j d hi hj => ?_) (fun i r' j d hi hj => ?_)
        · cases cap with
          | some c' => simp only [Option.some.injEq] at hk'; subst hk'; exact hcap _ rfl
          | none =>
            simp only at hk'
            split at hk'
            · simp at hk'
            · rename_i hgr
              simp only [Option.some.injEq] at hk'
              obtain ⟨cur', hc1, hc2⟩ := hcp rfl
              rw [hc] at hc1
              injection hc1 with hc1
              injection hc1 with hc1
              subst hc1
              have h1 := hcg (by simpa using hgr)
              rw [hcc] at hc2
              have := Nat.eq_of_mul_eq_mul_right hz hc2
              omega
        · left
          intro h0
          subst h0
          simp at hne
        · obtain ⟨q1, q2, q3, _⟩ := hcell i r' j d hi hj
          exact ⟨q1, q2, q3⟩
        · obtain ⟨_, _, q3, q4⟩ := hcell i r' j d hi hj
          exact q4.free_mono (fun b q hi => ⟨rfl, leave_imm hr h hlow hi⟩) (leave_out hr h hlow) q3
      · simp at hs
  · rename_i g ver
    split at hs
    · rename_i hmg
      cases hv with
      | mref _ _ b ob hg hver hcur =>
        simp only [hg] at hs
        split at hs
        · rename_i hk
          simp only [Option.some.injEq] at hs
          subst hs
          have hρ := hcur hk.1
          obtain ⟨es, clock, hc, hsz, hl, hall⟩ := hr2.map hρ hg hk.2.1 hk.2.2
          have hval : ∀ i, i < ob.rows.length → ∃ e, es[i]? = some e ∧ e.key = ((es[i]?).map (·.key)).getD undef ∧ e.val = ((es[i]?).map (·.val)).getD undef := by
            intro i hi
            have hie : i < es.size := by omega
            exact ⟨es[i], Array.getElem?_eq_getElem hie, by simp [hie], by simp [hie]⟩
          refine .mp ob.rows b clock es (fun i j => if j = 0 then ((es[i]?).map (·.key)).getD undef else ((es[i]?).map (·.val)).getD undef) hc (fun hx => (hr2.hid _ _ (by rw [h.hid]; exact hx)).2 g hρ) (fun g' hg' => ?_) hsz hl (fun i hi => ?_) (fun i r' j d hi hj => ?_) (fun i r' j d hi hj => ?_)
          · obtain ⟨q1, q2, _⟩ := leave_map hr h hlow hg'
            have := hr2.inj g' g b q2 hρ
            omega
          · obtain ⟨e, h1, h2, h3⟩ := hval i hi
            exact ⟨e, h1, by simpa using h2, by simpa using h3⟩
          · obtain ⟨e, k, v, h1, h2, h3, h4, _, _⟩ := hall i r' hi
            subst h2
            match j, hj with
            | 0, hj => simp at hj; subst hj; exact ⟨free_V h3.1, by cases k <;> first | exact h3.2 | (simp [D.isCell] at h3; done)⟩
            | 1, hj => simp at hj; subst hj; exact h4
          · obtain ⟨e, k, v, h1, h2, h3, h4, h5, h6⟩ := hall i r' hi
            subst h2
            match j, hj with
            | 0, hj =>
              simp at hj
              subst hj
              simp only [if_true, h1, Option.map_some, Option.getD_some]
              exact h5.free_mono (fun b q hi => ⟨rfl, leave_imm hr h hlow hi⟩) (leave_out hr h hlow) h3.1
            | 1, hj =>
              simp at hj
              subst hj
              simp only [Nat.one_ne_zero, if_false, h1, Option.map_some, Option.getD_some]
              exact h6.freeV_mono (fun b q hi => ⟨rfl, leave_imm hr h hlow hi⟩) (leave_out hr h hlow) h4.1
        · simp at hs
    · simp only [Option.some.injEq] at hs
      subst hs
      simp [D.free] at hf
  · simp only [Option.some.injEq] at hs
    subst hs
    exact hv.free_mono (fun b q hi => ⟨rfl, leave_imm hr h hlow hi⟩) (leave_out hr h hlow) hf
theorem snaps_leave : ∀ {ds rs : List D} {vs : List Value}, VL w' ρ' S2.heap ds vs → snaps S.heap.length S2.heap ds = some rs → rs.all D.free = true → VL w' ρ S.heap rs vs
  | [], rs, _, .nil, hs, _ => by simp only [snaps, Option.some.injEq] at hs; subst hs; exact .nil
  | d :: ds, rs, _, .cons hd ht, hs, hf => by
    unfold snaps at hs
    split at hs
    · rename_i x y hx hy
      simp only [Option.some.injEq] at hs
      subst hs
      simp only [List.all_cons, Bool.and_eq_true] at hf
      exact .cons (snap_leave hr hr2 h hlow hd hx hf.1) (snaps_leave ht hy hf.2)
    · simp at hs
theorem snapV_leave {d r : D} {v : Value} (hv : VR w' ρ' S2.heap d v) (hs : snapV S.heap.length S2.heap d = some r) (hf : r.freeV = true) : VR w' ρ S.heap r v := by
  unfold snapV at hs
  split at hs
  · simp only [Option.map_eq_some_iff] at hs
    obtain ⟨rs, hrs, rfl⟩ := hs
    cases hv with
    | agg _ vs hl hc hh =>
      have h1 := snaps_leave hr hr2 h hlow (VL.of hl hh) hrs hf
      exact .agg rs vs h1.len (List.all_eq_true.2 fun x hx => free_cell (List.all_eq_true.1 hf x hx)) (fun j d v => h1.get)
  · rename_i hna
    refine snap_leave hr hr2 h hlow hv hs ?_
    unfold D.freeV at hf
    split at hf
    · rename_i cs
      unfold snap at hs
      repeat' (first | (simp at hs; done) | (split at hs))
      all_goals try (simp at hs; done)
      all_goals
        simp only [Option.some.injEq] at hs
        subst hs
        exact absurd rfl (hna cs)
    · exact hf
theorem snapVs_leave : ∀ {ds rs : List D} {vs : List Value}, VL w' ρ' S2.heap ds vs → snapVs S.heap.length S2.heap ds = some rs → rs.all D.freeV = true → VL w' ρ S.heap rs vs
  | [], rs, _, .nil, hs, _ => by simp only [snapVs, Option.some.injEq] at hs; subst hs; exact .nil
  | d :: ds, rs, _, .cons hd ht, hs, hf => by
    unfold snapVs at hs
    split at hs
    · rename_i x y hx hy
      simp only [Option.some.injEq] at hs
      subst hs
      simp only [List.all_cons, Bool.and_eq_true] at hf
      exact .cons (snapV_leave hr hr2 h hlow hd hx hf.1) (snapVs_leave ht hy hf.2)
    · simp at hs
theorem snapR_leave {d r : D} {v : Value} (hv : VR w' ρ' S2.heap d v) (hs : snapR S.heap.length S2.heap d = some r) (hf : r.freeR = true) : VR w' ρ S.heap r v := by
  unfold snapR at hs
  split at hs
  · simp only [Option.map_eq_some_iff] at hs
    obtain ⟨rs, hrs, rfl⟩ := hs
    cases hv with
    | tup _ vs hl hh =>
      have h1 := snapVs_leave hr hr2 h hlow (VL.of hl hh) hrs hf
      exact .tup rs vs h1.len (fun j d v => h1.get)
  · rename_i hna
    refine snapV_leave hr hr2 h hlow hv hs ?_
    unfold D.freeR at hf
    split at hf
    · rename_i cs
      unfold snapV at hs
      split at hs
      · simp at hs
      · unfold snap at hs
        repeat' (first | (simp at hs; done) | (split at hs))
        all_goals try (simp at hs; done)
        all_goals
          simp only [Option.some.injEq] at hs
          subst hs
          exact absurd rfl (hna cs)
    · exact hf
end
theorem leave_ok {w' : World} {ρ' : RMap} {S2 S' : St} {raw : Bool} {r0 r : D} {v : Value} {wr : Bool} (hr : Rel w ρ S.heap) (hr2 : Rel w' ρ' S2.heap) (h : Stp w ρ ⟨S.heap, S.heap.length⟩ w' ρ' S2) (hv : VR w' ρ' S2.heap r0 v) (hl : leave raw S r0 S2 = some (r, S', wr)) : OpPost w ρ S r S' wr v w' := by
  unfold leave at hl
  split at hl
  · simp only [Option.some.injEq, Prod.mk.injEq] at hl
    obtain ⟨rfl, rfl, rfl⟩ := hl
    exact ⟨ρ', hr2, h.relow, hv, by simp⟩
  · split at hl
    · rename_i r' hc
      simp only [Option.some.injEq, Prod.mk.injEq] at hl
      obtain ⟨rfl, rfl, rfl⟩ := hl
      split at hc
      · rename_i hlow
        split at hc
        · rename_i r1 hs
          split at hc
          · rename_i hf
            simp only [Option.some.injEq] at hc
            subst hc
            have hst := h.clean hr hlow
            refine ⟨ρ, ⟨hr.inj, fun g b hb => ?_, hr.hids hst⟩, hst, snapR_leave hr hr2 h hlow hv hs hf, fun _ => ⟨⟨h.os, h.tape, h.output, h.size, fun b hb => ?_⟩, rfl, rfl⟩⟩
            · obtain ⟨o, ho, hk⟩ := hr.obj g b hb
              exact ⟨o, ho, hk.mono hst (h.keep g b o ho (Nat.lt_of_lt_of_le (lt_of_some ho) hlow) hb)⟩
            · by_cases hex : ∃ g, ρ g = some b
              · obtain ⟨g, hg⟩ := hex
                obtain ⟨o, ho, _⟩ := hr.obj g b hg
                exact h.keep g b o ho (Nat.lt_of_lt_of_le (lt_of_some ho) hlow) hg
              · exact (h.out b hb fun g hg => hex ⟨g, hg⟩).1
          · simp at hc
        · simp at hc
      · simp at hc
    · split at hl
      · rename_i r' hs
        simp only [Option.some.injEq, Prod.mk.injEq] at hl
        obtain ⟨rfl, rfl, rfl⟩ := hl
        exact ⟨ρ', hr2, h.relow, snapR_ok hr2 (Nat.le_refl _) hv hs, by simp⟩
      · simp at hl
end

/-- the functions that the machine knows are the program's -/
def PrgOK (P : Program) (L : Prg) : Prop := ∀ f F, L.fns f = some F → ∃ fn mt slots, P.funcs[f]? = some fn ∧ lowFn P mt slots fn = some F

theorem run_clean (L : Prg) (N : Nat) : ∀ d, CallClean (runF L N d)
  | 0 => fun f ds S r S' h => by simp [runF] at h
  | d + 1 => fun f ds S r S' h => by
    simp only [runF] at h
    repeat' (first | (simp at h; done) | (split at h))
    all_goals try (simp at h; done)
    all_goals
      first | unfold leaveP at h | unfold leave at h
      repeat' (first | (simp at h; done) | (split at h))
      all_goals first
        | (simp at h; done)
        | (simp only [Option.some.injEq, Prod.mk.injEq] at h; exact h.2.1.symm)

/-! a call on the empty heap -/
theorem VR.freeR_mono {w w' : World} {ρ ρ' : RMap} {H H' : List AObj} (hi : ∀ b q, Imm w ρ H b q → w'.cell? ⟨b, q, none⟩ = w.cell? ⟨b, q, none⟩ ∧ Imm w' ρ' H' b q) (ho : ∀ b es c, w.heap[b]? = some (.map es c) → (∀ g, ρ g ≠ some b) → ¬ ρ.X b 0 → w'.heap[b]? = w.heap[b]? ∧ (∀ g, ρ' g ≠ some b) ∧ ¬ ρ'.X b 0) {d : D} {v : Value} (h : VR w ρ H d v) (hf : d.freeR = true) : VR w' ρ' H' d v := by
  unfold D.freeR at hf
  split at hf
  · cases h with
    | tup _ vs hl hh => exact .tup _ vs hl fun j d v h1 h2 => (hh j d v h1 h2).freeV_mono hi ho (List.all_eq_true.1 hf d (List.mem_of_getElem? h1))
  · exact h.freeV_mono hi ho hf
/-- all objects hidden -/
def hide (ρ : RMap) (H : List AObj) : RMap := ⟨fun _ => none, fun b q => ρ.X b q ∨ ∃ g, ρ g = some b ∧ ¬ ∃ o, H[g]? = some o ∧ o.kind = 1 ∧ q < o.rows.length * o.sz⟩
theorem hide_rel {w : World} {ρ : RMap} {H : List AObj} (hr : Rel w ρ H) : Rel w (hide ρ H) [] :=
  ⟨fun g g' b h => (by cases h), fun g b h => (by cases h), fun b q hx => ⟨(by
    rcases hx with hx | ⟨g, hg, _⟩
    · exact (hr.hid b q hx).1
    · exact hr.lt hg), fun g h => (by cases h)⟩⟩
theorem hide_in {w : World} {ρ : RMap} {H : List AObj} {d : D} {v : Value} (h : VR w ρ H d v) (hf : d.freeV = true) : VR w (hide ρ H) [] d v := by
  refine h.freeV_mono (fun b q hi => ⟨rfl, hi.1, fun hx => ?_, fun g h => (by cases h)⟩) (fun b es c hb hg hx => ⟨rfl, fun g h => (by cases h), fun hx' => ?_⟩) hf
  · rcases hx with hx | ⟨g, hg, hn⟩
    · exact hi.2.1 hx
    · exact hn (hi.2.2 g hg)
  · rcases hx' with hx' | ⟨g, hg', _⟩
    · exact hx hx'
    · exact hg g hg'
theorem hide_out {w : World} {ρ : RMap} {H : List AObj} (hr : Rel w ρ H) {d : D} {v : Value} (h : VR w (hide ρ H) [] d v) (hf : d.freeR = true) : VR w ρ H d v := by
  have key : ∀ b q, ¬ (hide ρ H).X b q → ¬ ρ.X b q ∧ ∀ g, ρ g = some b → ∃ o, H[g]? = some o ∧ o.kind = 1 ∧ q < o.rows.length * o.sz := by
    intro b q hx
    refine ⟨fun h => hx (.inl h), fun g hg => ?_⟩
    exact Classical.byContradiction fun hn => hx (.inr ⟨g, hg, hn⟩)
  refine h.freeR_mono (fun b q hi => ⟨rfl, hi.1, key b q hi.2.1⟩) (fun b es c hb hg hx => ⟨rfl, fun g hg' => ?_, (key b 0 hx).1⟩) hf
  obtain ⟨o, ho, hk, _⟩ := (key b 0 hx).2 g hg'
  obtain ⟨o', ho', hok⟩ := hr.obj g b hg'
  rw [ho] at ho'
  injection ho' with ho'
  subst ho'
  obtain ⟨cur, hc, _⟩ := hok.1 (by omega)
  rw [hb] at hc
  cases hc

theorem run_ok {P : Program} {L : Prg} (hm : P.follows .mixedOrders = true) (hL : PrgOK P L) (N : Nat) : ∀ d, CallOK P (runF L N d)
  | 0 => fun f ds S r S' wr h => by simp [runF] at h
  | d + 1 => by
    have ih := run_ok hm hL N d
    intro f ds S r S' wr h w ρ vs hr hv
    simp only [runF] at h
    cases hF : L.fns f with
    | none => simp [hF] at h
    | some F =>
      simp only [hF] at h
      obtain ⟨fn, mt, slots, hfn, hlow⟩ := hL f F hF
      unfold lowFn at hlow
      cases hb : fn.body with
      | none => simp [hb] at hlow
      | some c =>
        simp only [hb] at hlow
        split at hlow
        · rename_i lc ls hlc hls
          split at hlow
          · simp at hlow
          · rename_i hname
            split at hlow
            · rename_i hsl
              simp only [Bool.and_eq_true, decide_eq_true_eq] at hsl
              obtain ⟨hsl, hle⟩ := hsl
              simp only [Option.some.injEq] at hlow
              subst hlow
              split at h
              · simp at h
              · rename_i args' hargs
                have hva : VL w ρ S.heap args' vs := by
                  split at hargs
                  · simp only [Option.some.injEq] at hargs; subst hargs; exact hv
                  · exact snapVs_ok hr (Nat.le_refl _) hv hargs
                simp only [ne_eq, ite_not] at h
                split at h
                · rename_i hlen
                  have body : ∀ (ρ0 : RMap) (S0 S2 : St) (e : LExit) (env' : List D) (r0 : D) (Post : Value → World → Prop), Rel w ρ0 S0.heap → VL w ρ0 S0.heap args' vs → exCode (runF L N d) N lc (slots.map fun s => args'.getD s .undef) ⟨S0.heap, S0.heap.length⟩ = some (e, env', S2) → (e = .normal ∨ e = .ret) → resultD env' S2 ls = some r0 →
                      (∀ w' ρ' v, Rel w' ρ' S2.heap → Stp w ρ0 ⟨S0.heap, S0.heap.length⟩ w' ρ' S2 → VR w' ρ' S2.heap r0 v → Post v w') → (callFunc f vs.toArray).run P w = .ok (.enter f vs.toArray) w ∧ Calls P f vs.toArray w fun e w' => ∃ v, e = .returned v ∧ Post v w' := by
                    intro ρ0 S0 S2 e env' r0 Post hr hva hex he hr0 hpost
                    have hnm : (fn.name == "runtime.NumGoroutine") = false := by simpa using hname
                    refine ⟨by simp [callFunc, hfn, hname, hb], ?_⟩
                    refine calls_of_wp hfn hb ?_
                    have hvl := hva.len
                    have hnt : fn.params.size + fn.nfree = vs.length := by rw [hvl, hlen]
                    have hfr : FR w ρ0 S0.heap fn.ntmps (sig slots [] [] (slots.map fun s => args'.getD s .undef)) { tmps := vs.toArray ++ Array.replicate (fn.ntmps - vs.toArray.size) undef, defers := [] } := by
                      refine ⟨by simp; omega, fun t ht => ?_⟩
                      unfold sig
                      simp only [locOf]
                      cases hj : idxOf slots t with
                      | none => exact .undef _
                      | some j =>
                        have hm := idxOf_mem hj
                        simp only [List.getD, List.getElem?_map, hm, Option.map_some, Option.getD_some]
                        by_cases htl : t < vs.length
                        · have h1 : args'[t]? = some (args'[t]'(by omega)) := List.getElem?_eq_getElem (by omega)
                          have h2 : (vs.toArray ++ Array.replicate (fn.ntmps - vs.toArray.size) undef).getD t undef = vs[t] := by
                            rw [Array.getD_eq_getD_getElem?, Array.getElem?_append_left (by simpa using htl)]
                            simp [htl]
                          rw [h1, h2]
                          exact hva.get h1 (List.getElem?_eq_getElem htl)
                        · rw [List.getElem?_eq_none (by omega)]
                          exact .undef _
                    refine code_ok hm ih (run_clean L N d) hsl c lc _ ⟨S0.heap, S0.heap.length⟩ e env' S2 _ w ρ0 _ hlc hex (by simp) hr hfr ?_
                    rintro ex a' w' ⟨ρ', h1, h2, h3, h4, h5, h6⟩
                    obtain ⟨v, h7, h8⟩ := results_ok (P := P) h2 hsl h4 hls hr0
                    have hp := hpost w' ρ' v h2 h3 h8
                    rcases he with rfl | rfl
                    · simp only [exOf] at h1
                      subst h1
                      exact ⟨h5, v, h7, v, rfl, hp⟩
                    · simp only [exOf] at h1
                      subst h1
                      exact ⟨h5, v, h7, v, rfl, hp⟩
                  split at h
                  · rename_i hpure
                    simp only [Bool.and_eq_true] at hpure
                    cases hex : exCode (runF L N d) N lc (slots.map fun s => args'.getD s .undef) ⟨[], 0⟩ with
                    | none => rw [hex] at h; simp at h
                    | some q =>
                      obtain ⟨e, env', S2⟩ := q
                      simp only [hex] at h
                      have hne : (e = .normal ∨ e = .ret) ∧ ∃ r0, resultD env' S2 ls = some r0 ∧ leaveP S r0 S2 = some (r, S', wr) := by
                        cases e with
                        | exit i => simp at h
                        | normal =>
                          refine ⟨.inl rfl, ?_⟩
                          simp only at h
                          split at h
                          · simp at h
                          · rename_i r0 hr0; exact ⟨r0, hr0, h⟩
                        | ret =>
                          refine ⟨.inr rfl, ?_⟩
                          simp only at h
                          split at h
                          · simp at h
                          · rename_i r0 hr0; exact ⟨r0, hr0, h⟩
                      obtain ⟨he, r0, hr0, hleave⟩ := hne
                      unfold leaveP at hleave
                      split at hleave
                      · rename_i r' S3 hl
                        split at hleave
                        · rename_i hfree
                          simp only [Option.some.injEq, Prod.mk.injEq] at hleave
                          obtain ⟨rfl, rfl, rfl⟩ := hleave
                          have hr0' := hide_rel hr
                          refine body (hide ρ S.heap) ⟨[], 0⟩ S2 e env' r0 _ hr0' (VL.of hva.len fun j d v h1 h2 => hide_in (hva.get h1 h2) (List.all_eq_true.1 hpure.2 d (List.mem_of_getElem? h1))) hex he hr0 fun w' ρ' v q1 q2 q3 => ?_
                          obtain ⟨ρ2, p1, p2, p3, p4⟩ := leave_ok (S := ⟨[], 0⟩) hr0' q1 q2 q3 hl
                          obtain ⟨hext, rfl, rfl⟩ := p4 rfl
                          have hst : Stp w ρ S w' ρ S := ⟨rfl, q2.os, q2.tape, q2.output, q2.size, Nat.le_refl _, fun b hb hg => ⟨hext.block b hb, hg⟩, fun b q hi => ⟨cell_block (hext.block b hi.1) q, Nat.lt_of_lt_of_le hi.1 q2.size, hi.2⟩,
                            fun g b o ho hg hb => hext.block b (hr.lt hb), fun g o ho => ⟨o, ho, ⟨Nat.le_refl _, rfl⟩, fun _ => rfl, fun _ => ⟨rfl, rfl, rfl, Nat.le_refl _, fun b cur hb hc => ⟨cur, (hext.block b (hr.lt hb)).trans hc, rfl⟩⟩⟩⟩
                          have hrel : Rel w' ρ S.heap := ⟨hr.inj, fun g b hb => by
                            obtain ⟨o, ho, hk⟩ := hr.obj g b hb
                            exact ⟨o, ho, hk.mono hst (hext.block b (hr.lt hb))⟩, hr.hids hst⟩
                          exact ⟨ρ, hrel, hst, hide_out hrel p3 hfree, fun _ => ⟨hext, rfl, rfl⟩⟩
                        · simp at hleave
                      · simp at hleave
                  · cases hex : exCode (runF L N d) N lc (slots.map fun s => args'.getD s .undef) ⟨S.heap, S.heap.length⟩ with
                    | none => rw [hex] at h; simp at h
                    | some q =>
                      obtain ⟨e, env', S2⟩ := q
                      simp only [hex] at h
                      have hne : (e = .normal ∨ e = .ret) ∧ ∃ r0, resultD env' S2 ls = some r0 ∧ leave (L.raw f) S r0 S2 = some (r, S', wr) := by
                        cases e with
                        | exit i => simp at h
                        | normal =>
                          refine ⟨.inl rfl, ?_⟩
                          simp only at h
                          split at h
                          · simp at h
                          · rename_i r0 hr0; exact ⟨r0, hr0, h⟩
                        | ret =>
                          refine ⟨.inr rfl, ?_⟩
                          simp only at h
                          split at h
                          · simp at h
                          · rename_i r0 hr0; exact ⟨r0, hr0, h⟩
                      obtain ⟨he, r0, hr0, hleave⟩ := hne
                      exact body ρ S S2 e env' r0 _ hr hva hex he hr0 fun w' ρ' v q1 q2 q3 => leave_ok hr q1 q2 q3 hleave
                · simp at h
            · simp at hlow
        · simp at hlow
end Go.Proofs.YtabgobmeibjeeaaGreatDoor

namespace Go.Proofs.YtabgobmeibjeeaaGreatDoor
set_option linter.unusedVariables false
set_option linter.unusedSimpArgs false

/-- rounds of a loop that the machine allows -/
def NN : Nat := 18446744073709551616
section
variable {call : CallF}
/-- a piece of code runs, and what is asked behind it holds -/
def CW (call : CallF) (c : LCode) (Q : LExit → List D → St → Prop) (env : List D) (S : St) : Prop :=
  ∃ e env' S', exCode call NN c env S = some (e, env', S') ∧ Q e env' S'
def OW (call : CallF) (ops : List LOper) (vals env : List D) (S : St) (K : List D → St → Prop) : Prop :=
  ∃ vals' S', exOps call ops vals env S = some (vals', S') ∧ K vals' S'
/-- operations of a region that draws its order -/
def DW (call : CallF) (n : Nat) (news : List (TypeId × List D)) (ops : List LOper) (fps : List FP) (vals env : List D) (S : St) (K : List D → St → Prop) : Prop :=
  ∃ vals' S', exDrw call n news ops fps vals env S = some (vals', S') ∧ K vals' S'

def SeqK (call : CallF) (b : LCode) (Q : LExit → List D → St → Prop) : LExit → List D → St → Prop
  | .normal, env, S => CW call b Q env S
  | e, env, S => Q e env S
def BlkK (i : Nat) (Q : LExit → List D → St → Prop) : LExit → List D → St → Prop
  | .exit j, env, S => if j = i then Q .normal env S else Q (.exit j) env S
  | e, env, S => Q e env S
variable {Q : LExit → List D → St → Prop} {env : List D} {S : St}

theorem cw_skip (h : Q .normal env S) : CW call .skip Q env S := ⟨_, _, _, rfl, h⟩
theorem cw_ret (h : Q .ret env S) : CW call .ret Q env S := ⟨_, _, _, rfl, h⟩
theorem cw_exit {i : Nat} (h : Q (.exit i) env S) : CW call (.exit i) Q env S := ⟨_, _, _, rfl, h⟩
theorem cw_seq {a b : LCode} (h : CW call a (SeqK call b Q) env S) : CW call (.seq a b) Q env S := by
  obtain ⟨e, env', S', h1, h2⟩ := h
  cases e with
  | normal =>
    obtain ⟨e2, env2, S2, h3, h4⟩ := h2
    exact ⟨e2, env2, S2, by simp only [exCode, h1]; exact h3, h4⟩
  | ret => exact ⟨.ret, env', S', by simp only [exCode, h1], h2⟩
  | exit i => exact ⟨.exit i, env', S', by simp only [exCode, h1], h2⟩
theorem cw_block {i : Nat} {c : LCode} (h : CW call c (BlkK i Q) env S) : CW call (.block i c) Q env S := by
  obtain ⟨e, env', S', h1, h2⟩ := h
  cases e with
  | normal => exact ⟨.normal, env', S', by simp only [exCode, h1], h2⟩
  | ret => exact ⟨.ret, env', S', by simp only [exCode, h1], h2⟩
  | exit j =>
    by_cases hj : j = i
    · exact ⟨.normal, env', S', by simp only [exCode, h1, hj, if_true], by simpa [BlkK, hj] using h2⟩
    · exact ⟨.exit j, env', S', by simp only [exCode, h1, hj, if_false], by simpa [BlkK, hj] using h2⟩
theorem cw_true {c : LOpd} {a b : LCode} (hc : opd [] env c = .bool true) (h : CW call a Q env S) : CW call (.cond c a b) Q env S := by
  obtain ⟨e, env', S', h1, h2⟩ := h
  exact ⟨e, env', S', by simp only [exCode, hc]; exact h1, h2⟩
theorem cw_false {c : LOpd} {a b : LCode} (hc : opd [] env c = .bool false) (h : CW call b Q env S) : CW call (.cond c a b) Q env S := by
  obtain ⟨e, env', S', h1, h2⟩ := h
  exact ⟨e, env', S', by simp only [exCode, hc]; exact h1, h2⟩
theorem cw_cond {c : LOpd} {a b : LCode} {t : Bool} (hc : opd [] env c = .bool t) (ht : t = true → CW call a Q env S) (hf : t = false → CW call b Q env S) : CW call (.cond c a b) Q env S := by
  cases t with
  | true => exact cw_true hc (ht rfl)
  | false => exact cw_false hc (hf rfl)
theorem cw_region {ops : List LOper} {exps : List (Nat × Nat)} (h : OW call ops [] env S (fun vals S' => Q .normal (exports exps vals env) S')) : CW call (.region ops exps) Q env S := by
  obtain ⟨vals, S', h1, h2⟩ := h
  exact ⟨_, _, _, by simp only [exCode, h1], h2⟩
theorem cw_drawn {ops : List LOper} {exps : List (Nat × Nat)} {news : List (TypeId × List D)} {tl : List D} {S0 : St} (ht : newsVals S.heap.length news.length = tl) (hS : (⟨S.heap ++ news.map newsObj, S.low⟩ : St) = S0) (h : DW call S.heap.length news ops [] tl env S0 (fun vals S' => Q .normal (exports exps vals env) S')) : CW call (.drawn ops exps news) Q env S := by
  subst ht hS
  obtain ⟨vals, S', h1, h2⟩ := h
  exact ⟨_, _, _, by simp only [exCode, h1], h2⟩
theorem cw_mono {c : LCode} {Q' : LExit → List D → St → Prop} (h : CW call c Q env S) (hq : ∀ e env' S', Q e env' S' → Q' e env' S') : CW call c Q' env S := by
  obtain ⟨e, env', S', h1, h2⟩ := h
  exact ⟨e, env', S', h1, hq _ _ _ h2⟩

variable {vals : List D} {K : List D → St → Prop} {os : List LOper} {l : LOp} {args : List LOpd} {od : List Bool} {ho : Option Nat}
theorem ow_nil (h : K vals S) : OW call [] vals env S K := ⟨_, _, rfl, h⟩
theorem ow_op {r : D} {S' : St} {wr : Bool} (hx : exOp call l (args.map (opd vals env)) S = some (r, S', wr)) (h : OW call os (r :: vals) env S' K) : OW call (⟨l, args, none, od, ho⟩ :: os) vals env S K := by
  obtain ⟨vals', S2, h1, h2⟩ := h
  refine ⟨vals', S2, ?_, h2⟩
  simp only [exOps, onG, hx]
  exact h1
theorem exOp_pop {r : D} (hl : l.loud = false) (hx : pop l (args.map (opd vals env)) = some r) : exOp call l (args.map (opd vals env)) S = some (r, S, false) := by
  have : exOp call l (args.map (opd vals env)) S = aop l (args.map (opd vals env)) S := by cases l <;> first | rfl | (simp [LOp.loud] at hl; done)
  rw [this]
  simp [aop, hl, hx]
/-- an operation on values -/
theorem ow_pop {r : D} (hl : l.loud = false) (hx : pop l (args.map (opd vals env)) = some r) (h : OW call os (r :: vals) env S K) : OW call (⟨l, args, none, od, ho⟩ :: os) vals env S K := ow_op (exOp_pop hl hx) h
theorem ow_on {d : Nat} {b : Bool} (hg : vals.getD d .undef = .bool b) (h : OW call (⟨l, args, none, od, ho⟩ :: os) vals env S K) : OW call (⟨l, args, some (d, b), od, ho⟩ :: os) vals env S K := by
  obtain ⟨vals', S2, h1, h2⟩ := h
  refine ⟨vals', S2, ?_, h2⟩
  simp only [exOps, onG, hg, beq_self_eq_true] at h1 ⊢
  exact h1
theorem ow_off {d : Nat} {b b' : Bool} (hg : vals.getD d .undef = .bool b') (hb : (b' == b) = false) (h : OW call os (.skip :: vals) env S K) : OW call (⟨l, args, some (d, b), od, ho⟩ :: os) vals env S K := by
  obtain ⟨vals', S2, h1, h2⟩ := h
  refine ⟨vals', S2, ?_, h2⟩
  simp only [exOps, onG, hg, hb]
  exact h1
theorem set_getD {vals : List D} {d : Nat} {x : D} (h : vals.getD d .undef = x) (hx : x ≠ .undef) : vals.set d x = vals := by
  induction vals generalizing d with
  | nil => simp at h; exact (hx h.symm).elim
  | cons a l ih =>
    cases d with
    | zero => simp at h; simp [h]
    | succ d => simp at h; simp; exact ih (by simpa using h)
/-- a test that guards what comes is known from here on -/
theorem ow_split {ops : List LOper} {vt vf : List D} (d : Nat) {b : Bool} (hg : vals.getD d .undef = .bool b) (ht : vals.set d (.bool true) = vt) (hf : vals.set d (.bool false) = vf) (h1 : b = true → OW call ops vt env S K) (h2 : b = false → OW call ops vf env S K) : OW call ops vals env S K := by
  cases b with
  | true => rw [← set_getD hg (by simp)]; rw [ht]; exact h1 rfl
  | false => rw [← set_getD hg (by simp)]; rw [hf]; exact h2 rfl

variable {n : Nat} {news : List (TypeId × List D)} {fps : List FP}
theorem dw_split {ops : List LOper} {vt vf : List D} (d : Nat) {b : Bool} (hg : vals.getD d .undef = .bool b) (ht : vals.set d (.bool true) = vt) (hf : vals.set d (.bool false) = vf) (h1 : b = true → DW call n news ops fps vt env S K) (h2 : b = false → DW call n news ops fps vf env S K) : DW call n news ops fps vals env S K := by
  cases b with
  | true => rw [← set_getD hg (by simp)]; rw [ht]; exact h1 rfl
  | false => rw [← set_getD hg (by simp)]; rw [hf]; exact h2 rfl
theorem dw_nil (h : K vals S) : DW call n news [] fps vals env S K := ⟨_, _, rfl, h⟩
theorem dw_op {r : D} {S' : St} {wr : Bool} {fp : FP} (hx : exOp call l (args.map (opd vals env)) S = some (r, S', wr)) (hf : fpHere n ⟨l, args, none, od, ho⟩ (args.map (opd vals env)) r wr = fp) (hok : okHere n news ⟨l, args, none, od, ho⟩ fps fp S' = true) (h : DW call n news os (fp :: fps) (r :: vals) env S' K) : DW call n news (⟨l, args, none, od, ho⟩ :: os) fps vals env S K := by
  obtain ⟨vals', S2, h1, h2⟩ := h
  subst hf
  refine ⟨vals', S2, ?_, h2⟩
  simp only [exDrw, onG, hx, hok, if_true]
  exact h1
theorem okFP_quiet : ∀ (bs : List Bool) (fs : List FP), bs.length = fs.length → okFP bs fs fpQuiet = true
  | [], [], _ => rfl
  | b :: bs, f :: fs, h => by
    simp only [okFP, Bool.and_eq_true]
    refine ⟨?_, okFP_quiet bs fs (by simpa using h)⟩
    unfold okPair
    split <;> simp_all [fpQuiet, apartW, indep]
  | [], _ :: _, h => by simp at h
  | _ :: _, [], h => by simp at h
/-- an operation on values -/
theorem dw_pop {r : D} (hl : l.loud = false) (hx : pop l (args.map (opd vals env)) = some r) (hn : od.length = fps.length) (h : DW call n news os (fpQuiet :: fps) (r :: vals) env S K) : DW call n news (⟨l, args, none, od, none⟩ :: os) fps vals env S K := by
  have hf : fpOf l (args.map (opd vals env)) r false = fpQuiet := by
    cases l <;> first | rfl | (simp [LOp.loud] at hl; done) | skip
    rename_i st _ _ _ _
    cases st
    · simp [LOp.loud] at hl
    · rfl
  refine dw_op (exOp_pop hl hx) (fp := fpQuiet) hf ?_ h
  simp only [okHere, Bool.and_eq_true]
  exact ⟨okFP_quiet od fps hn, rfl⟩
theorem dw_quiet {r : D} {wr : Bool} {S' : St} (hx : exOp call l (args.map (opd vals env)) S = some (r, S', wr)) (hl : l.loud = false) (hn : od.length = fps.length) (h : DW call n news os (fpQuiet :: fps) (r :: vals) env S' K) : DW call n news (⟨l, args, none, od, none⟩ :: os) fps vals env S K := by
  have : exOp call l (args.map (opd vals env)) S = aop l (args.map (opd vals env)) S := by cases l <;> first | rfl | (simp [LOp.loud] at hl; done)
  rw [this] at hx
  simp only [aop, hl, Bool.false_eq_true, if_false, Option.map_eq_some_iff, Prod.mk.injEq] at hx
  obtain ⟨r', h1, rfl, rfl, rfl⟩ := hx
  exact dw_pop hl h1 hn h
theorem dw_on {d : Nat} {b : Bool} (hg : vals.getD d .undef = .bool b) (h : DW call n news (⟨l, args, none, od, ho⟩ :: os) fps vals env S K) : DW call n news (⟨l, args, some (d, b), od, ho⟩ :: os) fps vals env S K := by
  obtain ⟨vals', S2, h1, h2⟩ := h
  refine ⟨vals', S2, ?_, h2⟩
  simp only [exDrw, onG, hg, beq_self_eq_true] at h1 ⊢
  exact h1
theorem dw_off {d : Nat} {b b' : Bool} (hg : vals.getD d .undef = .bool b') (hb : (b' == b) = false) (h : DW call n news os (fpQuiet :: fps) (.skip :: vals) env S K) : DW call n news (⟨l, args, some (d, b), od, ho⟩ :: os) fps vals env S K := by
  obtain ⟨vals', S2, h1, h2⟩ := h
  refine ⟨vals', S2, ?_, h2⟩
  simp only [exDrw, onG, hg, hb]
  exact h1
/-- behind a round of a loop -/
def LoopK (I : Nat → List D → St → Prop) (n : Nat) (Q : LExit → List D → St → Prop) : LExit → List D → St → Prop
  | .normal, env, S => ∃ m, m < n ∧ I m env S
  | e, env, S => Q e env S
/-- a loop: an invariant I n, where n bounds the rounds that are left -/
theorem cw_loop {c : LCode} (I : Nat → List D → St → Prop) (n : Nat) (hn : n < 18446744073709551616) (h0 : I n env S) (hr : ∀ n env S, I n env S → CW call c (LoopK I n Q) env S) : CW call (.loop c) Q env S := by
  have key : ∀ n k env S, n < k → I n env S → ∃ e env' S', loopN (exCode call NN c) k env S = some (e, env', S') ∧ Q e env' S' := by
    intro n
    induction n using Nat.strongRecOn with
    | _ n ih =>
      intro k env S hk hI
      obtain ⟨e, env1, S1, h1, h2⟩ := hr n env S hI
      obtain ⟨k', rfl⟩ : ∃ k', k = k' + 1 := ⟨k - 1, by omega⟩
      simp only [loopN, h1]
      cases e with
      | normal =>
        obtain ⟨m, hm, hI'⟩ := h2
        exact ih m hm k' env1 S1 (by omega) hI'
      | ret => exact ⟨.ret, env1, S1, rfl, h2⟩
      | exit i => exact ⟨.exit i, env1, S1, rfl, h2⟩
  obtain ⟨e, env', S', h1, h2⟩ := key n NN env S (by unfold NN; exact hn) h0
  exact ⟨e, env', S', by simp only [exCode]; exact h1, h2⟩
end

/-- what is asked behind a function's body -/
def FinK (L : Prg) (f : FuncId) (F : LFunc) (S : St) (x : D × St × Bool) : LExit → List D → St → Prop
  | .exit _, _, _ => False
  | _, env', S2 => ∃ r0, resultD env' S2 F.res = some r0 ∧ leave (L.raw f) S r0 S2 = some x
/-- the same behind a call on the empty heap -/
def FinP (F : LFunc) (r : D) : LExit → List D → St → Prop
  | .exit _, _, _ => False
  | _, env', S2 => ∃ r0, resultD env' S2 F.res = some r0 ∧ leaveP ⟨[], 0⟩ r0 S2 = some (r, ⟨[], 0⟩, false)
theorem leaveP_any {S T : St} {r0 r : D} {S2 : St} (h : leaveP T r0 S2 = some (r, T, false)) : leaveP S r0 S2 = some (r, S, false) := by
  unfold leaveP at h ⊢
  split at h
  · rename_i r' S3 hl
    split at h
    · rename_i hf
      simp only [Option.some.injEq, Prod.mk.injEq] at h
      obtain ⟨rfl, _⟩ := h
      simp [hf]
    · simp at h
  · simp at h
theorem run_at {L : Prg} {d : Nat} {f : FuncId} {F : LFunc} {args args' env0 : List D} {S : St} {x : D × St × Bool} (hF : L.fns f = some F) (ha : (if L.raw f then some args else snapVs S.heap.length S.heap args) = some args') (hl : args'.length = F.nargs) (hp : (L.pure f && args'.all D.freeV) = false) (he : (F.slots.map fun s => args'.getD s .undef) = env0) (hd : 0 < d)
    (hb : ∀ d', d = d' + 1 → CW (runF L NN d') F.body (FinK L f F S x) env0 ⟨S.heap, S.heap.length⟩) : runF L NN d f args S = some x := by
  subst he
  obtain ⟨d', rfl⟩ : ∃ d', d = d' + 1 := ⟨d - 1, by omega⟩
  obtain ⟨e, env', S2, h1, h2⟩ := hb d' rfl
  simp only [runF, hF, ha, hl, hp, ne_eq, not_true_eq_false, if_false, Bool.false_eq_true, h1]
  cases e with
  | exit i => exact h2.elim
  | normal =>
    obtain ⟨r0, h3, h4⟩ := h2
    simp only [h3]
    exact h4
  | ret =>
    obtain ⟨r0, h3, h4⟩ := h2
    simp only [h3]
    exact h4
/-- a pure function -/
theorem run_pure {L : Prg} {d : Nat} {f : FuncId} {F : LFunc} {args args' env0 : List D} {S : St} {r : D} (hF : L.fns f = some F) (ha : (if L.raw f then some args else snapVs S.heap.length S.heap args) = some args') (hl : args'.length = F.nargs) (hp : (L.pure f && args'.all D.freeV) = true) (he : (F.slots.map fun s => args'.getD s .undef) = env0) (hd : 0 < d)
    (hb : ∀ d', d = d' + 1 → CW (runF L NN d') F.body (FinP F r) env0 ⟨[], 0⟩) : runF L NN d f args S = some (r, S, false) := by
  subst he
  obtain ⟨d', rfl⟩ : ∃ d', d = d' + 1 := ⟨d - 1, by omega⟩
  obtain ⟨e, env', S2, h1, h2⟩ := hb d' rfl
  simp only [runF, hF, ha, hl, hp, ne_eq, not_true_eq_false, if_false, if_true, h1]
  cases e with
  | exit i => exact h2.elim
  | normal =>
    obtain ⟨r0, h3, h4⟩ := h2
    simp only [h3]
    exact leaveP_any h4
  | ret =>
    obtain ⟨r0, h3, h4⟩ := h2
    simp only [h3]
    exact leaveP_any h4
section
variable {call : CallF} {b : LCode} {Q : LExit → List D → St → Prop} {env env' : List D} {S : St} {i j : Nat}
theorem sk_n (he : env' = env) (h : CW call b Q env S) : SeqK call b Q .normal env' S := he ▸ h
theorem sk_r (h : Q .ret env S) : SeqK call b Q .ret env S := h
theorem sk_e (h : Q (.exit i) env S) : SeqK call b Q (.exit i) env S := h
theorem bk_n (h : Q .normal env S) : BlkK i Q .normal env S := h
theorem bk_r (h : Q .ret env S) : BlkK i Q .ret env S := h
theorem bk_e (h : Q .normal env S) : BlkK i Q (.exit i) env S := by simpa [BlkK] using h
theorem lk_n {I : Nat → List D → St → Prop} {n : Nat} (he : env' = env) (h : ∃ m, m < n ∧ I m env S) : LoopK I n Q .normal env' S := he ▸ h
theorem lk_r {I : Nat → List D → St → Prop} {n : Nat} (h : Q .ret env S) : LoopK I n Q .ret env S := h
theorem lk_e {I : Nat → List D → St → Prop} {n : Nat} (h : Q (.exit i) env S) : LoopK I n Q (.exit i) env S := h
theorem bk_o (hj : (j == i) = false) (h : Q (.exit j) env S) : BlkK i Q (.exit j) env S := by
  have : ¬ j = i := by simpa using hj
  simpa [BlkK, this] using h
end
/-! the heap behind known objects -/
theorem at_app {α : Type} (H L : List α) (k : Nat) : (H ++ L)[H.length + k]? = L[k]? := by
  rw [List.getElem?_append_right (by omega), Nat.add_sub_cancel_left]
theorem at_app0 {α : Type} (H L : List α) : (H ++ L)[H.length]? = L[0]? := at_app H L 0
theorem set_app {α : Type} (H L : List α) (k : Nat) (x : α) : (H ++ L).set (H.length + k) x = H ++ L.set k x := by
  rw [List.set_append, if_neg (by omega), Nat.add_sub_cancel_left]
theorem set_app0 {α : Type} (H L : List α) (x : α) : (H ++ L).set H.length x = H ++ L.set 0 x := set_app H L 0 x
theorem min_low (n k : Nat) : min n (n + k) = n := by omega
end Go.Proofs.YtabgobmeibjeeaaGreatDoor

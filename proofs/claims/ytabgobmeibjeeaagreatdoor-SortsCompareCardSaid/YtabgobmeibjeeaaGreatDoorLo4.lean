/- Proved here: the abstract machine's operations on values are the model's; no condition. -/
import Derived.Test.YtabgobmeibjeeaaGreatDoorLo3
namespace Go.Proofs.YtabgobmeibjeeaaGreatDoor
open Go.RowKit
set_option linter.unusedVariables false
set_option linter.unusedSimpArgs false

section
variable {P : Program} {w : World} {ρ : RMap} {H : List AObj}

theorem run_ok_bind {α β : Type} {s : Sem α} {f : α → Sem β} {a : α} {w' : World} (h : s.run P w = .ok a w') : (s >>= f).run P w = (f a).run P w' := by
  rw [Sem.run_bind, h, Result.andThen_ok]

theorem bin_ok {op : BinOp} {d1 d2 r : D} {v1 v2 : Value} {t : TypeId} {x y : Operand} (h1 : VR w ρ H d1 v1) (h2 : VR w ρ H d2 v2) (h : binD op d1 d2 = some r) :
    ∃ v, (do eqGuard op t x y v1 v2; binOp op t v1 v2).run P w = .ok v w ∧ VR w ρ H r v := by
  unfold binD at h
  split at h
  all_goals first
    | (cases h1; cases h2; split at h <;> first
        | (simp only [Option.some.injEq] at h; subst h; rename_i hk; first
            | (subst hk; refine ⟨_, ?_, .int _ _⟩; simp [eqGuard, binOp, Op.intArith, Op.intBits, Op.shift, Sem.run_bind]; done)
            | (subst hk; refine ⟨_, ?_, .bool _⟩; simp [eqGuard, binOp, Op.intCmp, Sem.run_bind]; done)
            | (obtain ⟨rfl, h0⟩ := hk; refine ⟨_, ?_, .int _ _⟩; simp [eqGuard, binOp, Op.intDiv, h0, Sem.run_bind]; done)
            | (refine ⟨_, ?_, .int _ _⟩; simp [eqGuard, binOp, Op.shift, hk, Sem.run_bind]; done)
            | (refine ⟨_, ?_, .str _⟩; simp [eqGuard, binOp, Op.stringOp, hk, Sem.run_bind]; done))
        | (simp at h; done))
    | (cases h1; cases h2; simp only [Option.some.injEq] at h; subst h; refine ⟨_, ?_, .bool _⟩; simp [eqGuard, binOp, Op.stringOp, Sem.run_bind]; done)
    | (simp at h; done)
    | (cases h1; cases h2; split at h
       · simp at h
       · rename_i hk
         simp only [Option.some.injEq] at h
         subst h
         refine ⟨_, ?_, .str _⟩
         simp only [eqGuard, binOp, Op.stringOp, if_neg hk, Sem.run_bind]
         simp)

theorem un_ok {op : UnOp} {d r : D} {v1 : Value} (h1 : VR w ρ H d v1) (h : unD op d = some r) : ∃ v, (Op.unary op v1).run P w = .ok v w ∧ VR w ρ H r v := by
  unfold unD at h
  split at h
  · cases h1
    simp only [Option.some.injEq] at h
    subst h
    exact ⟨_, by simp [Op.unary], .bool _⟩
  · cases h1
    simp only [Option.some.injEq] at h
    subst h
    exact ⟨_, by simp [Op.unary, Op.intArith], .int _ _⟩
  · simp at h
theorem strT_iff {t : TypeId} : strT P t = true ↔ P.underlying t = some .string := by
  unfold strT
  split
  · rename_i h; simp [h]
  · rename_i h; constructor
    · intro h'; simp at h'
    · intro h'; exact absurd h' h
theorem sliceT_iff {t e : TypeId} : sliceT P t = some e ↔ P.underlying t = some (.slice e) := by
  unfold sliceT
  split
  · rename_i e' h; simp [h]
  · rename_i h; constructor
    · intro h'; simp at h'
    · intro h'; exact absurd h' (h e)
theorem arrayT_iff {t e : TypeId} {n : Nat} : arrayT P t = some (n, e) ↔ P.underlying t = some (.array n e) := by
  unfold arrayT
  split
  · rename_i e' h; simp [h]
  · rename_i h; constructor
    · intro h'; simp at h'
    · intro h'; exact absurd h' (h n e)
theorem sizeT_some {t : TypeId} {n : Nat} (h : sizeT P t = some n) : ∃ i d, P.info? t = some i ∧ P.underlying t = some d ∧ i.size = n ∧ 0 < n := by
  unfold sizeT at h
  split at h
  · rename_i i d hi hd
    split at h
    · simp at h
    · rename_i h0
      simp only [Option.some.injEq] at h
      exact ⟨i, d, hi, hd, h, by omega⟩
  · simp at h
theorem run_sizeOf {t : TypeId} {n : Nat} (h : sizeT P t = some n) : (sizeOf t).run P w = .ok n w := by
  obtain ⟨i, d, hi, hd, hs, _⟩ := sizeT_some h
  simp [sizeOf, typeInfo, hi, hs]
theorem run_isAgg {t : TypeId} {n : Nat} (h : sizeT P t = some n) : (isAgg t).run P w = .ok (aggT P t) w := by
  obtain ⟨i, d, hi, hd, hs, _⟩ := sizeT_some h
  simp only [isAgg, aggT, Sem.run_bind, run_underlying hd, Result.andThen_ok, hd]
  cases d <;> rfl
theorem len_ok {st : Bool} {d r : D} {v1 : Value} {t ty : TypeId} (ht : (st = true ∧ P.underlying t = some .string) ∨ (st = false ∧ ∃ e, P.underlying t = some (.slice e))) (h1 : VR w ρ H d v1) (h : lenD st d = some r) : ∃ v, (Builtin.len_ #[t] ty #[v1]).run P w = .ok v w ∧ VR w ρ H r v := by
  rcases ht with ⟨rfl, ht⟩ | ⟨rfl, e, ht⟩
  · unfold lenD at h
    split at h <;> first | (simp at h; done) | skip
    · cases h1
      simp only [Option.some.injEq] at h; subst h
      exact ⟨_, by simp [Builtin.len_, run_underlying ht, goInt], .int _ _⟩
    all_goals (rename_i hb; exact absurd hb (by simp))
  · unfold lenD at h
    split at h <;> first | (simp at h; done) | skip
    · rename_i hb; exact absurd hb (by simp)
    all_goals
      cases h1
      simp only [Option.some.injEq] at h; subst h
      subst_vars
      exact ⟨_, by simp [Builtin.len_, run_underlying ht, goInt], .int _ _⟩
theorem cap_ok {d r : D} {v1 : Value} {t ty e : TypeId} (ht : P.underlying t = some (.slice e)) (h1 : VR w ρ H d v1) (h : capD d = some r) : ∃ v, (Builtin.cap_ #[t] ty #[v1]).run P w = .ok v w ∧ VR w ρ H r v := by
  unfold capD at h
  split at h
  · cases h1
    simp only [Option.some.injEq] at h; subst h
    exact ⟨_, by simp [Builtin.cap_, run_underlying ht, goInt], .int _ _⟩
  · cases h1 with
    | sl _ _ _ A n c hn hnc hcap =>
      simp only [Option.some.injEq] at h; subst h
      have := hcap _ rfl
      subst this
      exact ⟨_, by simp [Builtin.cap_, run_underlying ht, goInt], .int _ _⟩
  · cases h1 with
    | msl g v lo n _ A c ob hnc hcap =>
      simp only [Option.some.injEq] at h; subst h
      have := hcap _ rfl
      subst this
      exact ⟨_, by simp [Builtin.cap_, run_underlying ht, goInt], .int _ _⟩
  · simp at h
theorem max_ok {d1 d2 r : D} {v1 v2 : Value} {ts : Array TypeId} {t : TypeId} (h1 : VR w ρ H d1 v1) (h2 : VR w ρ H d2 v2) (h : maxD d1 d2 = some r) : ∃ v, (Builtin.max_ ts t #[v1, v2]).run P w = .ok v w ∧ VR w ρ H r v := by
  unfold maxD at h
  split at h
  · cases h1; cases h2
    split at h
    · rename_i hk; subst hk
      simp only [Option.some.injEq] at h; subst h
      exact ⟨_, by simp [Builtin.max_, Builtin.max2], .int _ _⟩
    · simp at h
  · simp at h
theorem min_ok {d1 d2 r : D} {v1 v2 : Value} {ts : Array TypeId} {t : TypeId} (h1 : VR w ρ H d1 v1) (h2 : VR w ρ H d2 v2) (h : minD d1 d2 = some r) : ∃ v, (Builtin.min_ ts t #[v1, v2]).run P w = .ok v w ∧ VR w ρ H r v := by
  unfold minD at h
  split at h
  · cases h1; cases h2
    split at h
    · rename_i hk; subst hk
      simp only [Option.some.injEq] at h; subst h
      exact ⟨_, by simp [Builtin.min_, Builtin.min2], .int _ _⟩
    · simp at h
  · simp at h
theorem extract_ok {ds : List D} {r : D} {v1 : Value} {i : Nat} (h1 : VR w ρ H (.tup ds) v1) (h : ds[i]? = some r) : ∃ v, (Instr.extract v1 i).run P w = .ok v w ∧ VR w ρ H r v := by
  cases h1 with
  | tup _ vs hl hh =>
    have hi : i < vs.length := by rw [hl]; exact lt_of_some h
    exact ⟨vs[i], by simp [Instr.extract, hi], hh i r _ h (List.getElem?_eq_getElem hi)⟩
theorem index_ok {d1 d2 r : D} {v1 v2 : Value} {t : TypeId} (ht : strT P t = true) (h1 : VR w ρ H d1 v1) (h2 : VR w ρ H d2 v2) (h : indexD d1 d2 = some r) : ∃ v, (Instr.index t v1 v2).run P w = .ok v w ∧ VR w ρ H r v := by
  have hu : P.underlying t = some .string := strT_iff.1 ht
  unfold indexD at h
  split at h
  · cases h1; cases h2
    split at h
    · rename_i hk
      simp only [Option.map_eq_some_iff] at h
      obtain ⟨b, hb, rfl⟩ := h
      exact ⟨_, by simp [Instr.index, asIntOf, run_underlying hu, hk, hb], .int _ _⟩
    · simp at h
  · simp at h
end
end Go.Proofs.YtabgobmeibjeeaaGreatDoor

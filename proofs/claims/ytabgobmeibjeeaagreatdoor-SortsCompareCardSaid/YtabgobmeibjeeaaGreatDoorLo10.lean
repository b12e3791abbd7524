/- Proved here: each operation of the abstract machine that is no call does what the model's does; no condition. -/
import Derived.Test.YtabgobmeibjeeaaGreatDoorLo9d
namespace Go.Proofs.YtabgobmeibjeeaaGreatDoor
open Go.RowKit
set_option linter.unusedVariables false
set_option linter.unusedSimpArgs false

section
variable {P : Program} {w : World} {ρ : RMap} {S : St}

/-- what an operation of the model owes to the abstract one -/
def Does (P : Program) (w : World) (ρ : RMap) (S : St) (ev : Operand → Value) (o : Oper) (r : D) (S' : St) (wr : Bool) : Prop :=
  ∃ nx v w', (execOp ev o).run P w = .ok nx w' ∧ (nx = .value v ∨ nx = .skip ∧ v = undef) ∧ OpPost w ρ S r S' wr v w'

theorem Does.val {ev : Operand → Value} {o : Oper} {r : D} {S' : St} {wr : Bool} {s : Sem Value} (he : execOp ev o = (do pure (.value (← s)))) (h : ∃ v w', s.run P w = .ok v w' ∧ OpPost w ρ S r S' wr v w') : Does P w ρ S ev o r S' wr := by
  obtain ⟨v, w', h1, h2⟩ := h
  exact ⟨.value v, v, w', by rw [he, run_ok_bind h1]; rfl, .inl rfl, h2⟩
theorem Does.pure {ev : Operand → Value} {o : Oper} {r : D} {s : Sem Value} (hr : Rel w ρ S.heap) (he : execOp ev o = (do pure (.value (← s)))) (h : ∃ v, s.run P w = .ok v w ∧ VR w ρ S.heap r v) : Does P w ρ S ev o r S false := by
  obtain ⟨v, h1, h2⟩ := h
  exact Does.val he ⟨v, w, h1, OpPost.pure hr h2⟩
theorem eqb_ok {neg a b : Bool} {op : BinOp} {t : TypeId} {x y : Operand} {H : List AObj} (ho : op = .eql ∨ op = .neq) (hn : neg = decide (op = .neq)) (ht : P.underlying t = some .bool) :
    ∃ v, (do eqGuard op t x y (.bool a) (.bool b); binOp op t (.bool a) (.bool b)).run P w = .ok v w ∧ VR w ρ H (.bool ((a == b) != neg)) v := by
  have h : ∀ d : Nat, (Op.equalIn (d + 1) t (.bool a) (.bool b)).run P w = .ok (a == b) w := fun d => by simp [Op.equalIn, run_underlying ht]
  rcases ho with rfl | rfl
  · subst hn
    refine ⟨.bool (a == b), ?_, by cases a <;> cases b <;> exact .bool _⟩
    simp only [eqGuard, binOp]
    simp [Op.equal, Op.maxDepth, h 9999]
  · subst hn
    refine ⟨.bool !(a == b), ?_, by cases a <;> cases b <;> exact .bool _⟩
    simp only [eqGuard, binOp]
    simp [Op.equal, Op.maxDepth, h 9999]
theorem fold_ok {f : D → D → Option D} {g : Value → Value → Sem Value} (hfg : ∀ {d1 d2 r : D} {v1 v2 : Value}, VR w ρ S.heap d1 v1 → VR w ρ S.heap d2 v2 → f d1 d2 = some r → ∃ v, (g v1 v2).run P w = .ok v w ∧ VR w ρ S.heap r v) :
    ∀ {ds : List D} {vs : List Value} {d r : D} {v : Value}, VR w ρ S.heap d v → VL w ρ S.heap ds vs → foldD f d ds = some r → ∃ u, (vs.foldlM g v).run P w = .ok u w ∧ VR w ρ S.heap r u := by
  intro ds
  induction ds with
  | nil =>
    intro vs d r v hd hv h
    cases hv
    simp only [foldD, Option.some.injEq] at h
    subst h
    exact ⟨v, rfl, hd⟩
  | cons a ds ih =>
    intro vs d r v hd hv h
    cases hv with | cons h1 t1 =>
    simp only [foldD] at h
    split at h
    · rename_i z hz
      obtain ⟨u, h3, h4⟩ := hfg hd h1 hz
      obtain ⟨u2, h5, h6⟩ := ih h4 t1 h
      refine ⟨u2, ?_, h6⟩
      rw [List.foldlM_cons, run_ok_bind h3]
      exact h5
    · simp at h
theorem max2_ok {d1 d2 r : D} {v1 v2 : Value} (h1 : VR w ρ S.heap d1 v1) (h2 : VR w ρ S.heap d2 v2) (h : maxD d1 d2 = some r) : ∃ v, (Builtin.max2 v1 v2).run P w = .ok v w ∧ VR w ρ S.heap r v := by
  unfold maxD at h
  split at h
  · split at h
    · rename_i hk
      subst hk
      simp only [Option.some.injEq] at h
      subst h
      cases h1; cases h2
      exact ⟨_, rfl, .int _ _⟩
    · simp at h
  · simp at h
theorem min2_ok {d1 d2 r : D} {v1 v2 : Value} (h1 : VR w ρ S.heap d1 v1) (h2 : VR w ρ S.heap d2 v2) (h : minD d1 d2 = some r) : ∃ v, (Builtin.min2 v1 v2).run P w = .ok v w ∧ VR w ρ S.heap r v := by
  unfold minD at h
  split at h
  · split at h
    · rename_i hk
      subst hk
      simp only [Option.some.injEq] at h
      subst h
      cases h1; cases h2
      exact ⟨_, rfl, .int _ _⟩
    · simp at h
  · simp at h
theorem maxs_ok {ts : Array TypeId} {t : TypeId} {ds : List D} {vs : List Value} {r : D} (hv : VL w ρ S.heap ds vs) (h : pop .max ds = some r) : ∃ v, (Builtin.max_ ts t vs.toArray).run P w = .ok v w ∧ VR w ρ S.heap r v := by
  cases hv with
  | nil => simp [pop] at h
  | cons h1 t1 => exact fold_ok (fun a b c => max2_ok a b c) h1 t1 h
theorem mins_ok {ts : Array TypeId} {t : TypeId} {ds : List D} {vs : List Value} {r : D} (hv : VL w ρ S.heap ds vs) (h : pop .min ds = some r) : ∃ v, (Builtin.min_ ts t vs.toArray).run P w = .ok v w ∧ VR w ρ S.heap r v := by
  cases hv with
  | nil => simp [pop] at h
  | cons h1 t1 => exact fold_ok (fun a b c => min2_ok a b c) h1 t1 h
theorem boolT_iff {t : TypeId} : boolT P t = true ↔ P.underlying t = some .bool := by
  unfold boolT
  split
  · rename_i h; simp [h]
  · rename_i h; constructor
    · intro h'; simp at h'
    · intro h'; exact absurd h' h
theorem intT_iff {t : TypeId} {k : IntKind} : intT P t = some k ↔ P.underlying t = some (.int k) := by
  unfold intT
  split
  · rename_i k' h; simp [h]
  · rename_i h; constructor
    · intro h'; simp at h'
    · intro h'; exact absurd h' (h k)
theorem mapT_iff {t k e : TypeId} : mapT P t = some (k, e) ↔ P.underlying t = some (.map k e) := by
  unfold mapT
  split
  · rename_i k' e' h; simp [h]
  · rename_i h; constructor
    · intro h'; simp at h'
    · intro h'; exact absurd h' (h k e)
theorem fieldT_some {s : TypeId} {k : Nat} {f : Field} (h : fieldT P s k = some f) : ∃ fs, P.underlying s = some (.struct fs) ∧ fs[k]? = some f := by
  unfold fieldT at h
  split at h
  · rename_i fs hu; exact ⟨fs, hu, h⟩
  · simp at h
theorem parts_zip (ps : Array (Nat × Operand)) (ev : Operand → Value) : (ps.map fun (i, x) => (i, ev x)) = ((ps.toList.map (·.1)).zip ((ps.toList.map (·.2)).map ev)).toArray := by
  apply Array.ext'
  simp only [Array.toList_map]
  generalize ps.toList = l
  induction l with
  | nil => rfl
  | cons p l ih => simp [ih]
theorem vo_of {H : List AObj} {lo hi mx : Option Operand} {ev : Operand → Value} {xs : List D} {a b m : Option D} (hv : VL w ρ H xs ((opnds [lo, hi, mx]).map ev)) (h : sliceArgs lo.isSome hi.isSome mx.isSome xs = some (a, b, m)) :
    VO w ρ H a (lo.map ev) ∧ VO w ρ H b (hi.map ev) ∧ VO w ρ H m (mx.map ev) ∧ (m.isSome = true → b.isSome = true) := by
  cases lo <;> cases hi <;> cases mx <;> simp only [opnds, List.filterMap_cons, List.filterMap_nil, id, List.map_cons, List.map_nil] at hv <;> simp only [Option.isSome_some, Option.isSome_none] at h
  all_goals
    first
      | (cases hv with
         | nil => simp [sliceArgs] at h; obtain ⟨rfl, rfl, rfl⟩ := h; exact ⟨.none, .none, .none, by simp⟩)
      | (cases hv with
         | cons h1 t1 => cases t1 with
           | nil => simp [sliceArgs] at h <;> (obtain ⟨rfl, rfl, rfl⟩ := h; first | exact ⟨.some h1, .none, .none, by simp⟩ | exact ⟨.none, .some h1, .none, by simp⟩))
      | (cases hv with
         | cons h1 t1 => cases t1 with
           | cons h2 t2 => cases t2 with
             | nil => simp [sliceArgs] at h <;> (obtain ⟨rfl, rfl, rfl⟩ := h; first | exact ⟨.some h1, .some h2, .none, by simp⟩ | exact ⟨.none, .some h1, .some h2, by simp⟩))
      | (cases hv with
         | cons h1 t1 => cases t1 with
           | cons h2 t2 => cases t2 with
             | cons h3 t3 => cases t3 with
               | nil => simp [sliceArgs] at h; obtain ⟨rfl, rfl, rfl⟩ := h; exact ⟨.some h1, .some h2, .some h3, by simp⟩)
      | (simp [sliceArgs] at h; done)

set_option maxHeartbeats 4000000 in
theorem aop_ok {mt : Bool} {o : Oper} {l : LOp} {xs : List Operand} {ev : Operand → Value} {ds : List D} {r : D} {S' : St} {wr : Bool} (hevf : ∀ f, ev (.func f) = .func (.func f) #[] #[]) (hlow : lowOp P mt o = some (l, xs)) (hv : VL w ρ S.heap ds (xs.map ev)) (hr : Rel w ρ S.heap) (h : aop l ds S = some (r, S', wr)) :
    Does P w ρ S ev o r S' wr := by
  obtain ⟨odst, oop, oty, opos, oafter, oguard⟩ := o
  unfold lowOp at hlow
  simp only at hlow
  split at hlow
  case h_1 x =>
    simp only [Option.some.injEq, Prod.mk.injEq] at hlow
    obtain ⟨rfl, rfl⟩ := hlow
    cases hv with | cons h1 t1 => cases t1 with | nil =>
    simp only [aop, LOp.loud, pop, Bool.false_eq_true, if_false, Option.map_some, Option.some.injEq, Prod.mk.injEq] at h
    obtain ⟨rfl, rfl, rfl⟩ := h
    exact ⟨_, _, w, rfl, .inl rfl, OpPost.pure hr h1⟩
  case h_2 x =>
    simp only [Option.some.injEq, Prod.mk.injEq] at hlow
    obtain ⟨rfl, rfl⟩ := hlow
    cases hv with | cons h1 t1 => cases t1 with | nil =>
    simp only [aop, LOp.loud, pop, Bool.false_eq_true, if_false, Option.map_some, Option.some.injEq, Prod.mk.injEq] at h
    obtain ⟨rfl, rfl, rfl⟩ := h
    exact ⟨_, _, w, rfl, .inl rfl, OpPost.pure hr h1⟩
  case h_3 c a b =>
    simp only [Option.some.injEq, Prod.mk.injEq] at hlow
    obtain ⟨rfl, rfl⟩ := hlow
    cases hv with | cons h1 t1 => cases t1 with | cons h2 t2 => cases t2 with | cons h3 t3 => cases t3 with | nil =>
    rename_i d1 d2 d3
    cases d1 <;> simp only [aop, LOp.loud, pop, Bool.false_eq_true, if_false, Option.map_some, Option.map_none, reduceCtorEq] at h
    rename_i bb
    simp only [Option.some.injEq, Prod.mk.injEq] at h
    obtain ⟨rfl, rfl, rfl⟩ := h
    generalize hc : ev c = vc at h1
    cases h1
    cases bb
    · exact ⟨_, _, w, by simp [execOp, hc, asBool], .inl rfl, OpPost.pure hr h3⟩
    · exact ⟨_, _, w, by simp [execOp, hc, asBool], .inl rfl, OpPost.pure hr h2⟩
  case h_4 op t x y ty =>
    have key : l = .bin op → xs = [x, y] → Does P w ρ S ev ⟨odst, .binOp op t x y ty, oty, opos, oafter, oguard⟩ r S' wr := by
      rintro rfl rfl
      cases hv with | cons h1 t1 => cases t1 with | cons h2 t2 => cases t2 with | nil =>
      simp only [aop, LOp.loud, pop, Bool.false_eq_true, if_false, Option.map_eq_some_iff, Prod.mk.injEq] at h
      obtain ⟨r', hb, rfl, rfl, rfl⟩ := h
      exact Does.pure hr rfl (bin_ok h1 h2 hb)
    split at hlow
    · rename_i hop
      split at hlow
      · rename_i hbt
        simp only [Option.some.injEq, Prod.mk.injEq] at hlow
        obtain ⟨rfl, rfl⟩ := hlow
        cases hv with | cons h1 t1 => cases t1 with | cons h2 t2 => cases t2 with | nil =>
        rename_i d1 d2
        cases d1 <;> cases d2 <;> simp only [aop, LOp.loud, pop, Bool.false_eq_true, if_false, Option.map_some, Option.map_none, reduceCtorEq] at h
        simp only [Option.some.injEq, Prod.mk.injEq] at h
        obtain ⟨rfl, rfl, rfl⟩ := h
        generalize hx : ev x = vx at h1
        generalize hy : ev y = vy at h2
        cases h1
        cases h2
        refine Does.pure (s := (do eqGuard op t x y (ev x) (ev y); binOp op t (ev x) (ev y))) hr rfl ?_
        rw [hx, hy]
        exact eqb_ok hop rfl (boolT_iff.1 hbt)
      · split at hlow
        · simp only [Option.some.injEq, Prod.mk.injEq] at hlow
          exact key hlow.1.symm hlow.2.symm
        · split at hlow
          · rename_i fam hfam
            split at hlow
            · split at hlow
              · rename_i e hpt
                simp only [Option.map_eq_some_iff, Prod.mk.injEq] at hlow
                obtain ⟨n, hn, rfl, rfl⟩ := hlow
                cases hv with | cons h1 t1 => cases t1 with | cons h2 t2 => cases t2 with | nil =>
                simp only [aop, LOp.loud, lop, if_true, Option.map_eq_some_iff, Prod.mk.injEq] at h
                obtain ⟨b, hb, rfl, rfl, rfl⟩ := h
                exact Does.pure hr rfl (eqp_ok hop hpt hn h1 h2 hb)
              · simp at hlow
            · rename_i hf1
              split at hlow
              · simp at hlow
              · rename_i hf4
                simp only [Option.some.injEq, Prod.mk.injEq] at hlow
                obtain ⟨rfl, rfl⟩ := hlow
                cases hv with | cons h1 t1 => cases t1 with | cons h2 t2 => cases t2 with | nil =>
                simp only [aop, LOp.loud, pop, Bool.false_eq_true, if_false, Option.map_eq_some_iff, Prod.mk.injEq] at h
                obtain ⟨_, ⟨b, hb, rfl⟩, rfl, rfl, rfl⟩ := h
                refine Does.pure hr rfl (eqnil_ok hop hfam hf1 (fun h4 => ?_) h1 h2 hb)
                cases hcx : isConst x with
                | true => exact .inl rfl
                | false =>
                  cases hcy : isConst y with
                  | true => exact .inr rfl
                  | false => exact absurd ⟨h4, hcx, hcy⟩ hf4
          · split at hlow
            · rename_i hagg
              split at hlow
              · rename_i fams hfl
                simp only [Option.some.injEq, Prod.mk.injEq] at hlow
                obtain ⟨rfl, rfl⟩ := hlow
                cases hv with | cons h1 t1 => cases t1 with | cons h2 t2 => cases t2 with | nil =>
                rename_i d1 d2
                cases d1 <;> cases d2 <;> simp only [aop, LOp.loud, pop, Bool.false_eq_true, if_false, Option.map_some, Option.map_none, reduceCtorEq] at h
                simp only [Option.map_eq_some_iff, Prod.mk.injEq] at h
                obtain ⟨_, ⟨q, hq, rfl⟩, rfl, rfl, rfl⟩ := h
                exact Does.pure (s := (do eqGuard op t x y (ev x) (ev y); binOp op t (ev x) (ev y))) hr rfl (eqs_ok hop rfl hagg hfl h1 h2 hq)
              · simp at hlow
            · simp at hlow
    · simp only [Option.some.injEq, Prod.mk.injEq] at hlow
      exact key hlow.1.symm hlow.2.symm
  case h_5 op t x =>
    simp only [Option.some.injEq, Prod.mk.injEq] at hlow
    obtain ⟨rfl, rfl⟩ := hlow
    cases hv with | cons h1 t1 => cases t1 with | nil =>
    simp only [aop, LOp.loud, pop, Bool.false_eq_true, if_false, Option.map_eq_some_iff, Prod.mk.injEq] at h
    obtain ⟨r', hb, rfl, rfl, rfl⟩ := h
    exact Does.pure hr rfl (un_ok h1 hb)
  case h_6 e =>
    split at hlow
    · rename_i z n hz hn
      split at hlow
      · rename_i hl
        simp only [Option.some.injEq, Prod.mk.injEq] at hlow
        obtain ⟨rfl, rfl⟩ := hlow
        cases hv
        simp only [aop, LOp.loud, lop, if_true, Option.some.injEq, Prod.mk.injEq] at h
        obtain ⟨rfl, rfl, rfl⟩ := h
        exact Does.val rfl (alloc_ok hr hz hn hl)
      · simp at hlow
    · simp at hlow
  case h_7 e x =>
    simp only [Option.map_eq_some_iff, Prod.mk.injEq] at hlow
    obtain ⟨n, hn, rfl, rfl⟩ := hlow
    cases hv with | cons h1 t1 => cases t1 with | nil =>
    simp only [aop, LOp.loud, lop, if_true] at h
    split at h
    · rename_i hc
      simp only [Bool.and_eq_true, beq_iff_eq] at hc
      simp only [Option.some.injEq, Prod.mk.injEq] at h
      obtain ⟨rfl, rfl, rfl⟩ := h
      exact Does.val rfl (box_ok hr hn h1 hc.1 hc.2)
    · simp at h
  case h_8 t ps =>
    split at hlow
    · rename_i z pl hz hpl
      split at hlow
      · rename_i places hp
        simp only [Option.some.injEq, Prod.mk.injEq] at hlow
        obtain ⟨rfl, rfl⟩ := hlow
        simp only [aop, LOp.loud, pop, Bool.false_eq_true, if_false, Option.map_eq_some_iff, Prod.mk.injEq] at h
        obtain ⟨_, ⟨cs, hb, rfl⟩, rfl, rfl, rfl⟩ := h
        refine Does.pure (s := Instr.build t (ps.map fun (i, x) => (i, ev x))) hr rfl ?_
        rw [parts_zip]
        exact build_ok hz hpl hp hv (by simp) hb
      · simp at hlow
    · simp at hlow
  case h_9 t len ps =>
    split at hlow
    · rename_i e he
      split at hlow
      · rename_i z n hz hn
        split at hlow
        · rename_i hl
          simp only [Option.some.injEq, Prod.mk.injEq] at hlow
          obtain ⟨rfl, rfl⟩ := hlow
          simp only [aop, LOp.loud, lop, if_true] at h
          split at h
          · rename_i ys hys
            split at h
            · rename_i rs hrs
              refine Does.val (s := Instr.buildSlice t len (ps.map fun (i, x) => (i, ev x))) rfl ?_
              rw [parts_zip]
              exact bslice_ok hr (sliceT_iff.1 he) hz hn hl.1 hl.2 hv (by simp) hys hrs h
            · simp at h
          · simp at h
        · simp at hlow
      · simp at hlow
    · simp at hlow
  case h_10 t a =>
    simp only [Option.map_eq_some_iff, Prod.mk.injEq] at hlow
    obtain ⟨n, hn, rfl, rfl⟩ := hlow
    cases hv with | cons h1 t1 => cases t1 with | nil =>
    simp only [aop, LOp.loud, lop, if_true, Option.map_eq_some_iff, Prod.mk.injEq] at h
    obtain ⟨r', hb, rfl, rfl, rfl⟩ := h
    exact Does.pure hr rfl (load_ok hr h1 hb hn rfl)
  case h_11 t a x =>
    simp only [Option.map_eq_some_iff, Prod.mk.injEq] at hlow
    obtain ⟨n, hn, rfl, rfl⟩ := hlow
    cases hv with | cons h1 t1 => cases t1 with | cons h2 t2 => cases t2 with | nil =>
    simp only [aop, LOp.loud, lop, if_true, Option.map_eq_some_iff, Prod.mk.injEq] at h
    obtain ⟨S2, hb, rfl, rfl, rfl⟩ := h
    obtain ⟨w', h3, h4⟩ := store_ok hr h1 h2 hn hb
    exact ⟨.skip, undef, w', by simp [execOp, h3], .inr ⟨rfl, rfl⟩, h4⟩
  case h_12 x =>
    simp only [Option.some.injEq, Prod.mk.injEq] at hlow
    obtain ⟨rfl, rfl⟩ := hlow
    cases hv with | cons h1 t1 => cases t1 with | nil =>
    rename_i d1
    generalize hx : ev x = vx at h1
    cases d1 <;> simp only [aop, LOp.loud, pop, Bool.false_eq_true, if_false, Option.map_some, Option.map_none, reduceCtorEq] at h
    all_goals
      simp only [Option.some.injEq, Prod.mk.injEq] at h
      obtain ⟨rfl, rfl, rfl⟩ := h
      have h1' := h1
      cases h1
      exact ⟨_, _, w, by simp [execOp, hx], .inl rfl, OpPost.pure hr h1'⟩
  case h_13 s x f =>
    split at hlow
    · rename_i fd hfd
      simp only [Option.map_eq_some_iff, Prod.mk.injEq] at hlow
      obtain ⟨n, hn, rfl, rfl⟩ := hlow
      cases hv with | cons h1 t1 => cases t1 with | nil =>
      simp only [aop, LOp.loud, pop, Bool.false_eq_true, if_false, Option.map_eq_some_iff, Prod.mk.injEq] at h
      obtain ⟨r', hb, rfl, rfl, rfl⟩ := h
      obtain ⟨fs, hu, hf⟩ := fieldT_some hfd
      exact Does.pure hr rfl (faddr_ok hu hf hn h1 hb)
    · simp at hlow
  case h_14 s x f =>
    split at hlow
    · rename_i fd hfd
      simp only [Option.map_eq_some_iff, Prod.mk.injEq] at hlow
      obtain ⟨n, hn, rfl, rfl⟩ := hlow
      cases hv with | cons h1 t1 => cases t1 with | nil =>
      rename_i d1
      cases d1 <;> simp only [aop, LOp.loud, pop, Bool.false_eq_true, if_false, Option.map_some, Option.map_none, reduceCtorEq] at h
      simp only [Option.map_eq_some_iff, Prod.mk.injEq] at h
      obtain ⟨r', hb, rfl, rfl, rfl⟩ := h
      obtain ⟨fs, hu, hf⟩ := fieldT_some hfd
      generalize hx : ev x = vx at h1
      refine Does.pure (s := Instr.field s (ev x) f) hr rfl ?_
      rw [hx]
      cases h1 with
      | agg _ vs hl hc hh =>
        obtain ⟨v, h2, h3⟩ := part_val (P := P) hl hc hh hb hn rfl
        exact ⟨v, by simp [Instr.field, run_underlying hu, hf, asAgg, h2], h3⟩
    · simp at hlow
  case h_15 t x i =>
    split at hlow
    · rename_i e he
      simp only [Option.map_eq_some_iff, Prod.mk.injEq] at hlow
      obtain ⟨n, hn, rfl, rfl⟩ := hlow
      cases hv with | cons h1 t1 => cases t1 with | cons h2 t2 => cases t2 with | nil =>
      simp only [aop, LOp.loud, lop, if_true, Option.map_eq_some_iff, Prod.mk.injEq] at h
      obtain ⟨r', hb, rfl, rfl, rfl⟩ := h
      exact Does.pure hr rfl (iaddr_ok (sliceT_iff.1 he) hn h1 h2 hb)
    · split at hlow
      · rename_i len e he
        simp only [Option.map_eq_some_iff, Prod.mk.injEq] at hlow
        obtain ⟨n, hn, rfl, rfl⟩ := hlow
        cases hv with | cons h1 t1 => cases t1 with | cons h2 t2 => cases t2 with | nil =>
        simp only [aop, LOp.loud, pop, Bool.false_eq_true, if_false, Option.map_eq_some_iff, Prod.mk.injEq] at h
        obtain ⟨r', hb, rfl, rfl, rfl⟩ := h
        exact Does.pure hr rfl (aaddr_ok (arrayT_iff.1 he) hn h1 h2 hb)
      · simp at hlow
  case h_16 t x i =>
    split at hlow
    · rename_i hs
      simp only [Option.some.injEq, Prod.mk.injEq] at hlow
      obtain ⟨rfl, rfl⟩ := hlow
      cases hv with | cons h1 t1 => cases t1 with | cons h2 t2 => cases t2 with | nil =>
      simp only [aop, LOp.loud, pop, Bool.false_eq_true, if_false, Option.map_eq_some_iff, Prod.mk.injEq] at h
      obtain ⟨r', hb, rfl, rfl, rfl⟩ := h
      exact Does.pure hr rfl (index_ok hs h1 h2 hb)
    · split at hlow
      · rename_i len e he
        simp only [Option.map_eq_some_iff, Prod.mk.injEq] at hlow
        obtain ⟨n, hn, rfl, rfl⟩ := hlow
        cases hv with | cons h1 t1 => cases t1 with | cons h2 t2 => cases t2 with | nil =>
        rename_i d1 d2
        cases d1 <;> cases d2 <;> simp only [aop, LOp.loud, pop, Bool.false_eq_true, if_false, Option.map_some, Option.map_none, reduceCtorEq] at h
        split at h
        · rename_i hj
          simp only [Option.map_eq_some_iff, Prod.mk.injEq] at h
          obtain ⟨r', hb, rfl, rfl, rfl⟩ := h
          generalize hx : ev x = vx at h1
          generalize hi : ev i = vi at h2
          cases h2
          refine Does.pure (s := Instr.index t (ev x) (ev i)) hr rfl ?_
          rw [hx, hi]
          cases h1 with
          | agg _ vs hl hc hh =>
            obtain ⟨v, h2, h3⟩ := part_val (P := P) hl hc hh hb hn rfl
            exact ⟨v, by simp [Instr.index, asIntOf, run_underlying (arrayT_iff.1 he), hj, run_sizeOf hn, h2], h3⟩
        · simp at h
      · simp at hlow
  case h_17 t x lo hi mx =>
    split at hlow
    · rename_i hs
      simp only [Option.some.injEq, Prod.mk.injEq] at hlow
      obtain ⟨rfl, rfl⟩ := hlow
      cases hv with | cons h1 t1 =>
      rename_i d1 ds
      generalize hx : ev x = vx at h1
      cases d1 <;> simp only [aop, LOp.loud, pop, Bool.false_eq_true, if_false, Option.map_some, Option.map_none, reduceCtorEq] at h
      cases h1
      split at h
      · rename_i a b hsa
        simp only [Option.map_eq_some_iff, Prod.mk.injEq] at h
        obtain ⟨_, ⟨⟨l, hh⟩, hb, rfl⟩, rfl, rfl, rfl⟩ := h
        obtain ⟨o1, o2, o3, _⟩ := vo_of t1 hsa
        refine Does.pure (s := Instr.sliceAt t (ev x) (lo.map ev) (hi.map ev) (mx.map ev)) hr rfl ?_
        generalize mx.map ev = vm at o3
        cases o3
        rw [hx]
        exact ⟨_, sliceStr_ok (strT_iff.1 hs) o1 o2 hb, .str _⟩
      · simp at h
    · split at hlow
      · rename_i e he
        simp only [Option.map_eq_some_iff, Prod.mk.injEq] at hlow
        obtain ⟨n, hn, rfl, rfl⟩ := hlow
        cases hv with | cons h1 t1 =>
        simp only [aop, LOp.loud, lop, if_true] at h
        split at h
        · rename_i a b m hsa
          simp only [Option.map_eq_some_iff, Prod.mk.injEq] at h
          obtain ⟨r', hb, rfl, rfl, rfl⟩ := h
          obtain ⟨o1, o2, o3, o4⟩ := vo_of t1 hsa
          exact Does.pure hr rfl (slice_ok (sliceT_iff.1 he) hn h1 o1 o2 o3 o4 hb)
        · simp at h
      · simp at hlow
  case h_18 x i =>
    simp only [Option.some.injEq, Prod.mk.injEq] at hlow
    obtain ⟨rfl, rfl⟩ := hlow
    cases hv with | cons h1 t1 => cases t1 with | nil =>
    rename_i d1
    cases d1 <;> simp only [aop, LOp.loud, pop, Bool.false_eq_true, if_false, Option.map_some, Option.map_none, reduceCtorEq] at h
    simp only [Option.map_eq_some_iff, Prod.mk.injEq] at h
    obtain ⟨r', hb, rfl, rfl, rfl⟩ := h
    exact Does.pure hr rfl (extract_ok h1 hb)
  case h_19 t l c =>
    split at hlow
    · rename_i e he
      split at hlow
      · rename_i i z n hi hz hn
        split at hlow
        · rename_i hl
          simp only [Option.some.injEq, Prod.mk.injEq] at hlow
          obtain ⟨rfl, rfl⟩ := hlow
          cases hv with | cons h1 t1 => cases t1 with | cons h2 t2 => cases t2 with | nil =>
          rename_i d1 d2
          generalize hvl : ev l = vl at h1
          generalize hvc : ev c = vc at h2
          cases d1 <;> cases d2 <;> simp only [aop, LOp.loud, lop, if_true, reduceCtorEq] at h
          cases h1
          cases h2
          refine Does.val (s := Instr.makeSlice t (ev l) (ev c)) rfl ?_
          rw [hvl, hvc]
          exact mkslice_ok hr (sliceT_iff.1 he) hi hn hz hl.1 hl.2 (by cases mt <;> simp) h
        · simp at hlow
      · simp at hlow
    · simp at hlow
  case h_20 t rr =>
    split at hlow
    · rename_i hn
      simp only [Option.some.injEq, Prod.mk.injEq] at hlow
      obtain ⟨rfl, rfl⟩ := hlow
      cases hv
      simp only [aop, LOp.loud, lop, if_true, Option.some.injEq, Prod.mk.injEq] at h
      obtain ⟨rfl, rfl, rfl⟩ := h
      have : rr = none := by simpa using hn
      subst this
      exact Does.val rfl (mkmap_ok hr)
    · simp at hlow
  case h_21 t m k v =>
    split at hlow
    · rename_i kt e hmt
      simp only [Option.map_eq_some_iff, Prod.mk.injEq] at hlow
      obtain ⟨kf, hkf, rfl, rfl⟩ := hlow
      cases hv with | cons h1 t1 => cases t1 with | cons h2 t2 => cases t2 with | cons h3 t3 => cases t3 with | nil =>
      simp only [aop, LOp.loud, lop, if_true, Option.map_eq_some_iff, Prod.mk.injEq] at h
      obtain ⟨S2, hb, rfl, rfl, rfl⟩ := h
      obtain ⟨w', h4, h5⟩ := mapset_ok hr (mapT_iff.1 hmt) hkf h1 h2 h3 hb
      exact ⟨.skip, undef, w', by simp [execOp, h4], .inr ⟨rfl, rfl⟩, h5⟩
    · simp at hlow
  case h_22 t m k v =>
    split at hlow
    · rename_i kt e hmt
      simp only [Option.map_eq_some_iff, Prod.mk.injEq] at hlow
      obtain ⟨kf, hkf, rfl, rfl⟩ := hlow
      cases hv with | cons h1 t1 => cases t1 with | cons h2 t2 => cases t2 with | cons h3 t3 => cases t3 with | nil =>
      simp only [aop, LOp.loud, lop, if_true, Option.map_eq_some_iff, Prod.mk.injEq] at h
      obtain ⟨S2, hb, rfl, rfl, rfl⟩ := h
      obtain ⟨w', h4, h5⟩ := mapset_ok hr (mapT_iff.1 hmt) hkf h1 h2 h3 hb
      exact ⟨.skip, undef, w', by simp [execOp, h4], .inr ⟨rfl, rfl⟩, h5⟩
    · simp at hlow
  case h_23 t m k ok =>
    split at hlow
    · rename_i kt e hmt
      split at hlow
      · rename_i z kf hz hkf
        simp only [Option.some.injEq, Prod.mk.injEq] at hlow
        obtain ⟨rfl, rfl⟩ := hlow
        cases hv with | cons h1 t1 => cases t1 with | cons h2 t2 => cases t2 with | nil =>
        simp only [aop, LOp.loud, lop, if_true, Option.map_eq_some_iff, Prod.mk.injEq] at h
        obtain ⟨r', hb, rfl, rfl, rfl⟩ := h
        exact Does.pure hr rfl (mapget_ok hr (mapT_iff.1 hmt) hkf hz h1 h2 hb)
      · simp at hlow
    · simp at hlow
  case h_24 f first caps =>
    split at hlow
    · rename_i hf
      simp only [Option.some.injEq, Prod.mk.injEq] at hlow
      obtain ⟨rfl, rfl⟩ := hlow
      simp only [aop, LOp.loud, pop, Bool.false_eq_true, if_false, Option.map_some, Option.some.injEq, Prod.mk.injEq] at h
      obtain ⟨rfl, rfl, rfl⟩ := h
      have hf0 : first = #[] := by simpa using hf
      subst hf0
      refine Does.pure (s := Instr.makeFunc (.func f) (#[].map ev) (caps.map ev)) hr rfl ⟨.func (.func f) #[] (caps.map ev), by simp [Instr.makeFunc], ?_⟩
      have := VR.fn (w := w) (ρ := ρ) (H := S.heap) f ds (caps.toList.map ev) hv.len (fun j d v => hv.get)
      have he : (caps.toList.map ev).toArray = caps.map ev := by apply Array.ext'; simp
      rw [he] at this
      exact this
    · simp at hlow
  case h_25 s d x =>
    split at hlow
    · rename_i k1 k hk1 hk
      simp only [Option.some.injEq, Prod.mk.injEq] at hlow
      obtain ⟨rfl, rfl⟩ := hlow
      cases hv with | cons h1 t1 => cases t1 with | nil =>
      rename_i d1
      cases d1 <;> simp only [aop, LOp.loud, pop, Bool.false_eq_true, if_false, Option.map_some, Option.map_none, reduceCtorEq] at h
      simp only [Option.some.injEq, Prod.mk.injEq] at h
      obtain ⟨rfl, rfl, rfl⟩ := h
      generalize hx : ev x = vx at h1
      cases h1
      refine Does.pure (s := convert s d (ev x)) hr rfl ⟨.int k _, ?_, .int _ _⟩
      rw [hx]
      simp [convert, run_underlying (intT_iff.1 hk1), run_underlying (intT_iff.1 hk), Conv.intToInt]
    · split at hlow
      · rename_i hss
        simp only [Bool.and_eq_true] at hss
        simp only [Option.some.injEq, Prod.mk.injEq] at hlow
        obtain ⟨rfl, rfl⟩ := hlow
        cases hv with | cons h1 t1 => cases t1 with | nil =>
        rename_i d1
        cases d1 <;> simp only [aop, LOp.loud, pop, Bool.false_eq_true, if_false, Option.map_some, Option.map_none, reduceCtorEq] at h
        simp only [Option.some.injEq, Prod.mk.injEq] at h
        obtain ⟨rfl, rfl, rfl⟩ := h
        generalize hx : ev x = vx at h1
        cases h1
        refine Does.pure (s := convert s d (ev x)) hr rfl ⟨.string _, ?_, .str _⟩
        rw [hx]
        simp [convert, run_underlying (strT_iff.1 hss.1), run_underlying (strT_iff.1 hss.2)]
      · split at hlow
        · rename_i hud
          split at hlow
          · rename_i t hpt
            simp only [Option.map_eq_some_iff, Prod.mk.injEq] at hlow
            obtain ⟨n, hn, rfl, rfl⟩ := hlow
            cases hv with | cons h1 t1 => cases t1 with | nil =>
            simp only [aop, LOp.loud, lop, if_true, Option.map_eq_some_iff, Prod.mk.injEq] at h
            obtain ⟨r', hb, rfl, rfl, rfl⟩ := h
            obtain ⟨h3, h4⟩ := toU_ok hr hpt hud hn h1 hb
            exact Does.pure (s := convert s d (ev x)) hr rfl ⟨_, h3, h4⟩
          · simp at hlow
        · split at hlow
          · rename_i hus
            split at hlow
            · rename_i t hpt
              simp only [Option.map_eq_some_iff, Prod.mk.injEq] at hlow
              obtain ⟨n, hn, rfl, rfl⟩ := hlow
              cases hv with | cons h1 t1 => cases t1 with | nil =>
              simp only [aop, LOp.loud, lop, if_true, Option.map_eq_some_iff, Prod.mk.injEq] at h
              obtain ⟨r', hb, rfl, rfl, rfl⟩ := h
              obtain ⟨h3, h4⟩ := ofU_ok hr hus hpt hn h1 hb
              exact Does.pure (s := convert s d (ev x)) hr rfl ⟨_, h3, h4⟩
            · simp at hlow
          · split at hlow
            · rename_i e e' hse hde
              split at hlow
              · rename_i hc
                obtain ⟨rfl, hc1, hc2⟩ := hc
                simp only [Option.some.injEq, Prod.mk.injEq] at hlow
                obtain ⟨rfl, rfl⟩ := hlow
                cases hv with | cons h1 t1 => cases t1 with | nil =>
                simp only [aop, LOp.loud, lop, if_true] at h
                exact Does.val (s := convert s s (ev x)) rfl (strsh_ok hr (sliceT_iff.1 hse) (intT_iff.1 hc1) h1 h)
              · simp at hlow
            · rename_i e hse hde
              split at hlow
              · rename_i hc
                simp only [Bool.and_eq_true, decide_eq_true_eq, beq_iff_eq] at hc
                simp only [Option.some.injEq, Prod.mk.injEq] at hlow
                obtain ⟨rfl, rfl⟩ := hlow
                cases hv with | cons h1 t1 => cases t1 with | nil =>
                simp only [aop, LOp.loud, lop, if_true] at h
                split at h
                · rename_i rows hrows
                  simp only [Option.map_eq_some_iff, Prod.mk.injEq] at h
                  obtain ⟨b, hb, rfl, rfl, rfl⟩ := h
                  exact Does.pure hr rfl ⟨_, bstr_ok hr (sliceT_iff.1 hse) (intT_iff.1 hc.1.1) (strT_iff.1 hc.1.2) h1 hrows hb, .str _⟩
                · simp at h
              · simp at hlow
            · rename_i e hse hde
              split at hlow
              · rename_i hc
                simp only [Bool.and_eq_true, decide_eq_true_eq, beq_iff_eq] at hc
                simp only [Option.some.injEq, Prod.mk.injEq] at hlow
                obtain ⟨rfl, rfl⟩ := hlow
                cases hv with | cons h1 t1 => cases t1 with | nil =>
                rename_i d1
                generalize hx : ev x = vx at h1
                cases d1 <;> simp only [aop, LOp.loud, lop, if_true, reduceCtorEq] at h
                cases h1
                simp only [Option.some.injEq, Prod.mk.injEq] at h
                obtain ⟨rfl, rfl, rfl⟩ := h
                refine Does.val (s := convert s d (ev x)) rfl ?_
                rw [hx]
                exact strb_ok hr (strT_iff.1 hc.1.2) (sliceT_iff.1 hde) (intT_iff.1 hc.1.1)
              · simp at hlow
            · simp at hlow
  case h_26 c =>
    obtain ⟨callee, args, argTypes⟩ := c
    have run_bi : ∀ (bi : Builtin) (s : Sem Value), (∀ k, builtin bi argTypes oty k (args.map ev) = (do pure (.value (← s)))) → callee = .builtin bi → (∃ v w', s.run P w = .ok v w' ∧ OpPost w ρ S r S' wr v w') →
        Does P w ρ S ev ⟨odst, .call ⟨callee, args, argTypes⟩, oty, opos, oafter, oguard⟩ r S' wr := by
      rintro bi s hs rfl hh
      refine Does.val (s := s) ?_ hh
      simp only [execOp, resolve, invoke]
      rw [← hs (args.map fun | .const _ => true | _ => false)]
      rfl
    simp only at hlow
    split at hlow
    · -- a function
      rename_i f
      split at hlow
      · rename_i fn hfn
        split at hlow
        · rename_i hbody
          split at hlow
          · rename_i l' hl'
            simp only [Option.some.injEq, Prod.mk.injEq] at hlow
            obtain ⟨rfl, rfl⟩ := hlow
            split at hl'
            · rename_i horig
              have he : (args.toList.map ev).toArray = args.map ev := by apply Array.ext'; simp
              have run_x : ∀ (name : String) (g : Array Value → Sem Value), fn.name = name → (name == "runtime.NumGoroutine") = false → (Extern.allNextRows.lookup name = none ∧ Extern.allGenericRows.lookup name = none ∧ Extern.allTypedRows.lookup name = none ∧ Extern.allRows.lookup name = some g) →
                  (∃ v w', (g (args.map ev)).run P w = .ok v w' ∧ OpPost w ρ S r S' wr v w') → Does P w ρ S ev ⟨odst, .call ⟨.value (.func f), args, argTypes⟩, oty, opos, oafter, oguard⟩ r S' wr := by
                rintro name g h1 h2 h3 ⟨v, w', h4, h5⟩
                refine ⟨.value v, v, w', ?_, .inl rfl, h5⟩
                have hh : (execOp ev ⟨odst, .call ⟨.value (.func f), args, argTypes⟩, oty, opos, oafter, oguard⟩).run P w = (callFunc f (args.map ev)).run P w := by
                  simp [execOp, resolve, Deferred.ofValue, invoke, hevf]
                rw [hh]
                exact run_ext hfn hbody h1 horig h2 h3 h4
              unfold externT at hl'
              split at hl'
              · rename_i hnm
                simp only [Option.some.injEq] at hl'
                subst hl'
                refine run_x _ _ hnm (by decide) ext_idx ?_
                rw [← he]
                generalize args.toList.map ev = vs at hv
                cases hv with
                | nil => simp [aop, LOp.loud, pop] at h
                | cons h1 t1 => cases t1 with
                  | nil => simp [aop, LOp.loud, pop] at h
                  | cons h2 t2 => cases t2 with
                    | cons h3 t3 => simp [aop, LOp.loud, pop] at h
                    | nil =>
                      rename_i d1 v1 d2 v2
                      simp only [aop, LOp.loud, Bool.false_eq_true, if_false, Option.map_eq_some_iff, Prod.mk.injEq] at h
                      obtain ⟨r', hp, rfl, rfl, rfl⟩ := h
                      unfold pop at hp
                      split at hp <;> simp only [reduceCtorEq, List.cons.injEq, and_true, Option.some.injEq] at *
                      rename_i s c heq
                      obtain ⟨rfl, rfl⟩ := heq
                      subst hp
                      cases h1; cases h2
                      exact ⟨_, w, idxb_run, OpPost.pure hr (.int _ _)⟩
              · split at hl'
                · rename_i hnm
                  simp only [Option.some.injEq] at hl'
                  subst hl'
                  refine run_x _ _ hnm (by decide) ext_cnt ?_
                  rw [← he]
                  generalize args.toList.map ev = vs at hv
                  cases hv with
                  | nil => simp [aop, LOp.loud, pop] at h
                  | cons h1 t1 => cases t1 with
                    | nil => simp [aop, LOp.loud, pop] at h
                    | cons h2 t2 => cases t2 with
                      | cons h3 t3 => simp [aop, LOp.loud, pop] at h
                      | nil =>
                        rename_i d1 v1 d2 v2
                        simp only [aop, LOp.loud, Bool.false_eq_true, if_false, Option.map_eq_some_iff, Prod.mk.injEq] at h
                        obtain ⟨r', hp, rfl, rfl, rfl⟩ := h
                        unfold pop at hp
                        split at hp <;> simp only [reduceCtorEq, List.cons.injEq, and_true, Option.some.injEq] at *
                        rename_i s c heq
                        obtain ⟨rfl, rfl⟩ := heq
                        subst hp
                        cases h1; cases h2
                        exact ⟨_, w, cntb_run, OpPost.pure hr (.int _ _)⟩
                · split at hl'
                  · rename_i hnm
                    simp only [Option.some.injEq] at hl'
                    subst hl'
                    refine run_x _ _ hnm (by decide) ext_esc ?_
                    rw [← he]
                    generalize args.toList.map ev = vs at hv
                    cases hv with
                    | nil => simp [aop, LOp.loud, pop] at h
                    | cons h1 t1 => cases t1 with
                      | cons h2 t2 => simp [aop, LOp.loud, pop] at h
                      | nil =>
                        simp only [aop, LOp.loud, pop, Bool.false_eq_true, if_false, Option.map_some, Option.some.injEq, Prod.mk.injEq] at h
                        obtain ⟨rfl, rfl, rfl⟩ := h
                        exact ⟨_, w, rfl, OpPost.pure hr h1⟩
                  · simp at hl'
            · simp at hl'
          · simp at hlow
        · simp only [Option.some.injEq, Prod.mk.injEq] at hlow
          obtain ⟨rfl, rfl⟩ := hlow
          simp [aop, lop, LOp.loud] at h
      · simp at hlow
    · simp only [Option.some.injEq, Prod.mk.injEq] at hlow
      obtain ⟨rfl, rfl⟩ := hlow
      simp [aop, lop, LOp.loud] at h
    · -- len
      split at hlow
      · rename_i x t hargs htys
        have ha : args = #[x] := by apply Array.ext'; simpa using hargs
        have hb : argTypes = #[t] := by apply Array.ext'; simpa using htys
        subst ha hb
        split at hlow
        · rename_i hst
          simp only [Option.some.injEq, Prod.mk.injEq] at hlow
          obtain ⟨rfl, rfl⟩ := hlow
          cases hv with | cons h1 t1 => cases t1 with | nil =>
          simp only [aop, LOp.loud, pop, Bool.false_eq_true, if_false, Option.map_eq_some_iff, Prod.mk.injEq] at h
          obtain ⟨r', hb, rfl, rfl, rfl⟩ := h
          have ht : (strT P t = true ∧ P.underlying t = some .string) ∨ (strT P t = false ∧ ∃ e, P.underlying t = some (.slice e)) := by
            cases hs : strT P t with
            | true => exact .inl ⟨rfl, strT_iff.1 hs⟩
            | false =>
              rw [hs] at hst
              simp only [Bool.false_or] at hst
              obtain ⟨e, he⟩ := Option.isSome_iff_exists.1 hst
              exact .inr ⟨rfl, e, sliceT_iff.1 he⟩
          obtain ⟨v, h3, h4⟩ := len_ok (P := P) (ty := oty) ht h1 hb
          exact run_bi .len (Builtin.len_ #[t] oty #[ev x]) (fun k => by simp [builtin]) rfl ⟨v, w, h3, OpPost.pure hr h4⟩
        · split at hlow
          · rename_i n e he
            simp only [Option.some.injEq, Prod.mk.injEq] at hlow
            obtain ⟨rfl, rfl⟩ := hlow
            cases hv with | cons h1 t1 => cases t1 with | nil =>
            simp only [aop, LOp.loud, pop, Bool.false_eq_true, if_false, Option.map_some, Option.some.injEq, Prod.mk.injEq] at h
            obtain ⟨rfl, rfl, rfl⟩ := h
            exact run_bi .len (Builtin.len_ #[t] oty #[ev x]) (fun k => by simp [builtin]) rfl ⟨.int .i64 n, w, by simp [Builtin.len_, run_underlying (arrayT_iff.1 he), goInt], OpPost.pure hr (.int _ _)⟩
          · simp at hlow
      · simp at hlow
    · -- cap
      split at hlow
      · rename_i x t hargs htys
        have ha : args = #[x] := by apply Array.ext'; simpa using hargs
        have hb : argTypes = #[t] := by apply Array.ext'; simpa using htys
        subst ha hb
        split at hlow
        · rename_i hst
          simp only [Option.some.injEq, Prod.mk.injEq] at hlow
          obtain ⟨rfl, rfl⟩ := hlow
          cases hv with | cons h1 t1 => cases t1 with | nil =>
          simp only [aop, LOp.loud, pop, Bool.false_eq_true, if_false, Option.map_eq_some_iff, Prod.mk.injEq] at h
          obtain ⟨r', hb, rfl, rfl, rfl⟩ := h
          obtain ⟨e, he⟩ := Option.isSome_iff_exists.1 hst
          obtain ⟨v, h3, h4⟩ := cap_ok (P := P) (ty := oty) (sliceT_iff.1 he) h1 hb
          exact run_bi .cap (Builtin.cap_ #[t] oty #[ev x]) (fun k => by simp [builtin]) rfl ⟨v, w, h3, OpPost.pure hr h4⟩
        · simp at hlow
      · simp at hlow
    · -- append
      split at hlow
      · rename_i sx x t t' hargs htys
        have ha : args = #[sx, x] := by apply Array.ext'; simpa using hargs
        have hb : argTypes = #[t, t'] := by apply Array.ext'; simpa using htys
        subst ha hb
        split at hlow
        · rename_i hst
          split at hlow
          · rename_i e he
            split at hlow
            · rename_i i z hi hz
              split at hlow
              · rename_i hl
                simp only [Option.some.injEq, Prod.mk.injEq] at hlow
                obtain ⟨rfl, rfl⟩ := hlow
                cases hv with | cons h1 t1 => cases t1 with | cons h2 t2 => cases t2 with | nil =>
                rename_i d1 d2
                generalize hx : ev x = vx at h2
                cases d2 <;> simp only [aop, LOp.loud, lop, if_true, reduceCtorEq] at h
                cases h2
                refine run_bi .append (Builtin.append_ #[t, t'] oty #[ev sx, ev x]) (fun k => by simp [builtin]) rfl ?_
                rw [hx]
                exact appstr_ok hr (sliceT_iff.1 he) (strT_iff.1 hst) hi hl.2.1 hz hl.2.2.1 hl.2.2.2 (by cases mt <;> simp) h1 h
              · simp at hlow
            · simp at hlow
          · simp at hlow
        · split at hlow
          · rename_i htt
            subst htt
            split at hlow
            · rename_i e he
              split at hlow
              · rename_i i n z hi hn hz
                split at hlow
                · rename_i hl
                  simp only [Option.some.injEq, Prod.mk.injEq] at hlow
                  obtain ⟨rfl, rfl⟩ := hlow
                  cases hv with | cons h1 t1 => cases t1 with | cons h2 t2 => cases t2 with | nil =>
                  simp only [aop, LOp.loud, lop, if_true] at h
                  exact run_bi .append (Builtin.append_ #[t, t] oty #[ev sx, ev x]) (fun k => by simp [builtin]) rfl (append_ok hr (sliceT_iff.1 he) hi hn hz hl.1 hl.2 (by cases mt <;> simp) h1 h2 h)
                · simp at hlow
              · simp at hlow
            · simp at hlow
          · simp at hlow
      · simp at hlow
    · -- max
      simp only [Option.some.injEq, Prod.mk.injEq] at hlow
      obtain ⟨rfl, rfl⟩ := hlow
      simp only [aop, LOp.loud, Bool.false_eq_true, if_false, Option.map_eq_some_iff, Prod.mk.injEq] at h
      obtain ⟨r', hb, rfl, rfl, rfl⟩ := h
      have he : (args.toList.map ev).toArray = args.map ev := by apply Array.ext'; simp
      obtain ⟨v, h3, h4⟩ := maxs_ok (P := P) (ts := argTypes) (t := oty) hv hb
      rw [he] at h3
      exact run_bi .max (Builtin.max_ argTypes oty (args.map ev)) (fun k => by simp [builtin]) rfl ⟨v, w, h3, OpPost.pure hr h4⟩
    · -- min
      simp only [Option.some.injEq, Prod.mk.injEq] at hlow
      obtain ⟨rfl, rfl⟩ := hlow
      simp only [aop, LOp.loud, Bool.false_eq_true, if_false, Option.map_eq_some_iff, Prod.mk.injEq] at h
      obtain ⟨r', hb, rfl, rfl, rfl⟩ := h
      have he : (args.toList.map ev).toArray = args.map ev := by apply Array.ext'; simp
      obtain ⟨v, h3, h4⟩ := mins_ok (P := P) (ts := argTypes) (t := oty) hv hb
      rw [he] at h3
      exact run_bi .min (Builtin.min_ argTypes oty (args.map ev)) (fun k => by simp [builtin]) rfl ⟨v, w, h3, OpPost.pure hr h4⟩
    · -- the bytes of a slice
      split at hlow
      · rename_i x hargs
        have ha : args = #[x] := by apply Array.ext'; simpa using hargs
        subst ha
        simp only [Option.some.injEq, Prod.mk.injEq] at hlow
        obtain ⟨rfl, rfl⟩ := hlow
        cases hv with | cons h1 t1 => cases t1 with | nil =>
        simp only [aop, LOp.loud, lop, if_true, Option.map_eq_some_iff, Prod.mk.injEq] at h
        obtain ⟨r', hb, rfl, rfl, rfl⟩ := h
        obtain ⟨v, h3, h4⟩ := sdata_ok (P := P) (ts := argTypes) (ty := oty) hr h1 hb
        exact run_bi .unsafeSliceData (Builtin.unsafeSliceData_ argTypes oty #[ev x]) (fun k => by simp [builtin]) rfl ⟨v, w, h3, OpPost.pure hr h4⟩
      · simp at hlow
    · -- bytes as a string
      split at hlow
      · rename_i x y t t' hargs htys
        have ha : args = #[x, y] := by apply Array.ext'; simpa using hargs
        have hb : argTypes = #[t, t'] := by apply Array.ext'; simpa using htys
        subst ha hb
        split at hlow
        · rename_i e hpt
          split at hlow
          · rename_i hc
            simp only [Option.some.injEq, Prod.mk.injEq] at hlow
            obtain ⟨rfl, rfl⟩ := hlow
            cases hv with | cons h1 t1 => cases t1 with | cons h2 t2 => cases t2 with | nil =>
            rename_i d1 d2
            generalize hy : ev y = vy at h2
            simp only [aop, LOp.loud, if_true] at h
            unfold lop at h
            split at h <;> simp only [reduceCtorEq, List.cons.injEq, and_true, LOp.ustr.injEq] at *
            rename_i e' p n heq1 heq2
            subst heq1
            obtain ⟨rfl, rfl⟩ := heq2
            cases h2
            refine run_bi .unsafeString (Builtin.unsafeString_ #[t, t'] oty #[ev x, ev y]) (fun k => by simp [builtin]) rfl ?_
            rw [hy]
            exact ustr_ok hr hpt hc.2 h1 h
          · simp at hlow
        · simp at hlow
      · simp at hlow
    · simp at hlow
  case h_27 t x =>
    split at hlow
    · rename_i hst
      simp only [Option.some.injEq, Prod.mk.injEq] at hlow
      obtain ⟨rfl, rfl⟩ := hlow
      cases hv with | cons h1 t1 => cases t1 with | nil =>
      rename_i d1
      generalize hx : ev x = vx at h1
      cases d1 <;> simp only [aop, LOp.loud, lop, if_true, reduceCtorEq] at h
      cases h1
      simp only [Option.some.injEq, Prod.mk.injEq] at h
      obtain ⟨rfl, rfl, rfl⟩ := h
      refine Does.val (s := Instr.range t (ev x)) rfl ?_
      rw [hx]
      exact rngs_ok hr (strT_iff.1 hst)
    · simp at hlow
  case h_28 it isString =>
    split at hlow
    · rename_i hst
      subst hst
      simp only [Option.some.injEq, Prod.mk.injEq] at hlow
      obtain ⟨rfl, rfl⟩ := hlow
      cases hv with | cons h1 t1 => cases t1 with | nil =>
      rename_i d1
      cases d1 <;> simp only [aop, LOp.loud, lop, if_true, reduceCtorEq] at h
      exact Does.val (s := Instr.next (ev it) true oty) rfl (nexts_ok hr h1 h)
    · simp at hlow
  case h_29 => simp at hlow
end
end Go.Proofs.YtabgobmeibjeeaaGreatDoor

/- Proved here: a region whose order is fixed, in the abstract machine and in the model; no condition. -/
import Derived.Test.YtabgobmeibjeeaaGreatDoorLo10
namespace Go.Proofs.YtabgobmeibjeeaaGreatDoor
open Go.RowKit
set_option linter.unusedVariables false
set_option linter.unusedSimpArgs false

section
variable {P : Program}

/-- a call of the abstract machine is a call of the model -/
def CallOK (P : Program) (call : CallF) : Prop :=
  ∀ f ds S r S' wr, call f ds S = some (r, S', wr) → ∀ w ρ vs, Rel w ρ S.heap → VL w ρ S.heap ds vs →
    (callFunc f vs.toArray).run P w = .ok (.enter f vs.toArray) w ∧ Calls P f vs.toArray w fun e w' => ∃ v, e = .returned v ∧ OpPost w ρ S r S' wr v w'

theorem lowOp_call {mt : Bool} {o : Oper} {f : FuncId} {xs : List Operand} (h : lowOp P mt o = some (.call f, xs)) : ∃ args tys, o.op = .call ⟨.value (.func f), args, tys⟩ ∧ xs = args.toList := by
  have hx : ∀ {s : String} {b : Prop} [Decidable b] {l : LOp}, (if b then externT s else none) = some l → l ≠ .call f := by
    intro s b _ l hl e
    subst e
    split at hl
    · unfold externT at hl
      repeat' (first | (split at hl; skip) | (simp at hl; done))
      all_goals simp at hl
    · simp at hl
  unfold lowOp at h
  split at h
  case h_26 c hop =>
    obtain ⟨callee, args, tys⟩ := c
    simp only at h
    split at h
    · rename_i f'
      split at h
      · split at h
        · split at h
          · rename_i l' hl'
            simp only [Option.some.injEq, Prod.mk.injEq] at h
            exact absurd h.1 (hx hl')
          · simp at h
        · simp only [Option.some.injEq, Prod.mk.injEq, LOp.call.injEq] at h
          obtain ⟨rfl, rfl⟩ := h
          exact ⟨args, tys, hop, rfl⟩
      · simp at h
    all_goals (repeat' (first | (split at h; skip) | (simp at h; done)))
    all_goals first
      | (simp at h; done)
      | (simp only [Option.map_eq_some_iff, Prod.mk.injEq, reduceCtorEq, false_and, and_false, exists_false] at h; done)
  all_goals (repeat' (first | (split at h; skip) | (simp at h; done)))
  all_goals first
    | (simp at h; done)
    | (simp only [Option.map_eq_some_iff, Prod.mk.injEq, reduceCtorEq, false_and, and_false, exists_false] at h; done)
theorem lowOp_callv {mt : Bool} {o : Oper} {xs : List Operand} (h : lowOp P mt o = some (.callv, xs)) : ∃ t args tys, o.op = .call ⟨.value (.tmp t), args, tys⟩ ∧ xs = .tmp t :: args.toList := by
  have hx : ∀ {s : String} {b : Prop} [Decidable b] {l : LOp}, (if b then externT s else none) = some l → l ≠ .callv := by
    intro s b _ l hl e
    subst e
    split at hl
    · unfold externT at hl
      repeat' (first | (split at hl; skip) | (simp at hl; done))
      all_goals simp at hl
    · simp at hl
  unfold lowOp at h
  split at h
  case h_26 c hop =>
    obtain ⟨callee, args, tys⟩ := c
    simp only at h
    split at h
    · rename_i f'
      split at h
      · split at h
        · split at h
          · rename_i l' hl'
            simp only [Option.some.injEq, Prod.mk.injEq] at h
            exact absurd h.1 (hx hl')
          · simp at h
        · simp at h
      · simp at h
    · simp only [Option.some.injEq, Prod.mk.injEq] at h
      obtain ⟨_, rfl⟩ := h
      exact ⟨_, args, tys, hop, rfl⟩
    all_goals (repeat' (first | (split at h; skip) | (simp at h; done)))
    all_goals first
      | (simp at h; done)
      | (simp only [Option.map_eq_some_iff, Prod.mk.injEq, reduceCtorEq, false_and, and_false, exists_false] at h; done)
  all_goals (repeat' (first | (split at h; skip) | (simp at h; done)))
  all_goals first
    | (simp at h; done)
    | (simp only [Option.map_eq_some_iff, Prod.mk.injEq, reduceCtorEq, false_and, and_false, exists_false] at h; done)

theorem exOp_ok {call : CallF} (hcall : CallOK P call) {mt : Bool} {o : Oper} {l : LOp} {xs : List Operand} {a : Act} {w : World} {ρ : RMap} {S S' : St} {ds : List D} {r : D} {wr : Bool} {K : Act → World → Prop} {Q : Exit → Act → World → Prop}
    (hlowF : lowOpF P mt o = some (l, xs)) (hv : VL w ρ S.heap ds (xs.map a.eval)) (hr : Rel w ρ S.heap) (h : exOp call l ds S = some (r, S', wr)) (hK : ∀ v w', OpPost w ρ S r S' wr v w' → K (a.put o.dst v) w') : o.wp P a w K Q := by
  have hlow : lowOp P mt o = some (l, xs) := by
    unfold lowOpF at hlowF
    split at hlowF
    · rename_i x hx; rw [hx]; exact hlowF
    · simp only [Option.some.injEq, Prod.mk.injEq] at hlowF
      obtain ⟨rfl, rfl⟩ := hlowF
      simp [exOp, aop, LOp.loud, pop] at h
  have plain : aop l ds S = some (r, S', wr) → o.wp P a w K Q := by
    intro h
    obtain ⟨nx, v, w', h1, h2, h3⟩ := aop_ok (fun _ => rfl) hlow hv hr h
    unfold Oper.wp
    rw [h1]
    rcases h2 with rfl | ⟨rfl, rfl⟩
    · exact hK v w' h3
    · exact hK undef w' h3
  have fin : ∀ f vs, (execOp a.eval o).run P w = (callFunc f vs).run P w → (callFunc f vs).run P w = .ok (.enter f vs) w ∧ (Calls P f vs w fun e w' => ∃ v, e = .returned v ∧ OpPost w ρ S r S' wr v w') → o.wp P a w K Q := by
    rintro f vs he ⟨h1, h2⟩
    unfold Oper.wp
    rw [he, h1, Oper.upon_enter]
    refine h2.mono ?_
    rintro e w' ⟨v, rfl, hp⟩
    exact hK v w' hp
  unfold exOp at h
  split at h
  · rename_i f
    obtain ⟨args, tys, hop, rfl⟩ := lowOp_call hlow
    have hc := hcall f ds S r S' wr h w ρ _ hr hv
    have he : (args.toList.map a.eval).toArray = args.map a.eval := by apply Array.ext'; simp
    rw [he] at hc
    refine fin f (args.map a.eval) ?_ hc
    simp [execOp, hop, resolve, Deferred.ofValue, invoke, Act.eval]
  · split at h
    · rename_i f caps ys
      obtain ⟨t, args, tys, hop, rfl⟩ := lowOp_callv hlow
      cases hv with
      | cons h1 t1 =>
        generalize hx : a.eval (.tmp t) = vx at h1
        cases h1 with
        | fn _ _ vs hl hh =>
          have hc := hcall f _ S r S' wr h w ρ _ hr (t1.append (VL.of hl hh))
          have he : (args.toList.map a.eval ++ vs).toArray = args.map a.eval ++ vs.toArray := by apply Array.ext'; simp
          rw [he] at hc
          refine fin f _ ?_ hc
          simp only [Act.eval] at hx
          simp [execOp, hop, resolve, Deferred.ofValue, invoke, Act.eval, hx]
    · simp at h
  · exact plain h

/-! slots -/
def sig (slots : List Nat) (prev : List (Option Tmp)) (vals env : List D) (t : Nat) : D :=
  match locOf prev t with
  | some d => vals.getD d .undef
  | none => match idxOf slots t with
    | some j => env.getD j .undef
    | none => .undef
/-- the frame of the model holds what the abstract machine says of each slot -/
def FR (w : World) (ρ : RMap) (H : List AObj) (nt : Nat) (σ : Nat → D) (a : Act) : Prop :=
  a.tmps.size = nt ∧ ∀ t, t < nt → VR w ρ H (σ t) (a.tmps.getD t undef)
theorem sig_cons (slots : List Nat) (o : Option Tmp) (prev : List (Option Tmp)) (r : D) (vals env : List D) (t : Nat) : sig slots (o :: prev) (r :: vals) env t = if o = some t then r else sig slots prev vals env t := by
  have e : locOf (o :: prev) t = if o = some t then some 0 else (locOf prev t).map (· + 1) := rfl
  unfold sig
  rw [e]
  by_cases h : o = some t
  · simp [h]
  · simp only [h, if_false]
    cases locOf prev t with
    | none => simp
    | some d => simp
theorem FR.put {w w' : World} {ρ ρ' : RMap} {S S' : St} {nt : Nat} {σ σ' : Nat → D} {a : Act} {dst : Option Tmp} {r : D} {v : Value} (h : FR w ρ S.heap nt σ a) (hs : Stp w ρ S w' ρ' S') (hv : VR w' ρ' S'.heap r v) (hd : dstIn nt dst = true) (hσ : ∀ t, σ' t = if dst = some t then r else σ t) :
    FR w' ρ' S'.heap nt σ' (a.put dst v) := by
  cases dst with
  | none => exact ⟨h.1, fun t ht => by rw [hσ]; simpa [Act.put] using (h.2 t ht).mono hs⟩
  | some d =>
    have hdl : d < a.tmps.size := by rw [h.1]; simpa [dstIn] using hd
    refine ⟨by simpa [Act.put] using h.1, fun t ht => ?_⟩
    rw [hσ]
    by_cases e : d = t
    · subst e
      simp [Act.put, hdl, hv]
    · have e' : ¬ some d = some t := by simpa using e
      rw [if_neg e']
      have := (h.2 t ht).mono hs
      simp only [Act.put, Array.getD_eq_getD_getElem?, Array.getElem?_setIfInBounds, if_neg e] at this ⊢
      exact this
theorem idxOf_mem {l : List Nat} {t j : Nat} (h : idxOf l t = some j) : l[j]? = some t := by
  induction l generalizing j with
  | nil => simp [idxOf] at h
  | cons s l ih =>
    unfold idxOf at h
    split at h
    · rename_i e; simp at h; subst h e; rfl
    · simp only [Option.map_eq_some_iff] at h
      obtain ⟨k, hk, rfl⟩ := h
      simpa using ih hk
theorem locOf_mem {l : List (Option Tmp)} {t d : Nat} (h : locOf l t = some d) : l[d]? = some (some t) := by
  induction l generalizing d with
  | nil => simp [locOf] at h
  | cons s l ih =>
    unfold locOf at h
    split at h
    · rename_i e; simp at h; subst h e; rfl
    · simp only [Option.map_eq_some_iff] at h
      obtain ⟨k, hk, rfl⟩ := h
      simpa using ih hk
theorem opd_ok {w : World} {ρ : RMap} {H : List AObj} {nt : Nat} {slots : List Nat} {prev : List (Option Tmp)} {vals env : List D} {a : Act} {x : Operand} {y : LOpd} (h : lowOpd slots prev x = some y) (hs : slots.all (· < nt) = true) (hp : ∀ d ∈ prev, dstIn nt d = true)
    (hf : ∀ t, x = .tmp t → VR w ρ H (sig slots prev vals env t) (a.tmps.getD t undef)) : VR w ρ H (opd vals env y) (a.eval x) := by
  unfold lowOpd at h
  split at h
  · rename_i t
    have h1 := hf t rfl
    unfold sig at h1
    split at h
    · rename_i d hd
      simp only [Option.some.injEq] at h
      subst h
      simp only [hd] at h1
      exact h1
    · rename_i hd
      simp only [Option.map_eq_some_iff] at h
      obtain ⟨j, hj, rfl⟩ := h
      simp only [hd, hj] at h1
      exact h1
  · rename_i v
    simp only [Option.some.injEq] at h
    subst h
    cases hc : constOf v with
    | none => exact .undef _
    | some d => exact constOf_ok hc
  · simp only [Option.some.injEq] at h
    subst h
    exact .fn _ [] [] rfl (fun j d v h => by simp at h)
  · simp only [Option.some.injEq] at h
    subst h
    exact .undef _
theorem tmp_in {nt : Nat} {slots : List Nat} {prev : List (Option Tmp)} {t : Nat} {y : LOpd} (h : lowOpd slots prev (.tmp t) = some y) (hs : slots.all (· < nt) = true) (hp : ∀ d ∈ prev, dstIn nt d = true) : t < nt := by
  unfold lowOpd at h
  simp only at h
  split at h
  · rename_i d hd
    have := hp _ (List.mem_of_getElem? (locOf_mem hd))
    simpa [dstIn] using this
  · simp only [Option.map_eq_some_iff] at h
    obtain ⟨j, hj, _⟩ := h
    have := List.all_eq_true.1 hs t (List.mem_of_getElem? (idxOf_mem hj))
    simpa using this
theorem opds_ok {w : World} {ρ : RMap} {H : List AObj} {nt : Nat} {slots : List Nat} {prev : List (Option Tmp)} {vals env : List D} {a : Act} (hs : slots.all (· < nt) = true) (hp : ∀ d ∈ prev, dstIn nt d = true) : ∀ {xs : List Operand} {ys : List LOpd}, lowOpds slots prev xs = some ys →
    (∀ t, .tmp t ∈ xs → t < nt → VR w ρ H (sig slots prev vals env t) (a.tmps.getD t undef)) → VL w ρ H (ys.map (opd vals env)) (xs.map a.eval)
  | [], ys, h, _ => by simp only [lowOpds, Option.some.injEq] at h; subst h; exact .nil
  | x :: xs, ys, h, hf => by
    unfold lowOpds at h
    split at h
    · rename_i y m hy hm
      simp only [Option.some.injEq] at h
      subst h
      refine .cons (opd_ok hy hs hp fun t ht => ?_) (opds_ok hs hp hm fun t ht => hf t (List.mem_cons_of_mem _ ht))
      subst ht
      exact hf t (List.mem_cons_self ..) (tmp_in hy hs hp)
    · simp at h
theorem exports_get {dsts : List (Option Tmp)} {vals : List D} {slots0 : List Nat} : ∀ {slots : List Nat} {k : Nat} {env : List D} (j : Nat), (exports (expsOf dsts slots k) vals env).getD j .undef = if k ≤ j ∧ j < k + slots.length ∧ j < env.length then (match locOf dsts (slots.getD (j - k) 0) with | some d => vals.getD d .undef | none => env.getD j .undef) else env.getD j .undef
  | [], k, env, j => by simp only [expsOf, exports, List.length_nil]; rw [if_neg (by omega)]
  | s :: l, k, env, j => by
    unfold expsOf
    split
    · rename_i d hd
      simp only [exports]
      rw [exports_get (slots0 := slots0) (slots := l) (k := k + 1) j]
      by_cases e : k = j
      · subst e
        rw [if_neg (by omega)]
        by_cases hl : k < env.length
        · rw [if_pos ⟨Nat.le_refl _, by simp, hl⟩]
          simp [hd, hl]
        · rw [if_neg (by omega)]
          simp [hl]
      · have h1 : (env.set k (vals.getD d .undef)).getD j .undef = env.getD j .undef := by simp [List.getD, List.getElem?_set_ne e]
        rw [h1]
        by_cases h2 : k + 1 ≤ j ∧ j < k + 1 + l.length ∧ j < env.length
        · rw [if_pos (by simpa using h2), if_pos (by simp; omega)]
          rw [show j - k = (j - (k + 1)) + 1 by omega]
          simp
        · rw [if_neg (by simpa using h2), if_neg (by simp; omega)]
    · rename_i hd
      rw [exports_get (slots0 := slots0) (slots := l) (k := k + 1) j]
      by_cases e : k = j
      · subst e
        rw [if_neg (by omega)]
        by_cases hl : k < env.length
        · rw [if_pos ⟨Nat.le_refl _, by simp, hl⟩]
          simp [hd]
        · rw [if_neg (by omega)]
      · by_cases h2 : k + 1 ≤ j ∧ j < k + 1 + l.length ∧ j < env.length
        · rw [if_pos h2, if_pos (by simp; omega)]
          rw [show j - k = (j - (k + 1)) + 1 by omega]
          simp
        · rw [if_neg h2, if_neg (by simp; omega)]
theorem exports_len {vals : List D} : ∀ {es : List (Nat × Nat)} {env : List D}, (exports es vals env).length = env.length
  | [], env => rfl
  | (j, d) :: es, env => by simp only [exports]; rw [exports_len]; simp
/-- the slots behind a region -/
theorem sig_end {dsts : List (Option Tmp)} {slots : List Nat} {vals env : List D} (hl : env.length = slots.length) (t : Nat) : sig slots [] [] (exports (expsOf dsts slots 0) vals env) t = (match idxOf slots t with | some _ => sig slots dsts vals env t | none => .undef) := by
  unfold sig
  simp only [locOf]
  cases hj : idxOf slots t with
  | none => rfl
  | some j =>
    have hm := idxOf_mem hj
    have hjl := lt_of_some hm
    simp only
    rw [exports_get (slots0 := slots), if_pos (by omega)]
    have : slots.getD (j - 0) 0 = t := by simp [List.getD, hm]
    rw [this]
theorem FR.end_ {w : World} {ρ : RMap} {H : List AObj} {nt : Nat} {dsts : List (Option Tmp)} {slots : List Nat} {vals env : List D} {a : Act} (hl : env.length = slots.length) (h : FR w ρ H nt (sig slots dsts vals env) a) : FR w ρ H nt (sig slots [] [] (exports (expsOf dsts slots 0) vals env)) a := by
  refine ⟨h.1, fun t ht => ?_⟩
  rw [sig_end hl]
  cases idxOf slots t with
  | none => exact .undef _
  | some j => exact h.2 t ht

/-- a guard: what the model sees is what the abstract machine sees -/
theorem guard_ok {w : World} {ρ : RMap} {H : List AObj} {nt : Nat} {slots : List Nat} {prev : List (Option Tmp)} {vals env : List D} {a : Act} {ops : Array Oper} {j d : Nat} {b b' : Bool} {t : Tmp} (hjd : (ops[j]?).bind (·.dst) = some t) (hloc : locOf prev t = some d) (hp : ∀ d ∈ prev, dstIn nt d = true)
    (hf : VR w ρ H (sig slots prev vals env t) (a.tmps.getD t undef)) (hsz : a.tmps.size = nt) (hv : vals.getD d .undef = .bool b') : yielded ops a.tmps j = some b' := by
  unfold sig at hf
  simp only [hloc, hv] at hf
  have ht : t < a.tmps.size := by
    have := hp _ (List.mem_of_getElem? (locOf_mem hloc))
    rw [hsz]
    simpa [dstIn] using this
  unfold yielded
  rw [hjd]
  simp only [Option.bind_some, Array.getElem?_eq_getElem ht]
  simp only [Array.getD, ht, dif_pos] at hf
  generalize hx : a.tmps[t] = x at hf
  have hx' : a.tmps.getInternal t ht = x := hx
  rw [hx'] at hf
  cases hf
  rfl

theorem guard_skip {w : World} {ρ : RMap} {H : List AObj} {nt : Nat} {slots : List Nat} {prev : List (Option Tmp)} {vals env : List D} {a : Act} {ops : Array Oper} {j d : Nat} {t : Tmp} (hjd : (ops[j]?).bind (·.dst) = some t) (hloc : locOf prev t = some d) (hp : ∀ d ∈ prev, dstIn nt d = true)
    (hf : VR w ρ H (sig slots prev vals env t) (a.tmps.getD t undef)) (hsz : a.tmps.size = nt) (hv : vals.getD d .undef = .skip) : yielded ops a.tmps j = none := by
  unfold sig at hf
  simp only [hloc, hv] at hf
  have ht : t < a.tmps.size := by
    have := hp _ (List.mem_of_getElem? (locOf_mem hloc))
    rw [hsz]
    simpa [dstIn] using this
  unfold yielded
  rw [hjd]
  simp only [Option.bind_some, Array.getElem?_eq_getElem ht]
  simp only [Array.getD, ht, dif_pos] at hf
  generalize hx : a.tmps[t] = x at hf
  have hx' : a.tmps.getInternal t ht = x := hx
  rw [hx'] at hf
  cases hf
  rfl

theorem seq_ok {call : CallF} (hcall : CallOK P call) {mt : Bool} {nt : Nat} {slots : List Nat} {ops : Array Oper} {env : List D} {Q : Exit → Act → World → Prop} (hs : slots.all (· < nt) = true) :
    ∀ (os : List Oper) (k : Nat) (prev : List (Option Tmp)) (vals : List D) (los : List LOper) (S : St) (vals' : List D) (S' : St) (a : Act) (w : World) (ρ : RMap), ops.toList.drop k = os → prev = ((ops.toList.take k).map (·.dst)).reverse → (∀ d ∈ prev, dstIn nt d = true) →
      lowOps P mt nt slots os prev = some los → exOps call los vals env S = some (vals', S') → Rel w ρ S.heap → FR w ρ S.heap nt (sig slots prev vals env) a →
      (∀ a' w' ρ', Rel w' ρ' S'.heap → Stp w ρ S w' ρ' S' → FR w' ρ' S'.heap nt (sig slots (dstsOf ops.toList) vals' env) a' → a'.defers = a.defers → Q .normal a' w') →
      wpOps P ops Q (List.range' k os.length) a w := by
  intro os
  induction os with
  | nil =>
    intro k prev vals los S vals' S' a w ρ hk hprev hp hlow hex hr hf hQ
    simp only [lowOps, Option.some.injEq] at hlow
    subst hlow
    simp only [exOps, Option.some.injEq, Prod.mk.injEq] at hex
    obtain ⟨rfl, rfl⟩ := hex
    have hkl : ops.toList.length ≤ k := by
      have := congrArg List.length hk
      simp only [List.length_drop, List.length_nil] at this
      omega
    have hpe : prev = dstsOf ops.toList := by rw [hprev, List.take_of_length_le hkl]; rfl
    show Q .normal a w
    exact hQ a w ρ hr (Stp.refl _ _ _) (hpe ▸ hf) rfl
  | cons o os ih =>
    intro k prev vals los S vals' S' a w ρ hk hprev hp hlow hex hr hf hQ
    have hko : ops.toList[k]? = some o := by
      have : (ops.toList.drop k)[0]? = some o := by rw [hk]; rfl
      simpa using this
    have hkl : k < ops.toList.length := lt_of_some hko
    have hko' : ops[k]? = some o := by simpa using hko
    have hdrop : ops.toList.drop (k + 1) = os := by
      have : (ops.toList.drop k).drop 1 = os := by rw [hk]; rfl
      rwa [List.drop_drop] at this
    have hprev' : o.dst :: prev = ((ops.toList.take (k + 1)).map (·.dst)).reverse := by
      rw [List.take_succ_eq_append_getElem hkl, List.map_append, List.reverse_append, ← hprev]
      have : ops.toList[k] = o := by rw [List.getElem?_eq_getElem hkl] at hko; injection hko
      simp [this]
    have hpl : prev.length = k := by rw [hprev, List.length_reverse, List.length_map, List.length_take]; omega
    unfold lowOps at hlow
    split at hlow
    · simp at hlow
    · rename_i l xs hlop
      split at hlow
      · rename_i args g rest hargs hg hrest
        split at hlow
        · rename_i hd
          simp only [Option.some.injEq] at hlow
          subst hlow
          have hp' : ∀ d ∈ o.dst :: prev, dstIn nt d = true := by
            intro d hd'
            rcases List.mem_cons.1 hd' with rfl | hd'
            · exact hd
            · exact hp d hd'
          rw [List.length_cons, List.range'_succ]
          simp only [wpOps, hko']
          have go : Region.wanted o (yielded ops a.tmps) = true → (match exOp call l (args.map (opd vals env)) S with | none => none | some (r, S1, wr) => exOps call rest (r :: vals) env S1) = some (vals', S') →
              (if Region.wanted o (yielded ops a.tmps) = true then o.wp P a w (wpOps P ops Q (List.range' (k + 1) os.length)) Q ∨ o.asks P a w ∧ LetsOut Q else wpOps P ops Q (List.range' (k + 1) os.length) (a.put o.dst undef) w) := by
            intro hw hx
            rw [if_pos hw]
            left
            split at hx
            · simp at hx
            · rename_i r S1 wr hop
              refine exOp_ok hcall hlop (opds_ok hs hp hargs fun t _ ht => hf.2 t ht) hr hop ?_
              rintro v w1 ⟨ρ1, h1, h2, h3, _⟩
              refine ih (k + 1) (o.dst :: prev) (r :: vals) rest S1 vals' S' _ w1 ρ1 hdrop hprev' hp' hrest hx h1 (hf.put h2 h3 hd fun t => sig_cons slots o.dst prev r vals env t) ?_
              intro a' w' ρ' h4 h5 h6 h7
              exact hQ a' w' ρ' h4 (h2.trans h5) h6 (h7.trans (by cases o.dst <;> rfl))
          unfold exOps at hex
          cases hgo : o.guard with
          | none =>
            rw [hgo] at hg
            simp only [lowGuard, Option.some.injEq] at hg
            subst hg
            simp only [onG] at hex
            exact go (by simp [Region.wanted, hgo]) hex
          | some jb =>
            obtain ⟨j, b⟩ := jb
            rw [hgo] at hg
            unfold lowGuard at hg
            simp only at hg
            split at hg
            · rename_i hj
              split at hg
              · rename_i t ht
                split at hg
                · rename_i hloc
                  simp only [Option.some.injEq] at hg
                  subst hg
                  simp only [onG] at hex
                  have hjd : (ops[j]?).bind (·.dst) = some t := by
                    rw [hprev] at ht
                    have hjl : j < ops.toList.length := by omega
                    have h1 : ((ops.toList.take k).map (·.dst)).length = k := by rw [List.length_map, List.length_take]; omega
                    simp only [List.getD, List.length_reverse, h1] at ht
                    rw [List.getElem?_reverse (by rw [h1]; omega), h1, show k - 1 - (k - 1 - j) = j by omega] at ht
                    simp only [List.getElem?_map, List.getElem?_take] at ht
                    rw [if_pos (by omega)] at ht
                    have h2 : ops[j]? = some ops.toList[j] := by simp
                    rw [List.getElem?_eq_getElem hjl] at ht
                    rw [h2]
                    simpa using ht
                  split at hex
                  · simp at hex
                  · -- the guard says no
                    rename_i hv
                    split at hv
                    · rename_i b' hb'
                      simp only [Option.some.injEq] at hv
                      have hy := guard_ok (b := b) hjd hloc hp (hf.2 t (by
                        have := hp _ (List.mem_of_getElem? (locOf_mem hloc))
                        simpa [dstIn] using this)) hf.1 hb'
                      have hw : Region.wanted o (yielded ops a.tmps) = false := by
                        simp only [Region.wanted, hgo, hy]
                        simpa using hv
                      rw [hw]
                      simp only [Bool.false_eq_true, if_false]
                      refine ih (k + 1) (o.dst :: prev) (.skip :: vals) rest S vals' S' _ w ρ hdrop hprev' hp' hrest hex hr (hf.put (Stp.refl _ _ _) .skip hd fun t => sig_cons slots o.dst prev .skip vals env t) ?_
                      intro a' w' ρ' h4 h5 h6 h7
                      exact hQ a' w' ρ' h4 h5 h6 (h7.trans (by cases o.dst <;> rfl))
                    · rename_i hb'
                      have hy := guard_skip hjd hloc hp (hf.2 t (by
                        have := hp _ (List.mem_of_getElem? (locOf_mem hloc))
                        simpa [dstIn] using this)) hf.1 hb'
                      have hw : Region.wanted o (yielded ops a.tmps) = false := by
                        simp only [Region.wanted, hgo, hy]
                        rfl
                      rw [hw]
                      simp only [Bool.false_eq_true, if_false]
                      refine ih (k + 1) (o.dst :: prev) (.skip :: vals) rest S vals' S' _ w ρ hdrop hprev' hp' hrest hex hr (hf.put (Stp.refl _ _ _) .skip hd fun t => sig_cons slots o.dst prev .skip vals env t) ?_
                      intro a' w' ρ' h4 h5 h6 h7
                      exact hQ a' w' ρ' h4 h5 h6 (h7.trans (by cases o.dst <;> rfl))
                    · simp at hv
                  · rename_i hv
                    split at hv
                    · rename_i b' hb'
                      simp only [Option.some.injEq] at hv
                      have hy := guard_ok (b := b) hjd hloc hp (hf.2 t (by
                        have := hp _ (List.mem_of_getElem? (locOf_mem hloc))
                        simpa [dstIn] using this)) hf.1 hb'
                      refine go ?_ hex
                      simp only [Region.wanted, hgo, hy]
                      simpa using hv
                    · simp at hv
                    · simp at hv
                · simp at hg
              · simp at hg
            · simp at hg
        · simp at hlow
      · simp at hlow
end
end Go.Proofs.YtabgobmeibjeeaaGreatDoor

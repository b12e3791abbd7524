/- Proved here: a function that the abstract machine runs is called by the model with the same result, on every tape; no condition. -/
import Derived.Test.YtabgobmeibjeeaaGreatDoorLo14b
import Derived.LoopN
import Derived.Scope
namespace Go.Proofs.YtabgobmeibjeeaaGreatDoor
open Go.RowKit
set_option linter.unusedVariables false
set_option linter.unusedSimpArgs false

def exOf : LExit → Exit
  | .normal => .normal
  | .ret => .ret
  | .exit i => .exit i

/-- what lies behind a piece of code -/
def CQ (w : World) (ρ : RMap) (S : St) (slots : List Nat) (nt : Nat) (df : List Deferred) (e : LExit) (env' : List D) (S' : St) (ex : Exit) (a' : Act) (w' : World) : Prop :=
  ∃ ρ', exOf e = ex ∧ Rel w' ρ' S'.heap ∧ Stp w ρ S w' ρ' S' ∧ FR w' ρ' S'.heap nt (sig slots [] [] env') a' ∧ a'.defers = df ∧ env'.length = slots.length

section
variable {P : Program} {call : CallF} {mt : Bool} {nt : Nat} {slots : List Nat} {N : Nat}

theorem code_ok (hm : P.follows .mixedOrders = true) (hcall : CallOK P call) (hclean : CallClean call) (hs : slots.all (· < nt) = true) :
    ∀ (c : Code) (lc : LCode) (env : List D) (S : St) (e : LExit) (env' : List D) (S' : St) (a : Act) (w : World) (ρ : RMap) (Q : Exit → Act → World → Prop), lowCode P mt nt slots c = some lc → exCode call N lc env S = some (e, env', S') → env.length = slots.length → Rel w ρ S.heap → FR w ρ S.heap nt (sig slots [] [] env) a →
      (∀ ex a' w', CQ w ρ S slots nt a.defers e env' S' ex a' w' → Q ex a' w') → c.wp P Q a w := by
  intro c
  induction c with
  | skip =>
    intro lc env S e env' S' a w ρ Q hl hx hlen hr hf hQ
    simp only [lowCode, Option.some.injEq] at hl
    subst hl
    simp only [exCode, Option.some.injEq, Prod.mk.injEq] at hx
    obtain ⟨rfl, rfl, rfl⟩ := hx
    exact wp_skip (hQ _ _ _ ⟨ρ, rfl, hr, Stp.refl _ _ _, hf, rfl, hlen⟩)
  | ret =>
    intro lc env S e env' S' a w ρ Q hl hx hlen hr hf hQ
    simp only [lowCode, Option.some.injEq] at hl
    subst hl
    simp only [exCode, Option.some.injEq, Prod.mk.injEq] at hx
    obtain ⟨rfl, rfl, rfl⟩ := hx
    exact wp_ret (hQ _ _ _ ⟨ρ, rfl, hr, Stp.refl _ _ _, hf, rfl, hlen⟩)
  | exit i =>
    intro lc env S e env' S' a w ρ Q hl hx hlen hr hf hQ
    simp only [lowCode, Option.some.injEq] at hl
    subst hl
    simp only [exCode, Option.some.injEq, Prod.mk.injEq] at hx
    obtain ⟨rfl, rfl, rfl⟩ := hx
    exact wp_exit (hQ _ _ _ ⟨ρ, rfl, hr, Stp.refl _ _ _, hf, rfl, hlen⟩)
  | region id ops draw =>
    intro lc env S e env' S' a w ρ Q hl hx hlen hr hf hQ
    simp only [lowCode, lowRegion] at hl
    cases draw with
    | false =>
      simp only [Bool.false_eq_true, if_false, Option.map_eq_some_iff] at hl
      obtain ⟨los, hlos, rfl⟩ := hl
      simp only [exCode] at hx
      split at hx
      · rename_i vals S1 hops
        simp only [Option.some.injEq, Prod.mk.injEq] at hx
        obtain ⟨rfl, rfl, rfl⟩ := hx
        refine wp_region ?_
        rw [List.range_eq_range', ← Array.length_toList]
        exact seq_ok hcall hs ops.toList 0 [] [] los S vals S1 a w ρ (by simp) (by simp) (by simp) hlos hops hr hf fun a' w' ρ' h1 h2 h3 h4 => hQ _ _ _ ⟨ρ', rfl, h1, h2, h3.end_ hlen, h4, by rw [exports_len]; exact hlen⟩
      · simp at hx
    | true =>
      simp only [if_true] at hl
      split at hl
      · rename_i hdr
        simp only [Option.map_eq_some_iff] at hl
        obtain ⟨los, hlos, rfl⟩ := hl
        simp only [exCode] at hx
        split at hx
        · rename_i vals S1 hops
          simp only [Option.some.injEq, Prod.mk.injEq] at hx
          obtain ⟨rfl, rfl, rfl⟩ := hx
          exact draw_ok hm hcall hclean hs hdr hlos hops hr hf fun a' w' ρ' h1 h2 h3 h4 => hQ _ _ _ ⟨ρ', rfl, h1, h2, h3.end_ hlen, h4, by rw [exports_len]; exact hlen⟩
        · simp at hx
      · simp at hl
  | seq x y ihx ihy =>
    intro lc env S e env' S' a w ρ Q hl hx hlen hr hf hQ
    simp only [lowCode] at hl
    split at hl
    · rename_i lx ly hlx hly
      simp only [Option.some.injEq] at hl
      subst hl
      simp only [exCode] at hx
      refine wp_seq ?_
      cases hex : exCode call N lx env S with
      | none => simp [hex] at hx
      | some q =>
        obtain ⟨e1, env1, S1⟩ := q
        rw [hex] at hx
        refine ihx lx env S e1 env1 S1 a w ρ _ hlx hex hlen hr hf ?_
        rintro ex a' w' ⟨ρ', h1, h2, h3, h4, h5, h6⟩
        cases e1 with
        | normal =>
          simp only at hx
          simp only [exOf] at h1
          subst h1
          refine ihy ly env1 S1 e env' S' a' w' ρ' Q hly hx h6 h2 h4 ?_
          rintro ex a2 w2 ⟨ρ2, k1, k2, k3, k4, k5, k6⟩
          exact hQ _ _ _ ⟨ρ2, k1, k2, h3.trans k3, k4, k5.trans h5, k6⟩
        | ret =>
          simp only [Option.some.injEq, Prod.mk.injEq] at hx
          obtain ⟨rfl, rfl, rfl⟩ := hx
          simp only [exOf] at h1
          subst h1
          exact hQ _ _ _ ⟨ρ', rfl, h2, h3, h4, h5, h6⟩
        | exit i =>
          simp only [Option.some.injEq, Prod.mk.injEq] at hx
          obtain ⟨rfl, rfl, rfl⟩ := hx
          simp only [exOf] at h1
          subst h1
          exact hQ _ _ _ ⟨ρ', rfl, h2, h3, h4, h5, h6⟩
    · simp at hl
  | cond c x y ihx ihy =>
    intro lc env S e env' S' a w ρ Q hl hx hlen hr hf hQ
    simp only [lowCode] at hl
    split at hl
    · rename_i z lx ly hz hlx hly
      simp only [Option.some.injEq] at hl
      subst hl
      have hc : VR w ρ S.heap (opd [] env z) (a.eval c) := opd_ok hz hs (by simp) fun t ht => hf.2 t (tmp_in (ht ▸ hz) hs (by simp))
      simp only [exCode] at hx
      split at hx
      · rename_i hb
        rw [hb] at hc
        generalize hv : a.eval c = v at hc
        cases hc
        exact wp_cond_true hv (ihx lx env S e env' S' a w ρ Q hlx hx hlen hr hf hQ)
      · rename_i hb
        rw [hb] at hc
        generalize hv : a.eval c = v at hc
        cases hc
        exact wp_cond_false hv (ihy ly env S e env' S' a w ρ Q hly hx hlen hr hf hQ)
      · simp at hx
    · simp at hl
  | block i c ih =>
    intro lc env S e env' S' a w ρ Q hl hx hlen hr hf hQ
    simp only [lowCode, Option.map_eq_some_iff] at hl
    obtain ⟨lc, hlc, rfl⟩ := hl
    simp only [exCode] at hx
    refine wp_block ?_
    cases hex : exCode call N lc env S with
    | none => simp [hex] at hx
    | some q =>
      obtain ⟨e1, env1, S1⟩ := q
      rw [hex] at hx
      refine ih lc env S e1 env1 S1 a w ρ _ hlc hex hlen hr hf ?_
      rintro ex a' w' ⟨ρ', h1, h2, h3, h4, h5, h6⟩
      cases e1 with
      | normal =>
        simp only [Option.some.injEq, Prod.mk.injEq] at hx
        obtain ⟨rfl, rfl, rfl⟩ := hx
        simp only [exOf] at h1
        subst h1
        exact hQ _ _ _ ⟨ρ', rfl, h2, h3, h4, h5, h6⟩
      | ret =>
        simp only [Option.some.injEq, Prod.mk.injEq] at hx
        obtain ⟨rfl, rfl, rfl⟩ := hx
        simp only [exOf] at h1
        subst h1
        exact hQ _ _ _ ⟨ρ', rfl, h2, h3, h4, h5, h6⟩
      | exit j =>
        simp only [exOf] at h1
        subst h1
        simp only at hx
        simp only [Exit.inBlock]
        split at hx
        · rename_i hj
          rw [if_pos hj]
          simp only [Option.some.injEq, Prod.mk.injEq] at hx
          obtain ⟨rfl, rfl, rfl⟩ := hx
          exact hQ _ _ _ ⟨ρ', rfl, h2, h3, h4, h5, h6⟩
        · rename_i hj
          rw [if_neg hj]
          simp only [Option.some.injEq, Prod.mk.injEq] at hx
          obtain ⟨rfl, rfl, rfl⟩ := hx
          exact hQ _ _ _ ⟨ρ', rfl, h2, h3, h4, h5, h6⟩
  | loop c ih =>
    intro lc env S e env' S' a w ρ Q hl hx hlen hr hf hQ
    simp only [lowCode, Option.map_eq_some_iff] at hl
    obtain ⟨lc, hlc, rfl⟩ := hl
    simp only [exCode] at hx
    have key : ∀ (n : Nat) (env : List D) (S : St) (a : Act) (w : World) (ρ : RMap), loopN (exCode call N lc) n env S = some (e, env', S') → env.length = slots.length → Rel w ρ S.heap → FR w ρ S.heap nt (sig slots [] [] env) a → (∀ ex a' w', CQ w ρ S slots nt a.defers e env' S' ex a' w' → Q ex a' w') → Code.rounds P c Q n a w := by
      intro n
      induction n with
      | zero => intro env S a w ρ hx; simp [loopN] at hx
      | succ n ihn =>
        intro env S a w ρ hx hlen hr hf hQ
        rw [rounds_succ]
        simp only [loopN] at hx
        cases hex : exCode call N lc env S with
        | none => simp [hex] at hx
        | some q =>
          obtain ⟨e1, env1, S1⟩ := q
          rw [hex] at hx
          refine ih lc env S e1 env1 S1 a w ρ _ hlc hex hlen hr hf ?_
          rintro ex a' w' ⟨ρ', h1, h2, h3, h4, h5, h6⟩
          cases e1 with
          | normal =>
            simp only at hx
            simp only [exOf] at h1
            subst h1
            refine ihn env1 S1 a' w' ρ' hx h6 h2 h4 ?_
            rintro ex a2 w2 ⟨ρ2, k1, k2, k3, k4, k5, k6⟩
            exact hQ _ _ _ ⟨ρ2, k1, k2, h3.trans k3, k4, k5.trans h5, k6⟩
          | ret =>
            simp only [Option.some.injEq, Prod.mk.injEq] at hx
            obtain ⟨rfl, rfl, rfl⟩ := hx
            simp only [exOf] at h1
            subst h1
            exact hQ _ _ _ ⟨ρ', rfl, h2, h3, h4, h5, h6⟩
          | exit i =>
            simp only [Option.some.injEq, Prod.mk.injEq] at hx
            obtain ⟨rfl, rfl, rfl⟩ := hx
            simp only [exOf] at h1
            subst h1
            exact hQ _ _ _ ⟨ρ', rfl, h2, h3, h4, h5, h6⟩
    exact wp_loop_rounds N (key N env S a w ρ hx hlen hr hf hQ)
  | rangeFunc => intro lc env S e env' S' a w ρ Q hl hx; simp only [lowCode, Option.some.injEq] at hl; subst hl; simp [exCode] at hx
  | scope c ih =>
    intro lc env S e env' S' a w ρ Q hl hx hlen hr hf hQ
    simp only [lowCode] at hl
    refine wp_scope_straight (ih lc env S e env' S' a w ρ _ hl hx hlen hr hf ?_)
    intro ex a' w' hc
    have hq := hQ ex a' w' hc
    obtain ⟨ρ', h1, _⟩ := hc
    cases e <;> simp only [exOf] at h1 <;> subst h1 <;> exact hq
  | label =>
    intro lc env S e env' S' a w ρ Q hl hx hlen hr hf hQ
    simp only [lowCode, Option.some.injEq] at hl
    subst hl
    simp only [exCode, Option.some.injEq, Prod.mk.injEq] at hx
    obtain ⟨rfl, rfl, rfl⟩ := hx
    exact wp_label (hQ _ _ _ ⟨ρ, rfl, hr, Stp.refl _ _ _, hf, rfl, hlen⟩)
  | goto => intro lc env S e env' S' a w ρ Q hl hx; simp only [lowCode, Option.some.injEq] at hl; subst hl; simp [exCode] at hx
  | refuse => intro lc env S e env' S' a w ρ Q hl hx; simp only [lowCode, Option.some.injEq] at hl; subst hl; simp [exCode] at hx
end

/-! results -/
def resSem (tmps : Array Value) : ResultVar → Sem Value
  | .tmp t => pure (tmps.getD t undef)
  | .cell a t => do loadVar t (← asAddr (tmps.getD a undef))
theorem results_eq (fn : Func) (tmps : Array Value) : results fn tmps = (do let vs ← fn.results.mapM (resSem tmps); pure (if h : vs.size = 1 then vs[0] else .tuple vs)) := by
  unfold results
  congr 1
section
variable {P : Program} {w : World} {ρ : RMap} {S : St}
theorem res_ok {nt : Nat} {slots : List Nat} {env : List D} {a : Act} (hr : Rel w ρ S.heap) (hs : slots.all (· < nt) = true) (hf : FR w ρ S.heap nt (sig slots [] [] env) a) : ∀ {rs : List ResultVar} {ls : List LRes} {ds : List D}, lowRes P slots rs = some ls → resDs env S ls = some ds →
    ∃ vs, (rs.mapM (resSem a.tmps)).run P w = .ok vs w ∧ VL w ρ S.heap ds vs
  | [], ls, ds, hl, hd => by
    simp only [lowRes, Option.some.injEq] at hl
    subst hl
    simp only [resDs, Option.some.injEq] at hd
    subst hd
    exact ⟨[], by simp, .nil⟩
  | .tmp t :: rs, ls, ds, hl, hd => by
    simp only [lowRes] at hl
    split at hl
    · rename_i j m hj hm
      simp only [Option.some.injEq] at hl
      subst hl
      simp only [resDs, resD] at hd
      split at hd
      · rename_i x y hx hy
        simp only [Option.some.injEq] at hd hx
        subst hd hx
        obtain ⟨vs, h1, h2⟩ := res_ok hr hs hf hm hy
        have ht : t < nt := by
          have := List.all_eq_true.1 hs t (List.mem_of_getElem? (idxOf_mem hj))
          simpa using this
        have h3 := hf.2 t ht
        unfold sig at h3
        simp only [locOf, hj] at h3
        exact ⟨a.tmps.getD t undef :: vs, by rw [List.mapM_cons, run_ok_bind (a := a.tmps.getD t undef) (w' := w) rfl, run_ok_bind h1]; rfl, .cons h3 h2⟩
      · simp at hd
    · simp at hl
  | .cell ad t :: rs, ls, ds, hl, hd => by
    simp only [lowRes] at hl
    split at hl
    · rename_i j n m hj hn hm
      simp only [Option.some.injEq] at hl
      subst hl
      simp only [resDs, resD] at hd
      split at hd
      · rename_i x y hx hy
        simp only [Option.some.injEq] at hd
        subst hd
        obtain ⟨vs, h1, h2⟩ := res_ok hr hs hf hm hy
        have ht : ad < nt := by
          have := List.all_eq_true.1 hs ad (List.mem_of_getElem? (idxOf_mem hj))
          simpa using this
        have h3 := hf.2 ad ht
        unfold sig at h3
        simp only [locOf, hj] at h3
        obtain ⟨v, h4, h5⟩ := load_ok (P := P) hr h3 hx hn rfl
        have h6 : (resSem a.tmps (.cell ad t)).run P w = .ok v w := by
          rw [← h4]
          show (do loadVar t (← asAddr (a.tmps.getD ad undef)) : Sem Value).run P w = _
          generalize a.tmps.getD ad undef = u at h3 ⊢
          generalize env.getD j .undef = du at h3 hx
          unfold loadD at hx
          split at hx
          · cases h3; simp [Instr.loadAt, Instr.sureAddr, asAddr]
          · cases h3; simp [Instr.loadAt, Instr.sureAddr, asAddr]
          · simp at hx
        exact ⟨v :: vs, by rw [List.mapM_cons, run_ok_bind h6, run_ok_bind h1]; rfl, .cons h5 h2⟩
      · simp at hd
    · simp at hl
theorem results_ok {nt : Nat} {slots : List Nat} {env : List D} {a : Act} {fn : Func} {ls : List LRes} {r : D} (hr : Rel w ρ S.heap) (hs : slots.all (· < nt) = true) (hf : FR w ρ S.heap nt (sig slots [] [] env) a) (hl : lowRes P slots fn.results.toList = some ls) (hd : resultD env S ls = some r) :
    ∃ v, (results fn a.tmps).run P w = .ok v w ∧ VR w ρ S.heap r v := by
  unfold resultD at hd
  cases hds : resDs env S ls with
  | none => simp [hds] at hd
  | some ds =>
    obtain ⟨vs, h1, h2⟩ := res_ok (P := P) hr hs hf hl hds
    have hrun : (results fn a.tmps).run P w = .ok (if h : vs.toArray.size = 1 then vs.toArray[0] else .tuple vs.toArray) w := by
      rw [results_eq]
      have e : fn.results = fn.results.toList.toArray := by simp
      rw [e, List.mapM_toArray]
      have : (List.toArray <$> fn.results.toList.mapM (resSem a.tmps)).run P w = .ok vs.toArray w := by
        rw [map_eq_pure_bind, run_ok_bind h1]
        rfl
      rw [run_ok_bind this]
      rfl
    refine ⟨_, hrun, ?_⟩
    have hlen := h2.len
    rw [hds] at hd
    split at hd
    · rename_i x hx
      simp only [Option.some.injEq] at hd hx
      subst hd hx
      cases h2 with
      | cons h t => cases t with
        | nil => simpa using h
    · rename_i xs hne hxs
      simp only [Option.some.injEq] at hd hxs
      subst hd hxs
      have h1 : ¬ vs.toArray.size = 1 := by
        intro h
        simp only [List.size_toArray] at h
        rw [hlen] at h
        obtain ⟨x, hx⟩ := List.length_eq_one_iff.1 h
        exact hne x (by rw [hx])
      rw [dif_neg h1]
      exact .tup ds vs hlen (fun j d v => h2.get)
    · rename_i h; simp at h

/-! calls -/
theorem Stp.relow {w' : World} {ρ' : RMap} {n : Nat} {S2 : St} (h : Stp w ρ ⟨S.heap, n⟩ w' ρ' S2) : Stp w ρ S w' ρ' ⟨S2.heap, min S.low S2.low⟩ :=
  ⟨h.hid, h.os, h.tape, h.output, h.size, Nat.min_le_left _ _, h.out, h.imm, fun g b o ho hg hb => h.keep g b o ho (Nat.lt_of_lt_of_le hg (Nat.min_le_right _ _)) hb, fun g o ho => by
    obtain ⟨o', h1, h2, h3, h4⟩ := h.obj g o ho
    exact ⟨o', h1, h2, fun hg => h3 (Nat.lt_of_lt_of_le hg (Nat.min_le_right _ _)), h4⟩⟩
/-- nothing that was there has been written -/
theorem Stp.clean {w' : World} {ρ' : RMap} {S2 : St} (hr : Rel w ρ S.heap) (h : Stp w ρ ⟨S.heap, S.heap.length⟩ w' ρ' S2) (hlow : S.heap.length ≤ S2.low) : Stp w ρ S w' ρ S :=
  ⟨rfl, h.os, h.tape, h.output, h.size, Nat.le_refl _, fun b hb hg => ⟨(h.out b hb hg).1, hg⟩, fun b q hi => ⟨(h.imm b q hi).1, Nat.lt_of_lt_of_le hi.1 h.size, hi.2⟩,
    fun g b o ho hg hb => h.keep g b o ho (Nat.lt_of_lt_of_le (lt_of_some ho) hlow) hb, fun g o ho => ⟨o, ho, ⟨Nat.le_refl _, rfl⟩, fun _ => rfl, fun _ => ⟨rfl, rfl, rfl, Nat.le_refl _, fun b cur hb hc => ⟨cur, (h.keep g b o ho (Nat.lt_of_lt_of_le (lt_of_some ho) hlow) hb).trans hc, rfl⟩⟩⟩⟩
section
variable {w' : World} {ρ' : RMap} {S2 : St} (hr : Rel w ρ S.heap) (hr2 : Rel w' ρ' S2.heap) (h : Stp w ρ ⟨S.heap, S.heap.length⟩ w' ρ' S2) (hlow : S.heap.length ≤ S2.low)
include hr h hlow
theorem leave_map {g b : Nat} (hb : ρ g = some b) : g < S.heap.length ∧ ρ' g = some b ∧ S2.heap[g]? = S.heap[g]? := by
  have hg := hr.in hb
  obtain ⟨o', h1, h2, h3, h4⟩ := h.obj g S.heap[g] (List.getElem?_eq_getElem hg)
  have := h3 (Nat.lt_of_lt_of_le hg hlow)
  subst this
  exact ⟨hg, by rw [(h4 rfl).1]; exact hb, by rw [h1, List.getElem?_eq_getElem hg]⟩
theorem leave_imm {b q : Nat} (hi : Imm w' ρ' S2.heap b q) : Imm w' ρ S.heap b q :=
  ⟨hi.1, by rw [← h.hid]; exact hi.2.1, fun g hg => by
    obtain ⟨_, h1, h2⟩ := leave_map hr h hlow hg
    rw [← h2]
    exact hi.2.2 g h1⟩
theorem leave_out : ∀ b es c, w'.heap[b]? = some (.map es c) → (∀ g, ρ' g ≠ some b) → ¬ ρ'.X b 0 → w'.heap[b]? = w'.heap[b]? ∧ (∀ g, ρ g ≠ some b) ∧ ¬ ρ.X b 0 :=
  fun b _ _ _ hg hx => ⟨rfl, fun g hb => hg g (leave_map hr h hlow hb).2.1, by rw [← h.hid]; exact hx⟩
include hr2
theorem snap_leave {d r : D} {v : Value} (hv : VR w' ρ' S2.heap d v) (hs : snap S.heap.length S2.heap d = some r) (hf : r.free = true) : VR w' ρ S.heap r v := by
  unfold snap at hs
  split at hs
  · rename_i g ver lo n cap
    cases hv with
    | msl _ _ _ _ _ A c ob hnc hcap hg hver hk3 hcur =>
      simp only [hg] at hs
      split at hs
      · rename_i hk
        simp only [Option.some.injEq] at hs
        subst hs
        obtain ⟨b, hρ, hlo, hA, hcp⟩ := hcur hk.1
        obtain ⟨o1, ho1, cur, hc, hz, ⟨cc, hcc, hcl, hcm, hcg⟩, hl, hkk, hh⟩ := hr2.cel hρ hg hk3
        rw [hg] at ho1
        injection ho1 with ho1
        subst ho1
        have hlen : ((ob.rows.drop lo).take n).length = n := by simp; omega
        have hcell : ∀ i r' j d, ((ob.rows.drop lo).take n)[i]? = some r' → r'[j]? = some d → w'.cell? ⟨b, lo * ob.sz + i * ob.sz + j, none⟩ = some (cur.getD ((lo + i) * ob.sz + j) undef) ∧ Imm w' ρ S.heap b (lo * ob.sz + i * ob.sz + j) ∧ d.free = true ∧ VR w' ρ' S2.heap d (cur.getD ((lo + i) * ob.sz + j) undef) := by
          intro i r' j d hi hj
          obtain ⟨h1, h2⟩ := drop_take_get hi
          obtain ⟨h3, h4, v, hv1, hv2⟩ := hh _ r' j d h1 hj
          obtain ⟨h5, h6⟩ := Array.getElem?_eq_some_iff.1 hv1
          have hg1 : cur.getD ((lo + i) * ob.sz + j) undef = v := by simp [Array.getD, h5, h6]
          rw [hg1]
          refine ⟨?_, ⟨lt_of_heap hc, fun hx => (hr2.hid _ _ (by rw [h.hid]; exact hx)).2 g hρ, fun g' hg' => ?_⟩, h4 (by omega), hv2⟩
          · rw [cell_of_row w' b _ cur ob.elem (0, 0) hc, ← hv1]
            congr 1
            rw [Nat.add_mul]
          · obtain ⟨q1, q2, q3⟩ := leave_map hr h hlow hg'
            have := hr2.inj g' g b q2 hρ
            subst this
            rcases hk.2 with hk1 | hk1
            · refine ⟨ob, by rw [← q3]; exact hg, hk1, ?_⟩
              have h7 : j < ob.sz := by rw [← hl r' (List.mem_of_getElem? h1)]; exact lt_of_some hj
              have h8 : lo + i < ob.rows.length := lt_of_some h1
              have := row_in h8 h7
              rwa [Nat.add_mul] at this
            · omega
        refine .sl ob.sz _ _ A n c hlen.symm hnc (fun k hk' => ?_) (fun r hr' => hl r (mem_drop_take hr')) b (lo * ob.sz) (fun i j => cur.getD ((lo + i) * ob.sz + j) undef) (fun hne => hA ?_) (fun i r' j d hi hj => ?_) (fun i r' j d hi hj => ?_)
        · cases cap with
          | some c' => simp only [Option.some.injEq] at hk'; subst hk'; exact hcap _ rfl
          | none =>
            simp only at hk'
            split at hk'
            · simp at hk'
            · rename_i hgr
              simp only [Option.some.injEq] at hk'
              obtain ⟨cur', hc1, hc2⟩ := hcp rfl
              rw [hc] at hc1
              injection hc1 with hc1
              injection hc1 with hc1
              subst hc1
              have h1 := hcg (by simpa using hgr)
              rw [hcc] at hc2
              have := Nat.eq_of_mul_eq_mul_right hz hc2
              omega
        · left
          intro h0
          subst h0
          simp at hne
        · obtain ⟨q1, q2, q3, _⟩ := hcell i r' j d hi hj
          exact ⟨q1, q2, q3⟩
        · obtain ⟨_, _, q3, q4⟩ := hcell i r' j d hi hj
          exact q4.free_mono (fun b q hi => ⟨rfl, leave_imm hr h hlow hi⟩) (leave_out hr h hlow) q3
      · simp at hs
  · rename_i g ver
    split at hs
    · rename_i hmg
      cases hv with
      | mref _ _ b ob hg hver hcur =>
        simp only [hg] at hs
        split at hs
        · rename_i hk
          simp only [Option.some.injEq] at hs
          subst hs
          have hρ := hcur hk.1
          obtain ⟨es, clock, hc, hsz, hl, hall⟩ := hr2.map hρ hg hk.2.1 hk.2.2
          have hval : ∀ i, i < ob.rows.length → ∃ e, es[i]? = some e ∧ e.key = ((es[i]?).map (·.key)).getD undef ∧ e.val = ((es[i]?).map (·.val)).getD undef := by
            intro i hi
            have hie : i < es.size := by omega
            exact ⟨es[i], Array.getElem?_eq_getElem hie, by simp [hie], by simp [hie]⟩
          refine .mp ob.rows b clock es (fun i j => if j = 0 then ((es[i]?).map (·.key)).getD undef else ((es[i]?).map (·.val)).getD undef) hc (fun hx => (hr2.hid _ _ (by rw [h.hid]; exact hx)).2 g hρ) (fun g' hg' => ?_) hsz hl (fun i hi => ?_) (fun i r' j d hi hj => ?_) (fun i r' j d hi hj => ?_)
          · obtain ⟨q1, q2, _⟩ := leave_map hr h hlow hg'
            have := hr2.inj g' g b q2 hρ
            omega
          · obtain ⟨e, h1, h2, h3⟩ := hval i hi
            exact ⟨e, h1, by simpa using h2, by simpa using h3⟩
          · obtain ⟨e, k, v, h1, h2, h3, h4, _, _⟩ := hall i r' hi
            subst h2
            match j, hj with
            | 0, hj => simp at hj; subst hj; exact ⟨free_V h3.1, by cases k <;> first | exact h3.2 | (simp [D.isCell] at h3; done)⟩
            | 1, hj => simp at hj; subst hj; exact h4
          · obtain ⟨e, k, v, h1, h2, h3, h4, h5, h6⟩ := hall i r' hi
            subst h2
            match j, hj with
            | 0, hj =>
              simp at hj
              subst hj
              simp only [if_true, h1, Option.map_some, Option.getD_some]
              exact h5.free_mono (fun b q hi => ⟨rfl, leave_imm hr h hlow hi⟩) (leave_out hr h hlow) h3.1
            | 1, hj =>
              simp at hj
              subst hj
              simp only [Nat.one_ne_zero, if_false, h1, Option.map_some, Option.getD_some]
              exact h6.freeV_mono (fun b q hi => ⟨rfl, leave_imm hr h hlow hi⟩) (leave_out hr h hlow) h4.1
        · simp at hs
    · simp only [Option.some.injEq] at hs
      subst hs
      simp [D.free] at hf
  · simp only [Option.some.injEq] at hs
    subst hs
    exact hv.free_mono (fun b q hi => ⟨rfl, leave_imm hr h hlow hi⟩) (leave_out hr h hlow) hf
theorem snaps_leave : ∀ {ds rs : List D} {vs : List Value}, VL w' ρ' S2.heap ds vs → snaps S.heap.length S2.heap ds = some rs → rs.all D.free = true → VL w' ρ S.heap rs vs
  | [], rs, _, .nil, hs, _ => by simp only [snaps, Option.some.injEq] at hs; subst hs; exact .nil
  | d :: ds, rs, _, .cons hd ht, hs, hf => by
    unfold snaps at hs
    split at hs
    · rename_i x y hx hy
      simp only [Option.some.injEq] at hs
      subst hs
      simp only [List.all_cons, Bool.and_eq_true] at hf
      exact .cons (snap_leave hr hr2 h hlow hd hx hf.1) (snaps_leave ht hy hf.2)
    · simp at hs
theorem snapV_leave {d r : D} {v : Value} (hv : VR w' ρ' S2.heap d v) (hs : snapV S.heap.length S2.heap d = some r) (hf : r.freeV = true) : VR w' ρ S.heap r v := by
  unfold snapV at hs
  split at hs
  · simp only [Option.map_eq_some_iff] at hs
    obtain ⟨rs, hrs, rfl⟩ := hs
    cases hv with
    | agg _ vs hl hc hh =>
      have h1 := snaps_leave hr hr2 h hlow (VL.of hl hh) hrs hf
      exact .agg rs vs h1.len (List.all_eq_true.2 fun x hx => free_cell (List.all_eq_true.1 hf x hx)) (fun j d v => h1.get)
  · rename_i hna
    refine snap_leave hr hr2 h hlow hv hs ?_
    unfold D.freeV at hf
    split at hf
    · rename_i cs
      unfold snap at hs
      repeat' (first | (simp at hs; done) | (split at hs))
      all_goals try (simp at hs; done)
      all_goals
        simp only [Option.some.injEq] at hs
        subst hs
        exact absurd rfl (hna cs)
    · exact hf
theorem snapVs_leave : ∀ {ds rs : List D} {vs : List Value}, VL w' ρ' S2.heap ds vs → snapVs S.heap.length S2.heap ds = some rs → rs.all D.freeV = true → VL w' ρ S.heap rs vs
  | [], rs, _, .nil, hs, _ => by simp only [snapVs, Option.some.injEq] at hs; subst hs; exact .nil
  | d :: ds, rs, _, .cons hd ht, hs, hf => by
    unfold snapVs at hs
    split at hs
    · rename_i x y hx hy
      simp only [Option.some.injEq] at hs
      subst hs
      simp only [List.all_cons, Bool.and_eq_true] at hf
      exact .cons (snapV_leave hr hr2 h hlow hd hx hf.1) (snapVs_leave ht hy hf.2)
    · simp at hs
theorem snapR_leave {d r : D} {v : Value} (hv : VR w' ρ' S2.heap d v) (hs : snapR S.heap.length S2.heap d = some r) (hf : r.freeR = true) : VR w' ρ S.heap r v := by
  unfold snapR at hs
  split at hs
  · simp only [Option.map_eq_some_iff] at hs
    obtain ⟨rs, hrs, rfl⟩ := hs
    cases hv with
    | tup _ vs hl hh =>
      have h1 := snapVs_leave hr hr2 h hlow (VL.of hl hh) hrs hf
      exact .tup rs vs h1.len (fun j d v => h1.get)
  · rename_i hna
    refine snapV_leave hr hr2 h hlow hv hs ?_
    unfold D.freeR at hf
    split at hf
    · rename_i cs
      unfold snapV at hs
      split at hs
      · simp at hs
      · unfold snap at hs
        repeat' (first | (simp at hs; done) | (split at hs))
        all_goals try (simp at hs; done)
        all_goals
          simp only [Option.some.injEq] at hs
          subst hs
          exact absurd rfl (hna cs)
    · exact hf
end
theorem leave_ok {w' : World} {ρ' : RMap} {S2 S' : St} {raw : Bool} {r0 r : D} {v : Value} {wr : Bool} (hr : Rel w ρ S.heap) (hr2 : Rel w' ρ' S2.heap) (h : Stp w ρ ⟨S.heap, S.heap.length⟩ w' ρ' S2) (hv : VR w' ρ' S2.heap r0 v) (hl : leave raw S r0 S2 = some (r, S', wr)) : OpPost w ρ S r S' wr v w' := by
  unfold leave at hl
  split at hl
  · simp only [Option.some.injEq, Prod.mk.injEq] at hl
    obtain ⟨rfl, rfl, rfl⟩ := hl
    exact ⟨ρ', hr2, h.relow, hv, by simp⟩
  · split at hl
    · rename_i r' hc
      simp only [Option.some.injEq, Prod.mk.injEq] at hl
      obtain ⟨rfl, rfl, rfl⟩ := hl
      split at hc
      · rename_i hlow
        split at hc
        · rename_i r1 hs
          split at hc
          · rename_i hf
            simp only [Option.some.injEq] at hc
            subst hc
            have hst := h.clean hr hlow
            refine ⟨ρ, ⟨hr.inj, fun g b hb => ?_, hr.hids hst⟩, hst, snapR_leave hr hr2 h hlow hv hs hf, fun _ => ⟨⟨h.os, h.tape, h.output, h.size, fun b hb => ?_⟩, rfl, rfl⟩⟩
            · obtain ⟨o, ho, hk⟩ := hr.obj g b hb
              exact ⟨o, ho, hk.mono hst (h.keep g b o ho (Nat.lt_of_lt_of_le (lt_of_some ho) hlow) hb)⟩
            · by_cases hex : ∃ g, ρ g = some b
              · obtain ⟨g, hg⟩ := hex
                obtain ⟨o, ho, _⟩ := hr.obj g b hg
                exact h.keep g b o ho (Nat.lt_of_lt_of_le (lt_of_some ho) hlow) hg
              · exact (h.out b hb fun g hg => hex ⟨g, hg⟩).1
          · simp at hc
        · simp at hc
      · simp at hc
    · split at hl
      · rename_i r' hs
        simp only [Option.some.injEq, Prod.mk.injEq] at hl
        obtain ⟨rfl, rfl, rfl⟩ := hl
        exact ⟨ρ', hr2, h.relow, snapR_ok hr2 (Nat.le_refl _) hv hs, by simp⟩
      · simp at hl
end

/-- the functions that the machine knows are the program's -/
def PrgOK (P : Program) (L : Prg) : Prop := ∀ f F, L.fns f = some F → ∃ fn mt slots, P.funcs[f]? = some fn ∧ lowFn P mt slots fn = some F

theorem run_clean (L : Prg) (N : Nat) : ∀ d, CallClean (runF L N d)
  | 0 => fun f ds S r S' h => by simp [runF] at h
  | d + 1 => fun f ds S r S' h => by
    simp only [runF] at h
    repeat' (first | (simp at h; done) | (split at h))
    all_goals try (simp at h; done)
    all_goals
      first | unfold leaveP at h | unfold leave at h
      repeat' (first | (simp at h; done) | (split at h))
      all_goals first
        | (simp at h; done)
        | (simp only [Option.some.injEq, Prod.mk.injEq] at h; exact h.2.1.symm)

/-! a call on the empty heap -/
theorem VR.freeR_mono {w w' : World} {ρ ρ' : RMap} {H H' : List AObj} (hi : ∀ b q, Imm w ρ H b q → w'.cell? ⟨b, q, none⟩ = w.cell? ⟨b, q, none⟩ ∧ Imm w' ρ' H' b q) (ho : ∀ b es c, w.heap[b]? = some (.map es c) → (∀ g, ρ g ≠ some b) → ¬ ρ.X b 0 → w'.heap[b]? = w.heap[b]? ∧ (∀ g, ρ' g ≠ some b) ∧ ¬ ρ'.X b 0) {d : D} {v : Value} (h : VR w ρ H d v) (hf : d.freeR = true) : VR w' ρ' H' d v := by
  unfold D.freeR at hf
  split at hf
  · cases h with
    | tup _ vs hl hh => exact .tup _ vs hl fun j d v h1 h2 => (hh j d v h1 h2).freeV_mono hi ho (List.all_eq_true.1 hf d (List.mem_of_getElem? h1))
  · exact h.freeV_mono hi ho hf
/-- all objects hidden -/
def hide (ρ : RMap) (H : List AObj) : RMap := ⟨fun _ => none, fun b q => ρ.X b q ∨ ∃ g, ρ g = some b ∧ ¬ ∃ o, H[g]? = some o ∧ o.kind = 1 ∧ q < o.rows.length * o.sz⟩
theorem hide_rel {w : World} {ρ : RMap} {H : List AObj} (hr : Rel w ρ H) : Rel w (hide ρ H) [] :=
  ⟨fun g g' b h => (by cases h), fun g b h => (by cases h), fun b q hx => ⟨(by
    rcases hx with hx | ⟨g, hg, _⟩
    · exact (hr.hid b q hx).1
    · exact hr.lt hg), fun g h => (by cases h)⟩⟩
theorem hide_in {w : World} {ρ : RMap} {H : List AObj} {d : D} {v : Value} (h : VR w ρ H d v) (hf : d.freeV = true) : VR w (hide ρ H) [] d v := by
  refine h.freeV_mono (fun b q hi => ⟨rfl, hi.1, fun hx => ?_, fun g h => (by cases h)⟩) (fun b es c hb hg hx => ⟨rfl, fun g h => (by cases h), fun hx' => ?_⟩) hf
  · rcases hx with hx | ⟨g, hg, hn⟩
    · exact hi.2.1 hx
    · exact hn (hi.2.2 g hg)
  · rcases hx' with hx' | ⟨g, hg', _⟩
    · exact hx hx'
    · exact hg g hg'
theorem hide_out {w : World} {ρ : RMap} {H : List AObj} (hr : Rel w ρ H) {d : D} {v : Value} (h : VR w (hide ρ H) [] d v) (hf : d.freeR = true) : VR w ρ H d v := by
  have key : ∀ b q, ¬ (hide ρ H).X b q → ¬ ρ.X b q ∧ ∀ g, ρ g = some b → ∃ o, H[g]? = some o ∧ o.kind = 1 ∧ q < o.rows.length * o.sz := by
    intro b q hx
    refine ⟨fun h => hx (.inl h), fun g hg => ?_⟩
    exact Classical.byContradiction fun hn => hx (.inr ⟨g, hg, hn⟩)
  refine h.freeR_mono (fun b q hi => ⟨rfl, hi.1, key b q hi.2.1⟩) (fun b es c hb hg hx => ⟨rfl, fun g hg' => ?_, (key b 0 hx).1⟩) hf
  obtain ⟨o, ho, hk, _⟩ := (key b 0 hx).2 g hg'
  obtain ⟨o', ho', hok⟩ := hr.obj g b hg'
  rw [ho] at ho'
  injection ho' with ho'
  subst ho'
  obtain ⟨cur, hc, _⟩ := hok.1 (by omega)
  rw [hb] at hc
  cases hc

theorem run_ok {P : Program} {L : Prg} (hm : P.follows .mixedOrders = true) (hL : PrgOK P L) (N : Nat) : ∀ d, CallOK P (runF L N d)
  | 0 => fun f ds S r S' wr h => by simp [runF] at h
  | d + 1 => by
    have ih := run_ok hm hL N d
    intro f ds S r S' wr h w ρ vs hr hv
    simp only [runF] at h
    cases hF : L.fns f with
    | none => simp [hF] at h
    | some F =>
      simp only [hF] at h
      obtain ⟨fn, mt, slots, hfn, hlow⟩ := hL f F hF
      unfold lowFn at hlow
      cases hb : fn.body with
      | none => simp [hb] at hlow
      | some c =>
        simp only [hb] at hlow
        split at hlow
        · rename_i lc ls hlc hls
          split at hlow
          · simp at hlow
          · rename_i hname
            split at hlow
            · rename_i hsl
              simp only [Bool.and_eq_true, decide_eq_true_eq] at hsl
              obtain ⟨hsl, hle⟩ := hsl
              simp only [Option.some.injEq] at hlow
              subst hlow
              split at h
              · simp at h
              · rename_i args' hargs
                have hva : VL w ρ S.heap args' vs := by
                  split at hargs
                  · simp only [Option.some.injEq] at hargs; subst hargs; exact hv
                  · exact snapVs_ok hr (Nat.le_refl _) hv hargs
                simp only [ne_eq, ite_not] at h
                split at h
                · rename_i hlen
                  have body : ∀ (ρ0 : RMap) (S0 S2 : St) (e : LExit) (env' : List D) (r0 : D) (Post : Value → World → Prop), Rel w ρ0 S0.heap → VL w ρ0 S0.heap args' vs → exCode (runF L N d) N lc (slots.map fun s => args'.getD s .undef) ⟨S0.heap, S0.heap.length⟩ = some (e, env', S2) → (e = .normal ∨ e = .ret) → resultD env' S2 ls = some r0 →
                      (∀ w' ρ' v, Rel w' ρ' S2.heap → Stp w ρ0 ⟨S0.heap, S0.heap.length⟩ w' ρ' S2 → VR w' ρ' S2.heap r0 v → Post v w') → (callFunc f vs.toArray).run P w = .ok (.enter f vs.toArray) w ∧ Calls P f vs.toArray w fun e w' => ∃ v, e = .returned v ∧ Post v w' := by
                    intro ρ0 S0 S2 e env' r0 Post hr hva hex he hr0 hpost
                    have hnm : (fn.name == "runtime.NumGoroutine") = false := by simpa using hname
                    refine ⟨by simp [callFunc, hfn, hname, hb], ?_⟩
                    refine calls_of_wp hfn hb ?_
                    have hvl := hva.len
                    have hnt : fn.params.size + fn.nfree = vs.length := by rw [hvl, hlen]
                    have hfr : FR w ρ0 S0.heap fn.ntmps (sig slots [] [] (slots.map fun s => args'.getD s .undef)) { tmps := vs.toArray ++ Array.replicate (fn.ntmps - vs.toArray.size) undef, defers := [] } := by
                      refine ⟨by simp; omega, fun t ht => ?_⟩
                      unfold sig
                      simp only [locOf]
                      cases hj : idxOf slots t with
                      | none => exact .undef _
                      | some j =>
                        have hm := idxOf_mem hj
                        simp only [List.getD, List.getElem?_map, hm, Option.map_some, Option.getD_some]
                        by_cases htl : t < vs.length
                        · have h1 : args'[t]? = some (args'[t]'(by omega)) := List.getElem?_eq_getElem (by omega)
                          have h2 : (vs.toArray ++ Array.replicate (fn.ntmps - vs.toArray.size) undef).getD t undef = vs[t] := by
                            rw [Array.getD_eq_getD_getElem?, Array.getElem?_append_left (by simpa using htl)]
                            simp [htl]
                          rw [h1, h2]
                          exact hva.get h1 (List.getElem?_eq_getElem htl)
                        · rw [List.getElem?_eq_none (by omega)]
                          exact .undef _
                    refine code_ok hm ih (run_clean L N d) hsl c lc _ ⟨S0.heap, S0.heap.length⟩ e env' S2 _ w ρ0 _ hlc hex (by simp) hr hfr ?_
                    rintro ex a' w' ⟨ρ', h1, h2, h3, h4, h5, h6⟩
                    obtain ⟨v, h7, h8⟩ := results_ok (P := P) h2 hsl h4 hls hr0
                    have hp := hpost w' ρ' v h2 h3 h8
                    rcases he with rfl | rfl
                    · simp only [exOf] at h1
                      subst h1
                      exact ⟨h5, v, h7, v, rfl, hp⟩
                    · simp only [exOf] at h1
                      subst h1
                      exact ⟨h5, v, h7, v, rfl, hp⟩
                  split at h
                  · rename_i hpure
                    simp only [Bool.and_eq_true] at hpure
                    cases hex : exCode (runF L N d) N lc (slots.map fun s => args'.getD s .undef) ⟨[], 0⟩ with
                    | none => rw [hex] at h; simp at h
                    | some q =>
                      obtain ⟨e, env', S2⟩ := q
                      simp only [hex] at h
                      have hne : (e = .normal ∨ e = .ret) ∧ ∃ r0, resultD env' S2 ls = some r0 ∧ leaveP S r0 S2 = some (r, S', wr) := by
                        cases e with
                        | exit i => simp at h
                        | normal =>
                          refine ⟨.inl rfl, ?_⟩
                          simp only at h
                          split at h
                          · simp at h
                          · rename_i r0 hr0; exact ⟨r0, hr0, h⟩
                        | ret =>
                          refine ⟨.inr rfl, ?_⟩
                          simp only at h
                          split at h
                          · simp at h
                          · rename_i r0 hr0; exact ⟨r0, hr0, h⟩
                      obtain ⟨he, r0, hr0, hleave⟩ := hne
                      unfold leaveP at hleave
                      split at hleave
                      · rename_i r' S3 hl
                        split at hleave
                        · rename_i hfree
                          simp only [Option.some.injEq, Prod.mk.injEq] at hleave
                          obtain ⟨rfl, rfl, rfl⟩ := hleave
                          have hr0' := hide_rel hr
                          refine body (hide ρ S.heap) ⟨[], 0⟩ S2 e env' r0 _ hr0' (VL.of hva.len fun j d v h1 h2 => hide_in (hva.get h1 h2) (List.all_eq_true.1 hpure.2 d (List.mem_of_getElem? h1))) hex he hr0 fun w' ρ' v q1 q2 q3 => ?_
                          obtain ⟨ρ2, p1, p2, p3, p4⟩ := leave_ok (S := ⟨[], 0⟩) hr0' q1 q2 q3 hl
                          obtain ⟨hext, rfl, rfl⟩ := p4 rfl
                          have hst : Stp w ρ S w' ρ S := ⟨rfl, q2.os, q2.tape, q2.output, q2.size, Nat.le_refl _, fun b hb hg => ⟨hext.block b hb, hg⟩, fun b q hi => ⟨cell_block (hext.block b hi.1) q, Nat.lt_of_lt_of_le hi.1 q2.size, hi.2⟩,
                            fun g b o ho hg hb => hext.block b (hr.lt hb), fun g o ho => ⟨o, ho, ⟨Nat.le_refl _, rfl⟩, fun _ => rfl, fun _ => ⟨rfl, rfl, rfl, Nat.le_refl _, fun b cur hb hc => ⟨cur, (hext.block b (hr.lt hb)).trans hc, rfl⟩⟩⟩⟩
                          have hrel : Rel w' ρ S.heap := ⟨hr.inj, fun g b hb => by
                            obtain ⟨o, ho, hk⟩ := hr.obj g b hb
                            exact ⟨o, ho, hk.mono hst (hext.block b (hr.lt hb))⟩, hr.hids hst⟩
                          exact ⟨ρ, hrel, hst, hide_out hrel p3 hfree, fun _ => ⟨hext, rfl, rfl⟩⟩
                        · simp at hleave
                      · simp at hleave
                  · cases hex : exCode (runF L N d) N lc (slots.map fun s => args'.getD s .undef) ⟨S.heap, S.heap.length⟩ with
                    | none => rw [hex] at h; simp at h
                    | some q =>
                      obtain ⟨e, env', S2⟩ := q
                      simp only [hex] at h
                      have hne : (e = .normal ∨ e = .ret) ∧ ∃ r0, resultD env' S2 ls = some r0 ∧ leave (L.raw f) S r0 S2 = some (r, S', wr) := by
                        cases e with
                        | exit i => simp at h
                        | normal =>
                          refine ⟨.inl rfl, ?_⟩
                          simp only at h
                          split at h
                          · simp at h
                          · rename_i r0 hr0; exact ⟨r0, hr0, h⟩
                        | ret =>
                          refine ⟨.inr rfl, ?_⟩
                          simp only at h
                          split at h
                          · simp at h
                          · rename_i r0 hr0; exact ⟨r0, hr0, h⟩
                      obtain ⟨he, r0, hr0, hleave⟩ := hne
                      exact body ρ S S2 e env' r0 _ hr hva hex he hr0 fun w' ρ' v q1 q2 q3 => leave_ok hr q1 q2 q3 hleave
                · simp at h
            · simp at hlow
        · simp at hlow
end Go.Proofs.YtabgobmeibjeeaaGreatDoor

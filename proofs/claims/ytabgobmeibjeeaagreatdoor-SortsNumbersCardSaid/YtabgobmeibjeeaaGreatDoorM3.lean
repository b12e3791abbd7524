/- Proved here: parts of the proof, joined (Lo15, Lo16, Lo17, LoZ, Lo18, Lo19): an abstract machine, its soundness, what functions of the program compute in it; no condition. -/
import Derived.LoopN
import Derived.Scope
import Derived.Below
import Derived.ChangeArms
import Derived.OpenShut
import Derived.DataReads
import Derived.Deep.Slices
import Derived.Test.YtabgobmeibjeeaaGreatDoorM2
namespace Go.Proofs.YtabgobmeibjeeaaGreatDoor
open Go.RowKit
set_option linter.unusedVariables false
set_option linter.unusedSimpArgs false

def exOf : LExit → Exit
  | .normal => .normal
  | .ret => .ret
  | .exit i => .exit i

/-- what lies behind a piece of code -/
def CQ (w : World) (ρ : RMap) (S : St) (slots : List Nat) (nt : Nat) (df : List Deferred) (e : LExit) (env' : List D) (S' : St) (ex : Exit) (a' : Act) (w' : World) : Prop :=
  ∃ ρ', exOf e = ex ∧ Rel w' ρ' S'.heap ∧ Stp w ρ S w' ρ' S' ∧ FR w' ρ' S'.heap nt (sig slots [] [] env') a' ∧ a'.defers = df ∧ env'.length = slots.length

section
variable {P : Program} {call : CallF} {mt : Bool} {nt : Nat} {slots : List Nat} {N : Nat}

theorem code_ok (hm : P.follows .mixedOrders = true) (hcall : CallOK P call) (hclean : CallClean call) (hs : slots.all (· < nt) = true) :
    ∀ (c : Code) (lc : LCode) (env : List D) (S : St) (e : LExit) (env' : List D) (S' : St) (a : Act) (w : World) (ρ : RMap) (Q : Exit → Act → World → Prop), lowCode P mt nt slots c = some lc → exCode call N lc env S = some (e, env', S') → env.length = slots.length → Rel w ρ S.heap → FR w ρ S.heap nt (sig slots [] [] env) a →
      (∀ ex a' w', CQ w ρ S slots nt a.defers e env' S' ex a' w' → Q ex a' w') → c.wp P Q a w := by
  intro c
  induction c with
  | skip =>
    intro lc env S e env' S' a w ρ Q hl hx hlen hr hf hQ
    simp only [lowCode, Option.some.injEq] at hl
    subst hl
    simp only [exCode, Option.some.injEq, Prod.mk.injEq] at hx
    obtain ⟨rfl, rfl, rfl⟩ := hx
    exact wp_skip (hQ _ _ _ ⟨ρ, rfl, hr, Stp.refl _ _ _, hf, rfl, hlen⟩)
  | ret =>
    intro lc env S e env' S' a w ρ Q hl hx hlen hr hf hQ
    simp only [lowCode, Option.some.injEq] at hl
    subst hl
    simp only [exCode, Option.some.injEq, Prod.mk.injEq] at hx
    obtain ⟨rfl, rfl, rfl⟩ := hx
    exact wp_ret (hQ _ _ _ ⟨ρ, rfl, hr, Stp.refl _ _ _, hf, rfl, hlen⟩)
  | exit i =>
    intro lc env S e env' S' a w ρ Q hl hx hlen hr hf hQ
    simp only [lowCode, Option.some.injEq] at hl
    subst hl
    simp only [exCode, Option.some.injEq, Prod.mk.injEq] at hx
    obtain ⟨rfl, rfl, rfl⟩ := hx
    exact wp_exit (hQ _ _ _ ⟨ρ, rfl, hr, Stp.refl _ _ _, hf, rfl, hlen⟩)
  | region id ops draw =>
    intro lc env S e env' S' a w ρ Q hl hx hlen hr hf hQ
    simp only [lowCode, lowRegion] at hl
    cases draw with
    | false =>
      simp only [Bool.false_eq_true, if_false, Option.map_eq_some_iff] at hl
      obtain ⟨los, hlos, rfl⟩ := hl
      simp only [exCode] at hx
      split at hx
      · rename_i vals S1 hops
        simp only [Option.some.injEq, Prod.mk.injEq] at hx
        obtain ⟨rfl, rfl, rfl⟩ := hx
        refine wp_region ?_
        rw [List.range_eq_range', ← Array.length_toList]
        exact seq_ok hcall hs ops.toList 0 [] [] los S vals S1 a w ρ (by simp) (by simp) (by simp) hlos hops hr hf fun a' w' ρ' h1 h2 h3 h4 => hQ _ _ _ ⟨ρ', rfl, h1, h2, h3.end_ hlen, h4, by rw [exports_len]; exact hlen⟩
      · simp at hx
    | true =>
      simp only [if_true] at hl
      split at hl
      · rename_i hdr
        simp only [Option.map_eq_some_iff] at hl
        obtain ⟨los, hlos, rfl⟩ := hl
        simp only [exCode] at hx
        split at hx
        · rename_i vals S1 hops
          simp only [Option.some.injEq, Prod.mk.injEq] at hx
          obtain ⟨rfl, rfl, rfl⟩ := hx
          exact draw_ok hm hcall hclean hs hdr hlos hops hr hf fun a' w' ρ' h1 h2 h3 h4 => hQ _ _ _ ⟨ρ', rfl, h1, h2, h3.end_ hlen, h4, by rw [exports_len]; exact hlen⟩
        · simp at hx
      · simp at hl
  | seq x y ihx ihy =>
    intro lc env S e env' S' a w ρ Q hl hx hlen hr hf hQ
    simp only [lowCode] at hl
    split at hl
    · rename_i lx ly hlx hly
      simp only [Option.some.injEq] at hl
      subst hl
      simp only [exCode] at hx
      refine wp_seq ?_
      cases hex : exCode call N lx env S with
      | none => simp [hex] at hx
      | some q =>
        obtain ⟨e1, env1, S1⟩ := q
        rw [hex] at hx
        refine ihx lx env S e1 env1 S1 a w ρ _ hlx hex hlen hr hf ?_
        rintro ex a' w' ⟨ρ', h1, h2, h3, h4, h5, h6⟩
        cases e1 with
        | normal =>
          simp only at hx
          simp only [exOf] at h1
          subst h1
          refine ihy ly env1 S1 e env' S' a' w' ρ' Q hly hx h6 h2 h4 ?_
          rintro ex a2 w2 ⟨ρ2, k1, k2, k3, k4, k5, k6⟩
          exact hQ _ _ _ ⟨ρ2, k1, k2, h3.trans k3, k4, k5.trans h5, k6⟩
        | ret =>
          simp only [Option.some.injEq, Prod.mk.injEq] at hx
          obtain ⟨rfl, rfl, rfl⟩ := hx
          simp only [exOf] at h1
          subst h1
          exact hQ _ _ _ ⟨ρ', rfl, h2, h3, h4, h5, h6⟩
        | exit i =>
          simp only [Option.some.injEq, Prod.mk.injEq] at hx
          obtain ⟨rfl, rfl, rfl⟩ := hx
          simp only [exOf] at h1
          subst h1
          exact hQ _ _ _ ⟨ρ', rfl, h2, h3, h4, h5, h6⟩
    · simp at hl
  | cond c x y ihx ihy =>
    intro lc env S e env' S' a w ρ Q hl hx hlen hr hf hQ
    simp only [lowCode] at hl
    split at hl
    · rename_i z lx ly hz hlx hly
      simp only [Option.some.injEq] at hl
      subst hl
      have hc : VR w ρ S.heap (opd [] env z) (a.eval c) := opd_ok hz hs (by simp) fun t ht => hf.2 t (tmp_in (ht ▸ hz) hs (by simp))
      simp only [exCode] at hx
      split at hx
      · rename_i hb
        rw [hb] at hc
        generalize hv : a.eval c = v at hc
        cases hc
        exact wp_cond_true hv (ihx lx env S e env' S' a w ρ Q hlx hx hlen hr hf hQ)
      · rename_i hb
        rw [hb] at hc
        generalize hv : a.eval c = v at hc
        cases hc
        exact wp_cond_false hv (ihy ly env S e env' S' a w ρ Q hly hx hlen hr hf hQ)
      · simp at hx
    · simp at hl
  | block i c ih =>
    intro lc env S e env' S' a w ρ Q hl hx hlen hr hf hQ
    simp only [lowCode, Option.map_eq_some_iff] at hl
    obtain ⟨lc, hlc, rfl⟩ := hl
    simp only [exCode] at hx
    refine wp_block ?_
    cases hex : exCode call N lc env S with
    | none => simp [hex] at hx
    | some q =>
      obtain ⟨e1, env1, S1⟩ := q
      rw [hex] at hx
      refine ih lc env S e1 env1 S1 a w ρ _ hlc hex hlen hr hf ?_
      rintro ex a' w' ⟨ρ', h1, h2, h3, h4, h5, h6⟩
      cases e1 with
      | normal =>
        simp only [Option.some.injEq, Prod.mk.injEq] at hx
        obtain ⟨rfl, rfl, rfl⟩ := hx
        simp only [exOf] at h1
        subst h1
        exact hQ _ _ _ ⟨ρ', rfl, h2, h3, h4, h5, h6⟩
      | ret =>
        simp only [Option.some.injEq, Prod.mk.injEq] at hx
        obtain ⟨rfl, rfl, rfl⟩ := hx
        simp only [exOf] at h1
        subst h1
        exact hQ _ _ _ ⟨ρ', rfl, h2, h3, h4, h5, h6⟩
      | exit j =>
        simp only [exOf] at h1
        subst h1
        simp only at hx
        simp only [Exit.inBlock]
        split at hx
        · rename_i hj
          rw [if_pos hj]
          simp only [Option.some.injEq, Prod.mk.injEq] at hx
          obtain ⟨rfl, rfl, rfl⟩ := hx
          exact hQ _ _ _ ⟨ρ', rfl, h2, h3, h4, h5, h6⟩
        · rename_i hj
          rw [if_neg hj]
          simp only [Option.some.injEq, Prod.mk.injEq] at hx
          obtain ⟨rfl, rfl, rfl⟩ := hx
          exact hQ _ _ _ ⟨ρ', rfl, h2, h3, h4, h5, h6⟩
  | loop c ih =>
    intro lc env S e env' S' a w ρ Q hl hx hlen hr hf hQ
    simp only [lowCode, Option.map_eq_some_iff] at hl
    obtain ⟨lc, hlc, rfl⟩ := hl
    simp only [exCode] at hx
    have key : ∀ (n : Nat) (env : List D) (S : St) (a : Act) (w : World) (ρ : RMap), loopN (exCode call N lc) n env S = some (e, env', S') → env.length = slots.length → Rel w ρ S.heap → FR w ρ S.heap nt (sig slots [] [] env) a → (∀ ex a' w', CQ w ρ S slots nt a.defers e env' S' ex a' w' → Q ex a' w') → Code.rounds P c Q n a w := by
      intro n
      induction n with
      | zero => intro env S a w ρ hx; simp [loopN] at hx
      | succ n ihn =>
        intro env S a w ρ hx hlen hr hf hQ
        rw [rounds_succ]
        simp only [loopN] at hx
        cases hex : exCode call N lc env S with
        | none => simp [hex] at hx
        | some q =>
          obtain ⟨e1, env1, S1⟩ := q
          rw [hex] at hx
          refine ih lc env S e1 env1 S1 a w ρ _ hlc hex hlen hr hf ?_
          rintro ex a' w' ⟨ρ', h1, h2, h3, h4, h5, h6⟩
          cases e1 with
          | normal =>
            simp only at hx
            simp only [exOf] at h1
            subst h1
            refine ihn env1 S1 a' w' ρ' hx h6 h2 h4 ?_
            rintro ex a2 w2 ⟨ρ2, k1, k2, k3, k4, k5, k6⟩
            exact hQ _ _ _ ⟨ρ2, k1, k2, h3.trans k3, k4, k5.trans h5, k6⟩
          | ret =>
            simp only [Option.some.injEq, Prod.mk.injEq] at hx
            obtain ⟨rfl, rfl, rfl⟩ := hx
            simp only [exOf] at h1
            subst h1
            exact hQ _ _ _ ⟨ρ', rfl, h2, h3, h4, h5, h6⟩
          | exit i =>
            simp only [Option.some.injEq, Prod.mk.injEq] at hx
            obtain ⟨rfl, rfl, rfl⟩ := hx
            simp only [exOf] at h1
            subst h1
            exact hQ _ _ _ ⟨ρ', rfl, h2, h3, h4, h5, h6⟩
    exact wp_loop_rounds N (key N env S a w ρ hx hlen hr hf hQ)
  | rangeFunc => intro lc env S e env' S' a w ρ Q hl hx; simp only [lowCode, Option.some.injEq] at hl; subst hl; simp [exCode] at hx
  | scope c ih =>
    intro lc env S e env' S' a w ρ Q hl hx hlen hr hf hQ
    simp only [lowCode] at hl
    refine wp_scope_straight (ih lc env S e env' S' a w ρ _ hl hx hlen hr hf ?_)
    intro ex a' w' hc
    have hq := hQ ex a' w' hc
    obtain ⟨ρ', h1, _⟩ := hc
    cases e <;> simp only [exOf] at h1 <;> subst h1 <;> exact hq
  | label =>
    intro lc env S e env' S' a w ρ Q hl hx hlen hr hf hQ
    simp only [lowCode, Option.some.injEq] at hl
    subst hl
    simp only [exCode, Option.some.injEq, Prod.mk.injEq] at hx
    obtain ⟨rfl, rfl, rfl⟩ := hx
    exact wp_label (hQ _ _ _ ⟨ρ, rfl, hr, Stp.refl _ _ _, hf, rfl, hlen⟩)
  | goto => intro lc env S e env' S' a w ρ Q hl hx; simp only [lowCode, Option.some.injEq] at hl; subst hl; simp [exCode] at hx
  | refuse => intro lc env S e env' S' a w ρ Q hl hx; simp only [lowCode, Option.some.injEq] at hl; subst hl; simp [exCode] at hx
end

/-! results -/
def resSem (tmps : Array Value) : ResultVar → Sem Value
  | .tmp t => pure (tmps.getD t undef)
  | .cell a t => do loadVar t (← asAddr (tmps.getD a undef))
theorem results_eq (fn : Func) (tmps : Array Value) : results fn tmps = (do let vs ← fn.results.mapM (resSem tmps); pure (if h : vs.size = 1 then vs[0] else .tuple vs)) := by
  unfold results
  congr 1
section
variable {P : Program} {w : World} {ρ : RMap} {S : St}
theorem res_ok {nt : Nat} {slots : List Nat} {env : List D} {a : Act} (hr : Rel w ρ S.heap) (hs : slots.all (· < nt) = true) (hf : FR w ρ S.heap nt (sig slots [] [] env) a) : ∀ {rs : List ResultVar} {ls : List LRes} {ds : List D}, lowRes P slots rs = some ls → resDs env S ls = some ds →
    ∃ vs, (rs.mapM (resSem a.tmps)).run P w = .ok vs w ∧ VL w ρ S.heap ds vs
  | [], ls, ds, hl, hd => by
    simp only [lowRes, Option.some.injEq] at hl
    subst hl
    simp only [resDs, Option.some.injEq] at hd
    subst hd
    exact ⟨[], by simp, .nil⟩
  | .tmp t :: rs, ls, ds, hl, hd => by
    simp only [lowRes] at hl
    split at hl
    · rename_i j m hj hm
      simp only [Option.some.injEq] at hl
      subst hl
      simp only [resDs, resD] at hd
      split at hd
      · rename_i x y hx hy
        simp only [Option.some.injEq] at hd hx
        subst hd hx
        obtain ⟨vs, h1, h2⟩ := res_ok hr hs hf hm hy
        have ht : t < nt := by
          have := List.all_eq_true.1 hs t (List.mem_of_getElem? (idxOf_mem hj))
          simpa using this
        have h3 := hf.2 t ht
        unfold sig at h3
        simp only [locOf, hj] at h3
        exact ⟨a.tmps.getD t undef :: vs, by rw [List.mapM_cons, run_ok_bind (a := a.tmps.getD t undef) (w' := w) rfl, run_ok_bind h1]; rfl, .cons h3 h2⟩
      · simp at hd
    · simp at hl
  | .cell ad t :: rs, ls, ds, hl, hd => by
    simp only [lowRes] at hl
    split at hl
    · rename_i j n m hj hn hm
      simp only [Option.some.injEq] at hl
      subst hl
      simp only [resDs, resD] at hd
      split at hd
      · rename_i x y hx hy
        simp only [Option.some.injEq] at hd
        subst hd
        obtain ⟨vs, h1, h2⟩ := res_ok hr hs hf hm hy
        have ht : ad < nt := by
          have := List.all_eq_true.1 hs ad (List.mem_of_getElem? (idxOf_mem hj))
          simpa using this
        have h3 := hf.2 ad ht
        unfold sig at h3
        simp only [locOf, hj] at h3
        obtain ⟨v, h4, h5⟩ := load_ok (P := P) hr h3 hx hn rfl
        have h6 : (resSem a.tmps (.cell ad t)).run P w = .ok v w := by
          rw [← h4]
          show (do loadVar t (← asAddr (a.tmps.getD ad undef)) : Sem Value).run P w = _
          generalize a.tmps.getD ad undef = u at h3 ⊢
          generalize env.getD j .undef = du at h3 hx
          unfold loadD at hx
          split at hx
          · cases h3; simp [Instr.loadAt, Instr.sureAddr, asAddr]
          · cases h3; simp [Instr.loadAt, Instr.sureAddr, asAddr]
          · simp at hx
        exact ⟨v :: vs, by rw [List.mapM_cons, run_ok_bind h6, run_ok_bind h1]; rfl, .cons h5 h2⟩
      · simp at hd
    · simp at hl
theorem results_ok {nt : Nat} {slots : List Nat} {env : List D} {a : Act} {fn : Func} {ls : List LRes} {r : D} (hr : Rel w ρ S.heap) (hs : slots.all (· < nt) = true) (hf : FR w ρ S.heap nt (sig slots [] [] env) a) (hl : lowRes P slots fn.results.toList = some ls) (hd : resultD env S ls = some r) :
    ∃ v, (results fn a.tmps).run P w = .ok v w ∧ VR w ρ S.heap r v := by
  unfold resultD at hd
  cases hds : resDs env S ls with
  | none => simp [hds] at hd
  | some ds =>
    obtain ⟨vs, h1, h2⟩ := res_ok (P := P) hr hs hf hl hds
    have hrun : (results fn a.tmps).run P w = .ok (if h : vs.toArray.size = 1 then vs.toArray[0] else .tuple vs.toArray) w := by
      rw [results_eq]
      have e : fn.results = fn.results.toList.toArray := by simp
      rw [e, List.mapM_toArray]
      have : (List.toArray <$> fn.results.toList.mapM (resSem a.tmps)).run P w = .ok vs.toArray w := by
        rw [map_eq_pure_bind, run_ok_bind h1]
        rfl
      rw [run_ok_bind this]
      rfl
    refine ⟨_, hrun, ?_⟩
    have hlen := h2.len
    rw [hds] at hd
    split at hd
    · rename_i x hx
      simp only [Option.some.injEq] at hd hx
      subst hd hx
      cases h2 with
      | cons h t => cases t with
        | nil => simpa using h
    · rename_i xs hne hxs
      simp only [Option.some.injEq] at hd hxs
      subst hd hxs
      have h1 : ¬ vs.toArray.size = 1 := by
        intro h
        simp only [List.size_toArray] at h
        rw [hlen] at h
        obtain ⟨x, hx⟩ := List.length_eq_one_iff.1 h
        exact hne x (by rw [hx])
      rw [dif_neg h1]
      exact .tup ds vs hlen (fun j d v => h2.get)
    · rename_i h; simp at h

/-! calls -/
theorem Stp.relow {w' : World} {ρ' : RMap} {n : Nat} {S2 : St} (h : Stp w ρ ⟨S.heap, n⟩ w' ρ' S2) : Stp w ρ S w' ρ' ⟨S2.heap, min S.low S2.low⟩ :=
  ⟨h.hid, h.os, h.tape, h.output, h.size, Nat.min_le_left _ _, h.out, h.imm, fun g b o ho hg hb => h.keep g b o ho (Nat.lt_of_lt_of_le hg (Nat.min_le_right _ _)) hb, fun g o ho => by
    obtain ⟨o', h1, h2, h3, h4⟩ := h.obj g o ho
    exact ⟨o', h1, h2, fun hg => h3 (Nat.lt_of_lt_of_le hg (Nat.min_le_right _ _)), h4⟩⟩
/-- nothing that was there has been written -/
theorem Stp.clean {w' : World} {ρ' : RMap} {S2 : St} (hr : Rel w ρ S.heap) (h : Stp w ρ ⟨S.heap, S.heap.length⟩ w' ρ' S2) (hlow : S.heap.length ≤ S2.low) : Stp w ρ S w' ρ S :=
  ⟨rfl, h.os, h.tape, h.output, h.size, Nat.le_refl _, fun b hb hg => ⟨(h.out b hb hg).1, hg⟩, fun b q hi => ⟨(h.imm b q hi).1, Nat.lt_of_lt_of_le hi.1 h.size, hi.2⟩,
    fun g b o ho hg hb => h.keep g b o ho (Nat.lt_of_lt_of_le (lt_of_some ho) hlow) hb, fun g o ho => ⟨o, ho, ⟨Nat.le_refl _, rfl⟩, fun _ => rfl, fun _ => ⟨rfl, rfl, rfl, Nat.le_refl _, fun b cur hb hc => ⟨cur, (h.keep g b o ho (Nat.lt_of_lt_of_le (lt_of_some ho) hlow) hb).trans hc, rfl⟩⟩⟩⟩
section
variable {w' : World} {ρ' : RMap} {S2 : St} (hr : Rel w ρ S.heap) (hr2 : Rel w' ρ' S2.heap) (h : Stp w ρ ⟨S.heap, S.heap.length⟩ w' ρ' S2) (hlow : S.heap.length ≤ S2.low)
include hr h hlow
theorem leave_map {g b : Nat} (hb : ρ g = some b) : g < S.heap.length ∧ ρ' g = some b ∧ S2.heap[g]? = S.heap[g]? := by
  have hg := hr.in hb
  obtain ⟨o', h1, h2, h3, h4⟩ := h.obj g S.heap[g] (List.getElem?_eq_getElem hg)
  have := h3 (Nat.lt_of_lt_of_le hg hlow)
  subst this
  exact ⟨hg, by rw [(h4 rfl).1]; exact hb, by rw [h1, List.getElem?_eq_getElem hg]⟩
theorem leave_imm {b q : Nat} (hi : Imm w' ρ' S2.heap b q) : Imm w' ρ S.heap b q :=
  ⟨hi.1, by rw [← h.hid]; exact hi.2.1, fun g hg => by
    obtain ⟨_, h1, h2⟩ := leave_map hr h hlow hg
    rw [← h2]
    exact hi.2.2 g h1⟩
theorem leave_out : ∀ b es c, w'.heap[b]? = some (.map es c) → (∀ g, ρ' g ≠ some b) → ¬ ρ'.X b 0 → w'.heap[b]? = w'.heap[b]? ∧ (∀ g, ρ g ≠ some b) ∧ ¬ ρ.X b 0 :=
  fun b _ _ _ hg hx => ⟨rfl, fun g hb => hg g (leave_map hr h hlow hb).2.1, by rw [← h.hid]; exact hx⟩
include hr2
theorem snap_leave {d r : D} {v : Value} (hv : VR w' ρ' S2.heap d v) (hs : snap S.heap.length S2.heap d = some r) (hf : r.free = true) : VR w' ρ S.heap r v := by
  unfold snap at hs
  split at hs
  · rename_i g ver lo n cap
    cases hv with
    | msl _ _ _ _ _ A c ob hnc hcap hg hver hk3 hcur =>
      simp only [hg] at hs
      split at hs
      · rename_i hk
        simp only [Option.some.injEq] at hs
        subst hs
        obtain ⟨b, hρ, hlo, hA, hcp⟩ := hcur hk.1
        obtain ⟨o1, ho1, cur, hc, hz, ⟨cc, hcc, hcl, hcm, hcg⟩, hl, hkk, hh⟩ := hr2.cel hρ hg hk3
        rw [hg] at ho1
        injection ho1 with ho1
        subst ho1
        have hlen : ((ob.rows.drop lo).take n).length = n := by simp; omega
        have hcell : ∀ i r' j d, ((ob.rows.drop lo).take n)[i]? = some r' → r'[j]? = some d → w'.cell? ⟨b, lo * ob.sz + i * ob.sz + j, none⟩ = some (cur.getD ((lo + i) * ob.sz + j) undef) ∧ Imm w' ρ S.heap b (lo * ob.sz + i * ob.sz + j) ∧ d.free = true ∧ VR w' ρ' S2.heap d (cur.getD ((lo + i) * ob.sz + j) undef) := by
          intro i r' j d hi hj
          obtain ⟨h1, h2⟩ := drop_take_get hi
          obtain ⟨h3, h4, v, hv1, hv2⟩ := hh _ r' j d h1 hj
          obtain ⟨h5, h6⟩ := Array.getElem?_eq_some_iff.1 hv1
          have hg1 : cur.getD ((lo + i) * ob.sz + j) undef = v := by simp [Array.getD, h5, h6]
          rw [hg1]
          refine ⟨?_, ⟨lt_of_heap hc, fun hx => (hr2.hid _ _ (by rw [h.hid]; exact hx)).2 g hρ, fun g' hg' => ?_⟩, h4 (by omega), hv2⟩
          · rw [cell_of_row w' b _ cur ob.elem (0, 0) hc, ← hv1]
            congr 1
            rw [Nat.add_mul]
          · obtain ⟨q1, q2, q3⟩ := leave_map hr h hlow hg'
            have := hr2.inj g' g b q2 hρ
            subst this
            rcases hk.2 with hk1 | hk1
            · refine ⟨ob, by rw [← q3]; exact hg, hk1, ?_⟩
              have h7 : j < ob.sz := by rw [← hl r' (List.mem_of_getElem? h1)]; exact lt_of_some hj
              have h8 : lo + i < ob.rows.length := lt_of_some h1
              have := row_in h8 h7
              rwa [Nat.add_mul] at this
            · omega
        refine .sl ob.sz _ _ A n c hlen.symm hnc (fun k hk' => ?_) (fun r hr' => hl r (mem_drop_take hr')) b (lo * ob.sz) (fun i j => cur.getD ((lo + i) * ob.sz + j) undef) (fun hne => hA ?_) (fun i r' j d hi hj => ?_) (fun i r' j d hi hj => ?_)
        · cases cap with
          | some c' => simp only [Option.some.injEq] at hk'; subst hk'; exact hcap _ rfl
          | none =>
            simp only at hk'
            split at hk'
            · simp at hk'
            · rename_i hgr
              simp only [Option.some.injEq] at hk'
              obtain ⟨cur', hc1, hc2⟩ := hcp rfl
              rw [hc] at hc1
              injection hc1 with hc1
              injection hc1 with hc1
              subst hc1
              have h1 := hcg (by simpa using hgr)
              rw [hcc] at hc2
              have := Nat.eq_of_mul_eq_mul_right hz hc2
              omega
        · left
          intro h0
          subst h0
          simp at hne
        · obtain ⟨q1, q2, q3, _⟩ := hcell i r' j d hi hj
          exact ⟨q1, q2, q3⟩
        · obtain ⟨_, _, q3, q4⟩ := hcell i r' j d hi hj
          exact q4.free_mono (fun b q hi => ⟨rfl, leave_imm hr h hlow hi⟩) (leave_out hr h hlow) q3
      · simp at hs
  · rename_i g ver
    split at hs
    · rename_i hmg
      cases hv with
      | mref _ _ b ob hg hver hcur =>
        simp only [hg] at hs
        split at hs
        · rename_i hk
          simp only [Option.some.injEq] at hs
          subst hs
          have hρ := hcur hk.1
          obtain ⟨es, clock, hc, hsz, hl, hall⟩ := hr2.map hρ hg hk.2.1 hk.2.2
          have hval : ∀ i, i < ob.rows.length → ∃ e, es[i]? = some e ∧ e.key = ((es[i]?).map (·.key)).getD undef ∧ e.val = ((es[i]?).map (·.val)).getD undef := by
            intro i hi
            have hie : i < es.size := by omega
            exact ⟨es[i], Array.getElem?_eq_getElem hie, by simp [hie], by simp [hie]⟩
          refine .mp ob.rows b clock es (fun i j => if j = 0 then ((es[i]?).map (·.key)).getD undef else ((es[i]?).map (·.val)).getD undef) hc (fun hx => (hr2.hid _ _ (by rw [h.hid]; exact hx)).2 g hρ) (fun g' hg' => ?_) hsz hl (fun i hi => ?_) (fun i r' j d hi hj => ?_) (fun i r' j d hi hj => ?_)
          · obtain ⟨q1, q2, _⟩ := leave_map hr h hlow hg'
            have := hr2.inj g' g b q2 hρ
            omega
          · obtain ⟨e, h1, h2, h3⟩ := hval i hi
            exact ⟨e, h1, by simpa using h2, by simpa using h3⟩
          · obtain ⟨e, k, v, h1, h2, h3, h4, _, _⟩ := hall i r' hi
            subst h2
            match j, hj with
            | 0, hj => simp at hj; subst hj; exact ⟨free_V h3.1, by cases k <;> first | exact h3.2 | (simp [D.isCell] at h3; done)⟩
            | 1, hj => simp at hj; subst hj; exact h4
          · obtain ⟨e, k, v, h1, h2, h3, h4, h5, h6⟩ := hall i r' hi
            subst h2
            match j, hj with
            | 0, hj =>
              simp at hj
              subst hj
              simp only [if_true, h1, Option.map_some, Option.getD_some]
              exact h5.free_mono (fun b q hi => ⟨rfl, leave_imm hr h hlow hi⟩) (leave_out hr h hlow) h3.1
            | 1, hj =>
              simp at hj
              subst hj
              simp only [Nat.one_ne_zero, if_false, h1, Option.map_some, Option.getD_some]
              exact h6.freeV_mono (fun b q hi => ⟨rfl, leave_imm hr h hlow hi⟩) (leave_out hr h hlow) h4.1
        · simp at hs
    · simp only [Option.some.injEq] at hs
      subst hs
      simp [D.free] at hf
  · simp only [Option.some.injEq] at hs
    subst hs
    exact hv.free_mono (fun b q hi => ⟨rfl, leave_imm hr h hlow hi⟩) (leave_out hr h hlow) hf
theorem snaps_leave : ∀ {ds rs : List D} {vs : List Value}, VL w' ρ' S2.heap ds vs → snaps S.heap.length S2.heap ds = some rs → rs.all D.free = true → VL w' ρ S.heap rs vs
  | [], rs, _, .nil, hs, _ => by simp only [snaps, Option.some.injEq] at hs; subst hs; exact .nil
  | d :: ds, rs, _, .cons hd ht, hs, hf => by
    unfold snaps at hs
    split at hs
    · rename_i x y hx hy
      simp only [Option.some.injEq] at hs
      subst hs
      simp only [List.all_cons, Bool.and_eq_true] at hf
      exact .cons (snap_leave hr hr2 h hlow hd hx hf.1) (snaps_leave ht hy hf.2)
    · simp at hs
theorem snapV_leave {d r : D} {v : Value} (hv : VR w' ρ' S2.heap d v) (hs : snapV S.heap.length S2.heap d = some r) (hf : r.freeV = true) : VR w' ρ S.heap r v := by
  unfold snapV at hs
  split at hs
  · simp only [Option.map_eq_some_iff] at hs
    obtain ⟨rs, hrs, rfl⟩ := hs
    cases hv with
    | agg _ vs hl hc hh =>
      have h1 := snaps_leave hr hr2 h hlow (VL.of hl hh) hrs hf
      exact .agg rs vs h1.len (List.all_eq_true.2 fun x hx => free_cell (List.all_eq_true.1 hf x hx)) (fun j d v => h1.get)
  · rename_i hna
    refine snap_leave hr hr2 h hlow hv hs ?_
    unfold D.freeV at hf
    split at hf
    · rename_i cs
      unfold snap at hs
      repeat' (first | (simp at hs; done) | (split at hs))
      all_goals try (simp at hs; done)
      all_goals
        simp only [Option.some.injEq] at hs
        subst hs
        exact absurd rfl (hna cs)
    · exact hf
theorem snapVs_leave : ∀ {ds rs : List D} {vs : List Value}, VL w' ρ' S2.heap ds vs → snapVs S.heap.length S2.heap ds = some rs → rs.all D.freeV = true → VL w' ρ S.heap rs vs
  | [], rs, _, .nil, hs, _ => by simp only [snapVs, Option.some.injEq] at hs; subst hs; exact .nil
  | d :: ds, rs, _, .cons hd ht, hs, hf => by
    unfold snapVs at hs
    split at hs
    · rename_i x y hx hy
      simp only [Option.some.injEq] at hs
      subst hs
      simp only [List.all_cons, Bool.and_eq_true] at hf
      exact .cons (snapV_leave hr hr2 h hlow hd hx hf.1) (snapVs_leave ht hy hf.2)
    · simp at hs
theorem snapR_leave {d r : D} {v : Value} (hv : VR w' ρ' S2.heap d v) (hs : snapR S.heap.length S2.heap d = some r) (hf : r.freeR = true) : VR w' ρ S.heap r v := by
  unfold snapR at hs
  split at hs
  · simp only [Option.map_eq_some_iff] at hs
    obtain ⟨rs, hrs, rfl⟩ := hs
    cases hv with
    | tup _ vs hl hh =>
      have h1 := snapVs_leave hr hr2 h hlow (VL.of hl hh) hrs hf
      exact .tup rs vs h1.len (fun j d v => h1.get)
  · rename_i hna
    refine snapV_leave hr hr2 h hlow hv hs ?_
    unfold D.freeR at hf
    split at hf
    · rename_i cs
      unfold snapV at hs
      split at hs
      · simp at hs
      · unfold snap at hs
        repeat' (first | (simp at hs; done) | (split at hs))
        all_goals try (simp at hs; done)
        all_goals
          simp only [Option.some.injEq] at hs
          subst hs
          exact absurd rfl (hna cs)
    · exact hf
end
theorem leave_ok {w' : World} {ρ' : RMap} {S2 S' : St} {raw : Bool} {r0 r : D} {v : Value} {wr : Bool} (hr : Rel w ρ S.heap) (hr2 : Rel w' ρ' S2.heap) (h : Stp w ρ ⟨S.heap, S.heap.length⟩ w' ρ' S2) (hv : VR w' ρ' S2.heap r0 v) (hl : leave raw S r0 S2 = some (r, S', wr)) : OpPost w ρ S r S' wr v w' := by
  unfold leave at hl
  split at hl
  · simp only [Option.some.injEq, Prod.mk.injEq] at hl
    obtain ⟨rfl, rfl, rfl⟩ := hl
    exact ⟨ρ', hr2, h.relow, hv, by simp⟩
  · split at hl
    · rename_i r' hc
      simp only [Option.some.injEq, Prod.mk.injEq] at hl
      obtain ⟨rfl, rfl, rfl⟩ := hl
      split at hc
      · rename_i hlow
        split at hc
        · rename_i r1 hs
          split at hc
          · rename_i hf
            simp only [Option.some.injEq] at hc
            subst hc
            have hst := h.clean hr hlow
            refine ⟨ρ, ⟨hr.inj, fun g b hb => ?_, hr.hids hst⟩, hst, snapR_leave hr hr2 h hlow hv hs hf, fun _ => ⟨⟨h.os, h.tape, h.output, h.size, fun b hb => ?_⟩, rfl, rfl⟩⟩
            · obtain ⟨o, ho, hk⟩ := hr.obj g b hb
              exact ⟨o, ho, hk.mono hst (h.keep g b o ho (Nat.lt_of_lt_of_le (lt_of_some ho) hlow) hb)⟩
            · by_cases hex : ∃ g, ρ g = some b
              · obtain ⟨g, hg⟩ := hex
                obtain ⟨o, ho, _⟩ := hr.obj g b hg
                exact h.keep g b o ho (Nat.lt_of_lt_of_le (lt_of_some ho) hlow) hg
              · exact (h.out b hb fun g hg => hex ⟨g, hg⟩).1
          · simp at hc
        · simp at hc
      · simp at hc
    · split at hl
      · rename_i r' hs
        simp only [Option.some.injEq, Prod.mk.injEq] at hl
        obtain ⟨rfl, rfl, rfl⟩ := hl
        exact ⟨ρ', hr2, h.relow, snapR_ok hr2 (Nat.le_refl _) hv hs, by simp⟩
      · simp at hl
end

/-- the functions that the machine knows are the program's -/
def PrgOK (P : Program) (L : Prg) : Prop := ∀ f F, L.fns f = some F → ∃ fn mt slots, P.funcs[f]? = some fn ∧ lowFn P mt slots fn = some F

theorem run_clean (L : Prg) (N : Nat) : ∀ d, CallClean (runF L N d)
  | 0 => fun f ds S r S' h => by simp [runF] at h
  | d + 1 => fun f ds S r S' h => by
    simp only [runF] at h
    repeat' (first | (simp at h; done) | (split at h))
    all_goals try (simp at h; done)
    all_goals
      first | unfold leaveP at h | unfold leave at h
      repeat' (first | (simp at h; done) | (split at h))
      all_goals first
        | (simp at h; done)
        | (simp only [Option.some.injEq, Prod.mk.injEq] at h; exact h.2.1.symm)

/-! a call on the empty heap -/
theorem VR.freeR_mono {w w' : World} {ρ ρ' : RMap} {H H' : List AObj} (hi : ∀ b q, Imm w ρ H b q → w'.cell? ⟨b, q, none⟩ = w.cell? ⟨b, q, none⟩ ∧ Imm w' ρ' H' b q) (ho : ∀ b es c, w.heap[b]? = some (.map es c) → (∀ g, ρ g ≠ some b) → ¬ ρ.X b 0 → w'.heap[b]? = w.heap[b]? ∧ (∀ g, ρ' g ≠ some b) ∧ ¬ ρ'.X b 0) {d : D} {v : Value} (h : VR w ρ H d v) (hf : d.freeR = true) : VR w' ρ' H' d v := by
  unfold D.freeR at hf
  split at hf
  · cases h with
    | tup _ vs hl hh => exact .tup _ vs hl fun j d v h1 h2 => (hh j d v h1 h2).freeV_mono hi ho (List.all_eq_true.1 hf d (List.mem_of_getElem? h1))
  · exact h.freeV_mono hi ho hf
/-- all objects hidden -/
def hide (ρ : RMap) (H : List AObj) : RMap := ⟨fun _ => none, fun b q => ρ.X b q ∨ ∃ g, ρ g = some b ∧ ¬ ∃ o, H[g]? = some o ∧ o.kind = 1 ∧ q < o.rows.length * o.sz⟩
theorem hide_rel {w : World} {ρ : RMap} {H : List AObj} (hr : Rel w ρ H) : Rel w (hide ρ H) [] :=
  ⟨fun g g' b h => (by cases h), fun g b h => (by cases h), fun b q hx => ⟨(by
    rcases hx with hx | ⟨g, hg, _⟩
    · exact (hr.hid b q hx).1
    · exact hr.lt hg), fun g h => (by cases h)⟩⟩
theorem hide_in {w : World} {ρ : RMap} {H : List AObj} {d : D} {v : Value} (h : VR w ρ H d v) (hf : d.freeV = true) : VR w (hide ρ H) [] d v := by
  refine h.freeV_mono (fun b q hi => ⟨rfl, hi.1, fun hx => ?_, fun g h => (by cases h)⟩) (fun b es c hb hg hx => ⟨rfl, fun g h => (by cases h), fun hx' => ?_⟩) hf
  · rcases hx with hx | ⟨g, hg, hn⟩
    · exact hi.2.1 hx
    · exact hn (hi.2.2 g hg)
  · rcases hx' with hx' | ⟨g, hg', _⟩
    · exact hx hx'
    · exact hg g hg'
theorem hide_out {w : World} {ρ : RMap} {H : List AObj} (hr : Rel w ρ H) {d : D} {v : Value} (h : VR w (hide ρ H) [] d v) (hf : d.freeR = true) : VR w ρ H d v := by
  have key : ∀ b q, ¬ (hide ρ H).X b q → ¬ ρ.X b q ∧ ∀ g, ρ g = some b → ∃ o, H[g]? = some o ∧ o.kind = 1 ∧ q < o.rows.length * o.sz := by
    intro b q hx
    refine ⟨fun h => hx (.inl h), fun g hg => ?_⟩
    exact Classical.byContradiction fun hn => hx (.inr ⟨g, hg, hn⟩)
  refine h.freeR_mono (fun b q hi => ⟨rfl, hi.1, key b q hi.2.1⟩) (fun b es c hb hg hx => ⟨rfl, fun g hg' => ?_, (key b 0 hx).1⟩) hf
  obtain ⟨o, ho, hk, _⟩ := (key b 0 hx).2 g hg'
  obtain ⟨o', ho', hok⟩ := hr.obj g b hg'
  rw [ho] at ho'
  injection ho' with ho'
  subst ho'
  obtain ⟨cur, hc, _⟩ := hok.1 (by omega)
  rw [hb] at hc
  cases hc

theorem run_ok {P : Program} {L : Prg} (hm : P.follows .mixedOrders = true) (hL : PrgOK P L) (N : Nat) : ∀ d, CallOK P (runF L N d)
  | 0 => fun f ds S r S' wr h => by simp [runF] at h
  | d + 1 => by
    have ih := run_ok hm hL N d
    intro f ds S r S' wr h w ρ vs hr hv
    simp only [runF] at h
    cases hF : L.fns f with
    | none => simp [hF] at h
    | some F =>
      simp only [hF] at h
      obtain ⟨fn, mt, slots, hfn, hlow⟩ := hL f F hF
      unfold lowFn at hlow
      cases hb : fn.body with
      | none => simp [hb] at hlow
      | some c =>
        simp only [hb] at hlow
        split at hlow
        · rename_i lc ls hlc hls
          split at hlow
          · simp at hlow
          · rename_i hname
            split at hlow
            · rename_i hsl
              simp only [Bool.and_eq_true, decide_eq_true_eq] at hsl
              obtain ⟨hsl, hle⟩ := hsl
              simp only [Option.some.injEq] at hlow
              subst hlow
              split at h
              · simp at h
              · rename_i args' hargs
                have hva : VL w ρ S.heap args' vs := by
                  split at hargs
                  · simp only [Option.some.injEq] at hargs; subst hargs; exact hv
                  · exact snapVs_ok hr (Nat.le_refl _) hv hargs
                simp only [ne_eq, ite_not] at h
                split at h
                · rename_i hlen
                  have body : ∀ (ρ0 : RMap) (S0 S2 : St) (e : LExit) (env' : List D) (r0 : D) (Post : Value → World → Prop), Rel w ρ0 S0.heap → VL w ρ0 S0.heap args' vs → exCode (runF L N d) N lc (slots.map fun s => args'.getD s .undef) ⟨S0.heap, S0.heap.length⟩ = some (e, env', S2) → (e = .normal ∨ e = .ret) → resultD env' S2 ls = some r0 →
                      (∀ w' ρ' v, Rel w' ρ' S2.heap → Stp w ρ0 ⟨S0.heap, S0.heap.length⟩ w' ρ' S2 → VR w' ρ' S2.heap r0 v → Post v w') → (callFunc f vs.toArray).run P w = .ok (.enter f vs.toArray) w ∧ Calls P f vs.toArray w fun e w' => ∃ v, e = .returned v ∧ Post v w' := by
                    intro ρ0 S0 S2 e env' r0 Post hr hva hex he hr0 hpost
                    have hnm : (fn.name == "runtime.NumGoroutine") = false := by simpa using hname
                    refine ⟨by simp [callFunc, hfn, hname, hb], ?_⟩
                    refine calls_of_wp hfn hb ?_
                    have hvl := hva.len
                    have hnt : fn.params.size + fn.nfree = vs.length := by rw [hvl, hlen]
                    have hfr : FR w ρ0 S0.heap fn.ntmps (sig slots [] [] (slots.map fun s => args'.getD s .undef)) { tmps := vs.toArray ++ Array.replicate (fn.ntmps - vs.toArray.size) undef, defers := [] } := by
                      refine ⟨by simp; omega, fun t ht => ?_⟩
                      unfold sig
                      simp only [locOf]
                      cases hj : idxOf slots t with
                      | none => exact .undef _
                      | some j =>
                        have hm := idxOf_mem hj
                        simp only [List.getD, List.getElem?_map, hm, Option.map_some, Option.getD_some]
                        by_cases htl : t < vs.length
                        · have h1 : args'[t]? = some (args'[t]'(by omega)) := List.getElem?_eq_getElem (by omega)
                          have h2 : (vs.toArray ++ Array.replicate (fn.ntmps - vs.toArray.size) undef).getD t undef = vs[t] := by
                            rw [Array.getD_eq_getD_getElem?, Array.getElem?_append_left (by simpa using htl)]
                            simp [htl]
                          rw [h1, h2]
                          exact hva.get h1 (List.getElem?_eq_getElem htl)
                        · rw [List.getElem?_eq_none (by omega)]
                          exact .undef _
                    refine code_ok hm ih (run_clean L N d) hsl c lc _ ⟨S0.heap, S0.heap.length⟩ e env' S2 _ w ρ0 _ hlc hex (by simp) hr hfr ?_
                    rintro ex a' w' ⟨ρ', h1, h2, h3, h4, h5, h6⟩
                    obtain ⟨v, h7, h8⟩ := results_ok (P := P) h2 hsl h4 hls hr0
                    have hp := hpost w' ρ' v h2 h3 h8
                    rcases he with rfl | rfl
                    · simp only [exOf] at h1
                      subst h1
                      exact ⟨h5, v, h7, v, rfl, hp⟩
                    · simp only [exOf] at h1
                      subst h1
                      exact ⟨h5, v, h7, v, rfl, hp⟩
                  split at h
                  · rename_i hpure
                    simp only [Bool.and_eq_true] at hpure
                    cases hex : exCode (runF L N d) N lc (slots.map fun s => args'.getD s .undef) ⟨[], 0⟩ with
                    | none => rw [hex] at h; simp at h
                    | some q =>
                      obtain ⟨e, env', S2⟩ := q
                      simp only [hex] at h
                      have hne : (e = .normal ∨ e = .ret) ∧ ∃ r0, resultD env' S2 ls = some r0 ∧ leaveP S r0 S2 = some (r, S', wr) := by
                        cases e with
                        | exit i => simp at h
                        | normal =>
                          refine ⟨.inl rfl, ?_⟩
                          simp only at h
                          split at h
                          · simp at h
                          · rename_i r0 hr0; exact ⟨r0, hr0, h⟩
                        | ret =>
                          refine ⟨.inr rfl, ?_⟩
                          simp only at h
                          split at h
                          · simp at h
                          · rename_i r0 hr0; exact ⟨r0, hr0, h⟩
                      obtain ⟨he, r0, hr0, hleave⟩ := hne
                      unfold leaveP at hleave
                      split at hleave
                      · rename_i r' S3 hl
                        split at hleave
                        · rename_i hfree
                          simp only [Option.some.injEq, Prod.mk.injEq] at hleave
                          obtain ⟨rfl, rfl, rfl⟩ := hleave
                          have hr0' := hide_rel hr
                          refine body (hide ρ S.heap) ⟨[], 0⟩ S2 e env' r0 _ hr0' (VL.of hva.len fun j d v h1 h2 => hide_in (hva.get h1 h2) (List.all_eq_true.1 hpure.2 d (List.mem_of_getElem? h1))) hex he hr0 fun w' ρ' v q1 q2 q3 => ?_
                          obtain ⟨ρ2, p1, p2, p3, p4⟩ := leave_ok (S := ⟨[], 0⟩) hr0' q1 q2 q3 hl
                          obtain ⟨hext, rfl, rfl⟩ := p4 rfl
                          have hst : Stp w ρ S w' ρ S := ⟨rfl, q2.os, q2.tape, q2.output, q2.size, Nat.le_refl _, fun b hb hg => ⟨hext.block b hb, hg⟩, fun b q hi => ⟨cell_block (hext.block b hi.1) q, Nat.lt_of_lt_of_le hi.1 q2.size, hi.2⟩,
                            fun g b o ho hg hb => hext.block b (hr.lt hb), fun g o ho => ⟨o, ho, ⟨Nat.le_refl _, rfl⟩, fun _ => rfl, fun _ => ⟨rfl, rfl, rfl, Nat.le_refl _, fun b cur hb hc => ⟨cur, (hext.block b (hr.lt hb)).trans hc, rfl⟩⟩⟩⟩
                          have hrel : Rel w' ρ S.heap := ⟨hr.inj, fun g b hb => by
                            obtain ⟨o, ho, hk⟩ := hr.obj g b hb
                            exact ⟨o, ho, hk.mono hst (hext.block b (hr.lt hb))⟩, hr.hids hst⟩
                          exact ⟨ρ, hrel, hst, hide_out hrel p3 hfree, fun _ => ⟨hext, rfl, rfl⟩⟩
                        · simp at hleave
                      · simp at hleave
                  · cases hex : exCode (runF L N d) N lc (slots.map fun s => args'.getD s .undef) ⟨S.heap, S.heap.length⟩ with
                    | none => rw [hex] at h; simp at h
                    | some q =>
                      obtain ⟨e, env', S2⟩ := q
                      simp only [hex] at h
                      have hne : (e = .normal ∨ e = .ret) ∧ ∃ r0, resultD env' S2 ls = some r0 ∧ leave (L.raw f) S r0 S2 = some (r, S', wr) := by
                        cases e with
                        | exit i => simp at h
                        | normal =>
                          refine ⟨.inl rfl, ?_⟩
                          simp only at h
                          split at h
                          · simp at h
                          · rename_i r0 hr0; exact ⟨r0, hr0, h⟩
                        | ret =>
                          refine ⟨.inr rfl, ?_⟩
                          simp only at h
                          split at h
                          · simp at h
                          · rename_i r0 hr0; exact ⟨r0, hr0, h⟩
                      obtain ⟨he, r0, hr0, hleave⟩ := hne
                      exact body ρ S S2 e env' r0 _ hr hva hex he hr0 fun w' ρ' v q1 q2 q3 => leave_ok hr q1 q2 q3 hleave
                · simp at h
            · simp at hlow
        · simp at hlow
end Go.Proofs.YtabgobmeibjeeaaGreatDoor

namespace Go.Proofs.YtabgobmeibjeeaaGreatDoor
set_option linter.unusedVariables false
set_option linter.unusedSimpArgs false

/-- rounds of a loop that the machine allows -/
def NN : Nat := 18446744073709551616
theorem NN_ge {k : Nat} (h : k ≤ 18446744073709551616) : ∃ m, NN = k + m := ⟨NN - k, by unfold NN; omega⟩

section
variable {call : CallF}
/-- a piece of code runs, and what is asked behind it holds -/
def CW (call : CallF) (c : LCode) (Q : LExit → List D → St → Prop) (env : List D) (S : St) : Prop :=
  ∃ e env' S', exCode call NN c env S = some (e, env', S') ∧ Q e env' S'
def OW (call : CallF) (ops : List LOper) (vals env : List D) (S : St) (K : List D → St → Prop) : Prop :=
  ∃ vals' S', exOps call ops vals env S = some (vals', S') ∧ K vals' S'
/-- operations of a region that draws its order -/
def DW (call : CallF) (n : Nat) (news : List (TypeId × List D)) (ops : List LOper) (fps : List FP) (vals env : List D) (S : St) (K : List D → St → Prop) : Prop :=
  ∃ vals' S', exDrw call n news ops fps vals env S = some (vals', S') ∧ K vals' S'

def SeqK (call : CallF) (b : LCode) (Q : LExit → List D → St → Prop) : LExit → List D → St → Prop
  | .normal, env, S => CW call b Q env S
  | e, env, S => Q e env S
def BlkK (i : Nat) (Q : LExit → List D → St → Prop) : LExit → List D → St → Prop
  | .exit j, env, S => if j = i then Q .normal env S else Q (.exit j) env S
  | e, env, S => Q e env S
variable {Q : LExit → List D → St → Prop} {env : List D} {S : St}

theorem cw_skip (h : Q .normal env S) : CW call .skip Q env S := ⟨_, _, _, rfl, h⟩
theorem cw_ret (h : Q .ret env S) : CW call .ret Q env S := ⟨_, _, _, rfl, h⟩
theorem cw_exit {i : Nat} (h : Q (.exit i) env S) : CW call (.exit i) Q env S := ⟨_, _, _, rfl, h⟩
theorem cw_seq {a b : LCode} (h : CW call a (SeqK call b Q) env S) : CW call (.seq a b) Q env S := by
  obtain ⟨e, env', S', h1, h2⟩ := h
  cases e with
  | normal =>
    obtain ⟨e2, env2, S2, h3, h4⟩ := h2
    exact ⟨e2, env2, S2, by simp only [exCode, h1]; exact h3, h4⟩
  | ret => exact ⟨.ret, env', S', by simp only [exCode, h1], h2⟩
  | exit i => exact ⟨.exit i, env', S', by simp only [exCode, h1], h2⟩
theorem cw_block {i : Nat} {c : LCode} (h : CW call c (BlkK i Q) env S) : CW call (.block i c) Q env S := by
  obtain ⟨e, env', S', h1, h2⟩ := h
  cases e with
  | normal => exact ⟨.normal, env', S', by simp only [exCode, h1], h2⟩
  | ret => exact ⟨.ret, env', S', by simp only [exCode, h1], h2⟩
  | exit j =>
    by_cases hj : j = i
    · exact ⟨.normal, env', S', by simp only [exCode, h1, hj, if_true], by simpa [BlkK, hj] using h2⟩
    · exact ⟨.exit j, env', S', by simp only [exCode, h1, hj, if_false], by simpa [BlkK, hj] using h2⟩
theorem cw_true {c : LOpd} {a b : LCode} (hc : opd [] env c = .bool true) (h : CW call a Q env S) : CW call (.cond c a b) Q env S := by
  obtain ⟨e, env', S', h1, h2⟩ := h
  exact ⟨e, env', S', by simp only [exCode, hc]; exact h1, h2⟩
theorem cw_false {c : LOpd} {a b : LCode} (hc : opd [] env c = .bool false) (h : CW call b Q env S) : CW call (.cond c a b) Q env S := by
  obtain ⟨e, env', S', h1, h2⟩ := h
  exact ⟨e, env', S', by simp only [exCode, hc]; exact h1, h2⟩
theorem cw_cond {c : LOpd} {a b : LCode} {t : Bool} (hc : opd [] env c = .bool t) (ht : t = true → CW call a Q env S) (hf : t = false → CW call b Q env S) : CW call (.cond c a b) Q env S := by
  cases t with
  | true => exact cw_true hc (ht rfl)
  | false => exact cw_false hc (hf rfl)
theorem cw_region {ops : List LOper} {exps : List (Nat × Nat)} (h : OW call ops [] env S (fun vals S' => Q .normal (exports exps vals env) S')) : CW call (.region ops exps) Q env S := by
  obtain ⟨vals, S', h1, h2⟩ := h
  exact ⟨_, _, _, by simp only [exCode, h1], h2⟩
theorem cw_drawn {ops : List LOper} {exps : List (Nat × Nat)} {news : List (TypeId × List D)} {tl : List D} {S0 : St} (ht : newsVals S.heap.length news.length = tl) (hS : (⟨S.heap ++ news.map newsObj, S.low⟩ : St) = S0) (h : DW call S.heap.length news ops [] tl env S0 (fun vals S' => Q .normal (exports exps vals env) S')) : CW call (.drawn ops exps news) Q env S := by
  subst ht hS
  obtain ⟨vals, S', h1, h2⟩ := h
  exact ⟨_, _, _, by simp only [exCode, h1], h2⟩
theorem cw_mono {c : LCode} {Q' : LExit → List D → St → Prop} (h : CW call c Q env S) (hq : ∀ e env' S', Q e env' S' → Q' e env' S') : CW call c Q' env S := by
  obtain ⟨e, env', S', h1, h2⟩ := h
  exact ⟨e, env', S', h1, hq _ _ _ h2⟩

variable {vals : List D} {K : List D → St → Prop} {os : List LOper} {l : LOp} {args : List LOpd} {od : List Bool} {ho : Option Nat}
theorem ow_nil (h : K vals S) : OW call [] vals env S K := ⟨_, _, rfl, h⟩
theorem ow_op {r : D} {S' : St} {wr : Bool} (hx : exOp call l (args.map (opd vals env)) S = some (r, S', wr)) (h : OW call os (r :: vals) env S' K) : OW call (⟨l, args, none, od, ho⟩ :: os) vals env S K := by
  obtain ⟨vals', S2, h1, h2⟩ := h
  refine ⟨vals', S2, ?_, h2⟩
  simp only [exOps, onG, hx]
  exact h1
theorem exOp_pop {r : D} (hl : l.loud = false) (hx : pop l (args.map (opd vals env)) = some r) : exOp call l (args.map (opd vals env)) S = some (r, S, false) := by
  have : exOp call l (args.map (opd vals env)) S = aop l (args.map (opd vals env)) S := by cases l <;> first | rfl | (simp [LOp.loud] at hl; done)
  rw [this]
  simp [aop, hl, hx]
/-- an operation on values -/
theorem ow_pop {r : D} (hl : l.loud = false) (hx : pop l (args.map (opd vals env)) = some r) (h : OW call os (r :: vals) env S K) : OW call (⟨l, args, none, od, ho⟩ :: os) vals env S K := ow_op (exOp_pop hl hx) h
theorem ow_on {d : Nat} {b : Bool} (hg : vals.getD d .undef = .bool b) (h : OW call (⟨l, args, none, od, ho⟩ :: os) vals env S K) : OW call (⟨l, args, some (d, b), od, ho⟩ :: os) vals env S K := by
  obtain ⟨vals', S2, h1, h2⟩ := h
  refine ⟨vals', S2, ?_, h2⟩
  simp only [exOps, onG, hg, beq_self_eq_true] at h1 ⊢
  exact h1
theorem ow_off {d : Nat} {b b' : Bool} (hg : vals.getD d .undef = .bool b') (hb : (b' == b) = false) (h : OW call os (.skip :: vals) env S K) : OW call (⟨l, args, some (d, b), od, ho⟩ :: os) vals env S K := by
  obtain ⟨vals', S2, h1, h2⟩ := h
  refine ⟨vals', S2, ?_, h2⟩
  simp only [exOps, onG, hg, hb]
  exact h1
theorem ow_gone {d : Nat} {b : Bool} (hg : vals.getD d .undef = .skip) (h : OW call os (.skip :: vals) env S K) : OW call (⟨l, args, some (d, b), od, ho⟩ :: os) vals env S K := by
  obtain ⟨vals', S2, h1, h2⟩ := h
  refine ⟨vals', S2, ?_, h2⟩
  simp only [exOps, onG, hg]
  exact h1
theorem ow_guard {d : Nat} {b b' : Bool} (hg : vals.getD d .undef = .bool b') (h1 : b' = b → OW call (⟨l, args, none, od, ho⟩ :: os) vals env S K) (h2 : b' = !b → OW call os (.skip :: vals) env S K) : OW call (⟨l, args, some (d, b), od, ho⟩ :: os) vals env S K := by
  by_cases e : b' = b
  · subst e
    exact ow_on hg (h1 rfl)
  · have : b' = !b := by cases b <;> cases b' <;> simp_all
    exact ow_off hg (by simpa using e) (h2 this)

theorem set_getD {vals : List D} {d : Nat} {x : D} (h : vals.getD d .undef = x) (hx : x ≠ .undef) : vals.set d x = vals := by
  induction vals generalizing d with
  | nil => simp at h; exact (hx h.symm).elim
  | cons a l ih =>
    cases d with
    | zero => simp at h; simp [h]
    | succ d => simp at h; simp; exact ih (by simpa using h)
/-- a test that guards what comes is known from here on -/
theorem ow_split {ops : List LOper} {vt vf : List D} (d : Nat) {b : Bool} (hg : vals.getD d .undef = .bool b) (ht : vals.set d (.bool true) = vt) (hf : vals.set d (.bool false) = vf) (h1 : b = true → OW call ops vt env S K) (h2 : b = false → OW call ops vf env S K) : OW call ops vals env S K := by
  cases b with
  | true => rw [← set_getD hg (by simp)]; rw [ht]; exact h1 rfl
  | false => rw [← set_getD hg (by simp)]; rw [hf]; exact h2 rfl

variable {n : Nat} {news : List (TypeId × List D)} {fps : List FP}
theorem dw_split {ops : List LOper} {vt vf : List D} (d : Nat) {b : Bool} (hg : vals.getD d .undef = .bool b) (ht : vals.set d (.bool true) = vt) (hf : vals.set d (.bool false) = vf) (h1 : b = true → DW call n news ops fps vt env S K) (h2 : b = false → DW call n news ops fps vf env S K) : DW call n news ops fps vals env S K := by
  cases b with
  | true => rw [← set_getD hg (by simp)]; rw [ht]; exact h1 rfl
  | false => rw [← set_getD hg (by simp)]; rw [hf]; exact h2 rfl
theorem dw_nil (h : K vals S) : DW call n news [] fps vals env S K := ⟨_, _, rfl, h⟩
theorem dw_op {r : D} {S' : St} {wr : Bool} {fp : FP} (hx : exOp call l (args.map (opd vals env)) S = some (r, S', wr)) (hf : fpHere n ⟨l, args, none, od, ho⟩ (args.map (opd vals env)) r wr = fp) (hok : okHere n news ⟨l, args, none, od, ho⟩ fps fp S' = true) (h : DW call n news os (fp :: fps) (r :: vals) env S' K) : DW call n news (⟨l, args, none, od, ho⟩ :: os) fps vals env S K := by
  obtain ⟨vals', S2, h1, h2⟩ := h
  subst hf
  refine ⟨vals', S2, ?_, h2⟩
  simp only [exDrw, onG, hx, hok, if_true]
  exact h1
theorem okFP_quiet : ∀ (bs : List Bool) (fs : List FP), bs.length = fs.length → okFP bs fs fpQuiet = true
  | [], [], _ => rfl
  | b :: bs, f :: fs, h => by
    simp only [okFP, Bool.and_eq_true]
    refine ⟨?_, okFP_quiet bs fs (by simpa using h)⟩
    unfold okPair
    split <;> simp_all [fpQuiet, apartW, indep]
  | [], _ :: _, h => by simp at h
  | _ :: _, [], h => by simp at h
/-- an operation on values -/
theorem dw_pop {r : D} (hl : l.loud = false) (hx : pop l (args.map (opd vals env)) = some r) (hn : od.length = fps.length) (h : DW call n news os (fpQuiet :: fps) (r :: vals) env S K) : DW call n news (⟨l, args, none, od, none⟩ :: os) fps vals env S K := by
  have hf : fpOf l (args.map (opd vals env)) r false = fpQuiet := by
    cases l <;> first | rfl | (simp [LOp.loud] at hl; done) | skip
    rename_i st _ _ _ _
    cases st
    · simp [LOp.loud] at hl
    · rfl
  refine dw_op (exOp_pop hl hx) (fp := fpQuiet) hf ?_ h
  simp only [okHere, Bool.and_eq_true]
  exact ⟨okFP_quiet od fps hn, rfl⟩
theorem dw_quiet {r : D} {wr : Bool} {S' : St} (hx : exOp call l (args.map (opd vals env)) S = some (r, S', wr)) (hl : l.loud = false) (hn : od.length = fps.length) (h : DW call n news os (fpQuiet :: fps) (r :: vals) env S' K) : DW call n news (⟨l, args, none, od, none⟩ :: os) fps vals env S K := by
  have : exOp call l (args.map (opd vals env)) S = aop l (args.map (opd vals env)) S := by cases l <;> first | rfl | (simp [LOp.loud] at hl; done)
  rw [this] at hx
  simp only [aop, hl, Bool.false_eq_true, if_false, Option.map_eq_some_iff, Prod.mk.injEq] at hx
  obtain ⟨r', h1, rfl, rfl, rfl⟩ := hx
  exact dw_pop hl h1 hn h
theorem dw_on {d : Nat} {b : Bool} (hg : vals.getD d .undef = .bool b) (h : DW call n news (⟨l, args, none, od, ho⟩ :: os) fps vals env S K) : DW call n news (⟨l, args, some (d, b), od, ho⟩ :: os) fps vals env S K := by
  obtain ⟨vals', S2, h1, h2⟩ := h
  refine ⟨vals', S2, ?_, h2⟩
  simp only [exDrw, onG, hg, beq_self_eq_true] at h1 ⊢
  exact h1
theorem dw_off {d : Nat} {b b' : Bool} (hg : vals.getD d .undef = .bool b') (hb : (b' == b) = false) (h : DW call n news os (fpQuiet :: fps) (.skip :: vals) env S K) : DW call n news (⟨l, args, some (d, b), od, ho⟩ :: os) fps vals env S K := by
  obtain ⟨vals', S2, h1, h2⟩ := h
  refine ⟨vals', S2, ?_, h2⟩
  simp only [exDrw, onG, hg, hb]
  exact h1
theorem dw_gone {d : Nat} {b : Bool} (hg : vals.getD d .undef = .skip) (h : DW call n news os (fpQuiet :: fps) (.skip :: vals) env S K) : DW call n news (⟨l, args, some (d, b), od, ho⟩ :: os) fps vals env S K := by
  obtain ⟨vals', S2, h1, h2⟩ := h
  refine ⟨vals', S2, ?_, h2⟩
  simp only [exDrw, onG, hg]
  exact h1
theorem dw_guard {d : Nat} {b b' : Bool} (hg : vals.getD d .undef = .bool b') (h1 : b' = b → DW call n news (⟨l, args, none, od, ho⟩ :: os) fps vals env S K) (h2 : b' = !b → DW call n news os (fpQuiet :: fps) (.skip :: vals) env S K) : DW call n news (⟨l, args, some (d, b), od, ho⟩ :: os) fps vals env S K := by
  by_cases e : b' = b
  · subst e
    exact dw_on hg (h1 rfl)
  · have : b' = !b := by cases b <;> cases b' <;> simp_all
    exact dw_off hg (by simpa using e) (h2 this)

/-- behind a round of a loop -/
def LoopK (I : Nat → List D → St → Prop) (n : Nat) (Q : LExit → List D → St → Prop) : LExit → List D → St → Prop
  | .normal, env, S => ∃ m, m < n ∧ I m env S
  | e, env, S => Q e env S
/-- a loop: an invariant I n, where n bounds the rounds that are left -/
theorem cw_loop {c : LCode} (I : Nat → List D → St → Prop) (n : Nat) (hn : n < 18446744073709551616) (h0 : I n env S) (hr : ∀ n env S, I n env S → CW call c (LoopK I n Q) env S) : CW call (.loop c) Q env S := by
  have key : ∀ n k env S, n < k → I n env S → ∃ e env' S', loopN (exCode call NN c) k env S = some (e, env', S') ∧ Q e env' S' := by
    intro n
    induction n using Nat.strongRecOn with
    | _ n ih =>
      intro k env S hk hI
      obtain ⟨e, env1, S1, h1, h2⟩ := hr n env S hI
      obtain ⟨k', rfl⟩ : ∃ k', k = k' + 1 := ⟨k - 1, by omega⟩
      simp only [loopN, h1]
      cases e with
      | normal =>
        obtain ⟨m, hm, hI'⟩ := h2
        exact ih m hm k' env1 S1 (by omega) hI'
      | ret => exact ⟨.ret, env1, S1, rfl, h2⟩
      | exit i => exact ⟨.exit i, env1, S1, rfl, h2⟩
  obtain ⟨e, env', S', h1, h2⟩ := key n NN env S (by unfold NN; exact hn) h0
  exact ⟨e, env', S', by simp only [exCode]; exact h1, h2⟩
end

/-- what is asked behind a function's body -/
def FinK (L : Prg) (f : FuncId) (F : LFunc) (S : St) (x : D × St × Bool) : LExit → List D → St → Prop
  | .exit _, _, _ => False
  | _, env', S2 => ∃ r0, resultD env' S2 F.res = some r0 ∧ leave (L.raw f) S r0 S2 = some x
/-- the same behind a call on the empty heap -/
def FinP (F : LFunc) (r : D) : LExit → List D → St → Prop
  | .exit _, _, _ => False
  | _, env', S2 => ∃ r0, resultD env' S2 F.res = some r0 ∧ leaveP ⟨[], 0⟩ r0 S2 = some (r, ⟨[], 0⟩, false)
theorem leaveP_any {S T : St} {r0 r : D} {S2 : St} (h : leaveP T r0 S2 = some (r, T, false)) : leaveP S r0 S2 = some (r, S, false) := by
  unfold leaveP at h ⊢
  split at h
  · rename_i r' S3 hl
    split at h
    · rename_i hf
      simp only [Option.some.injEq, Prod.mk.injEq] at h
      obtain ⟨rfl, _⟩ := h
      simp [hf]
    · simp at h
  · simp at h
theorem run_at {L : Prg} {d : Nat} {f : FuncId} {F : LFunc} {args args' env0 : List D} {S : St} {x : D × St × Bool} (hF : L.fns f = some F) (ha : (if L.raw f then some args else snapVs S.heap.length S.heap args) = some args') (hl : args'.length = F.nargs) (hp : (L.pure f && args'.all D.freeV) = false) (he : (F.slots.map fun s => args'.getD s .undef) = env0) (hd : 0 < d)
    (hb : ∀ d', d = d' + 1 → CW (runF L NN d') F.body (FinK L f F S x) env0 ⟨S.heap, S.heap.length⟩) : runF L NN d f args S = some x := by
  subst he
  obtain ⟨d', rfl⟩ : ∃ d', d = d' + 1 := ⟨d - 1, by omega⟩
  obtain ⟨e, env', S2, h1, h2⟩ := hb d' rfl
  simp only [runF, hF, ha, hl, hp, ne_eq, not_true_eq_false, if_false, Bool.false_eq_true, h1]
  cases e with
  | exit i => exact h2.elim
  | normal =>
    obtain ⟨r0, h3, h4⟩ := h2
    simp only [h3]
    exact h4
  | ret =>
    obtain ⟨r0, h3, h4⟩ := h2
    simp only [h3]
    exact h4
/-- a pure function -/
theorem run_pure {L : Prg} {d : Nat} {f : FuncId} {F : LFunc} {args args' env0 : List D} {S : St} {r : D} (hF : L.fns f = some F) (ha : (if L.raw f then some args else snapVs S.heap.length S.heap args) = some args') (hl : args'.length = F.nargs) (hp : (L.pure f && args'.all D.freeV) = true) (he : (F.slots.map fun s => args'.getD s .undef) = env0) (hd : 0 < d)
    (hb : ∀ d', d = d' + 1 → CW (runF L NN d') F.body (FinP F r) env0 ⟨[], 0⟩) : runF L NN d f args S = some (r, S, false) := by
  subst he
  obtain ⟨d', rfl⟩ : ∃ d', d = d' + 1 := ⟨d - 1, by omega⟩
  obtain ⟨e, env', S2, h1, h2⟩ := hb d' rfl
  simp only [runF, hF, ha, hl, hp, ne_eq, not_true_eq_false, if_false, if_true, h1]
  cases e with
  | exit i => exact h2.elim
  | normal =>
    obtain ⟨r0, h3, h4⟩ := h2
    simp only [h3]
    exact leaveP_any h4
  | ret =>
    obtain ⟨r0, h3, h4⟩ := h2
    simp only [h3]
    exact leaveP_any h4
section
variable {call : CallF} {b : LCode} {Q : LExit → List D → St → Prop} {env env' : List D} {S : St} {i j : Nat}
theorem sk_n (he : env' = env) (h : CW call b Q env S) : SeqK call b Q .normal env' S := he ▸ h
theorem sk_r (h : Q .ret env S) : SeqK call b Q .ret env S := h
theorem sk_e (h : Q (.exit i) env S) : SeqK call b Q (.exit i) env S := h
theorem bk_n (h : Q .normal env S) : BlkK i Q .normal env S := h
theorem bk_r (h : Q .ret env S) : BlkK i Q .ret env S := h
theorem bk_e (h : Q .normal env S) : BlkK i Q (.exit i) env S := by simpa [BlkK] using h
theorem lk_n {I : Nat → List D → St → Prop} {n : Nat} (he : env' = env) (h : ∃ m, m < n ∧ I m env S) : LoopK I n Q .normal env' S := he ▸ h
theorem lk_r {I : Nat → List D → St → Prop} {n : Nat} (h : Q .ret env S) : LoopK I n Q .ret env S := h
theorem lk_e {I : Nat → List D → St → Prop} {n : Nat} (h : Q (.exit i) env S) : LoopK I n Q (.exit i) env S := h
theorem bk_o (hj : (j == i) = false) (h : Q (.exit j) env S) : BlkK i Q (.exit j) env S := by
  have : ¬ j = i := by simpa using hj
  simpa [BlkK, this] using h
end
/-! the heap behind known objects -/
theorem at_app {α : Type} (H L : List α) (k : Nat) : (H ++ L)[H.length + k]? = L[k]? := by
  rw [List.getElem?_append_right (by omega), Nat.add_sub_cancel_left]
theorem at_app0 {α : Type} (H L : List α) : (H ++ L)[H.length]? = L[0]? := at_app H L 0
theorem set_app {α : Type} (H L : List α) (k : Nat) (x : α) : (H ++ L).set (H.length + k) x = H ++ L.set k x := by
  rw [List.set_append, if_neg (by omega), Nat.add_sub_cancel_left]
theorem set_app0 {α : Type} (H L : List α) (x : α) : (H ++ L).set H.length x = H ++ L.set 0 x := set_app H L 0 x
theorem min_low (n k : Nat) : min n (n + k) = n := by omega
end Go.Proofs.YtabgobmeibjeeaaGreatDoor

namespace Go.Proofs.YtabgobmeibjeeaaGreatDoor
set_option linter.unusedVariables false
set_option linter.unusedSimpArgs false

/-! equations, one for each kind of value -/
theorem snap_int (m : Nat) (H : List AObj) (k : IntKind) (n : Int) : snap m H (.int k n) = some (.int k n) := rfl
theorem snapV_int (m : Nat) (H : List AObj) (k : IntKind) (n : Int) : snapV m H (.int k n) = some (.int k n) := rfl
theorem snap_bool (m : Nat) (H : List AObj) (b : Bool) : snap m H (.bool b) = some (.bool b) := rfl
theorem snapV_bool (m : Nat) (H : List AObj) (b : Bool) : snapV m H (.bool b) = some (.bool b) := rfl
theorem snap_str (m : Nat) (H : List AObj) (s : ByteArray) : snap m H (.str s) = some (.str s) := rfl
theorem snapV_str (m : Nat) (H : List AObj) (s : ByteArray) : snapV m H (.str s) = some (.str s) := rfl
theorem snap_nilp (m : Nat) (H : List AObj)  : snap m H .nilp = some .nilp := rfl
theorem snapV_nilp (m : Nat) (H : List AObj)  : snapV m H .nilp = some .nilp := rfl
theorem snap_nils (m : Nat) (H : List AObj)  : snap m H .nils = some .nils := rfl
theorem snapV_nils (m : Nat) (H : List AObj)  : snapV m H .nils = some .nils := rfl
theorem snap_nilfn (m : Nat) (H : List AObj)  : snap m H .nilfn = some .nilfn := rfl
theorem snapV_nilfn (m : Nat) (H : List AObj)  : snapV m H .nilfn = some .nilfn := rfl
theorem snap_nilm (m : Nat) (H : List AObj)  : snap m H .nilm = some .nilm := rfl
theorem snapV_nilm (m : Nat) (H : List AObj)  : snapV m H .nilm = some .nilm := rfl
theorem snap_sl (m : Nat) (H : List AObj) (sz : Nat) (rows : List (List D)) (cap : Option Nat) : snap m H (.sl sz rows cap) = some (.sl sz rows cap) := rfl
theorem snapV_sl (m : Nat) (H : List AObj) (sz : Nat) (rows : List (List D)) (cap : Option Nat) : snapV m H (.sl sz rows cap) = some (.sl sz rows cap) := rfl
theorem snap_cptr (m : Nat) (H : List AObj) (row : List D) (o : Nat) : snap m H (.cptr row o) = some (.cptr row o) := rfl
theorem snapV_cptr (m : Nat) (H : List AObj) (row : List D) (o : Nat) : snapV m H (.cptr row o) = some (.cptr row o) := rfl
theorem snap_mp (m : Nat) (H : List AObj) (rows : List (List D)) : snap m H (.mp rows) = some (.mp rows) := rfl
theorem snapV_mp (m : Nat) (H : List AObj) (rows : List (List D)) : snapV m H (.mp rows) = some (.mp rows) := rfl
theorem snap_ptr (m : Nat) (H : List AObj) (g v i o : Nat) : snap m H (.ptr g v i o) = some (.ptr g v i o) := rfl
theorem snapV_ptr (m : Nat) (H : List AObj) (g v i o : Nat) : snapV m H (.ptr g v i o) = some (.ptr g v i o) := rfl
theorem snap_fn (m : Nat) (H : List AObj) (f : FuncId) (cs : List D) : snap m H (.fn f cs) = some (.fn f cs) := rfl
theorem snapV_fn (m : Nat) (H : List AObj) (f : FuncId) (cs : List D) : snapV m H (.fn f cs) = some (.fn f cs) := rfl
theorem snapV_msl (m : Nat) (H : List AObj) (g v lo n : Nat) (cap : Option Nat) : snapV m H (.msl g v lo n cap) = snap m H (.msl g v lo n cap) := rfl
theorem snapV_mref (m : Nat) (H : List AObj) (g v : Nat) : snapV m H (.mref g v) = snap m H (.mref g v) := rfl
theorem snap_msl (m : Nat) (H : List AObj) (g v lo n : Nat) (cap : Option Nat) : snap m H (.msl g v lo n cap) = match H[g]? with | some o => if o.ver = v ∧ (o.kind = 1 ∨ (m ≤ g ∧ o.kind = 2)) then some (.sl o.sz ((o.rows.drop lo).take n) (match cap with | some c => some c | none => if o.grow then none else some (o.rows.length - lo))) else none | none => none := rfl
theorem snap_mref (m : Nat) (H : List AObj) (g v : Nat) : snap m H (.mref g v) = if m ≤ g then (match H[g]? with | some o => if o.ver = v ∧ o.kind = 3 ∧ o.elem = 0 then some (.mp o.rows) else none | none => none) else some (.mref g v) := rfl
theorem snapV_agg (m : Nat) (H : List AObj) (cs : List D) : snapV m H (.agg cs) = (snaps m H cs).map .agg := rfl
theorem snapR_tup (m : Nat) (H : List AObj) (cs : List D) : snapR m H (.tup cs) = (snapVs m H cs).map .tup := rfl
theorem snapR_int (m : Nat) (H : List AObj) (k : IntKind) (n : Int) : snapR m H (.int k n) = snapV m H (.int k n) := rfl
theorem snapR_bool (m : Nat) (H : List AObj) (b : Bool) : snapR m H (.bool b) = snapV m H (.bool b) := rfl
theorem snapR_str (m : Nat) (H : List AObj) (s : ByteArray) : snapR m H (.str s) = snapV m H (.str s) := rfl
theorem snapR_nilp (m : Nat) (H : List AObj)  : snapR m H .nilp = snapV m H .nilp := rfl
theorem snapR_nils (m : Nat) (H : List AObj)  : snapR m H .nils = snapV m H .nils := rfl
theorem snapR_nilfn (m : Nat) (H : List AObj)  : snapR m H .nilfn = snapV m H .nilfn := rfl
theorem snapR_nilm (m : Nat) (H : List AObj)  : snapR m H .nilm = snapV m H .nilm := rfl
theorem snapR_sl (m : Nat) (H : List AObj) (sz : Nat) (rows : List (List D)) (cap : Option Nat) : snapR m H (.sl sz rows cap) = snapV m H (.sl sz rows cap) := rfl
theorem snapR_cptr (m : Nat) (H : List AObj) (row : List D) (o : Nat) : snapR m H (.cptr row o) = snapV m H (.cptr row o) := rfl
theorem snapR_mp (m : Nat) (H : List AObj) (rows : List (List D)) : snapR m H (.mp rows) = snapV m H (.mp rows) := rfl
theorem snapR_ptr (m : Nat) (H : List AObj) (g v i o : Nat) : snapR m H (.ptr g v i o) = snapV m H (.ptr g v i o) := rfl
theorem snapR_fn (m : Nat) (H : List AObj) (f : FuncId) (cs : List D) : snapR m H (.fn f cs) = snapV m H (.fn f cs) := rfl
theorem snapR_msl (m : Nat) (H : List AObj) (g v lo n : Nat) (cap : Option Nat) : snapR m H (.msl g v lo n cap) = snapV m H (.msl g v lo n cap) := rfl
theorem snapR_mref (m : Nat) (H : List AObj) (g v : Nat) : snapR m H (.mref g v) = snapV m H (.mref g v) := rfl
theorem snapR_agg (m : Nat) (H : List AObj) (cs : List D) : snapR m H (.agg cs) = snapV m H (.agg cs) := rfl
theorem free_int (k : IntKind) (n : Int) : D.free (.int k n) = true := rfl
theorem freeV_int (k : IntKind) (n : Int) : D.freeV (.int k n) = true := rfl
theorem freeR_int (k : IntKind) (n : Int) : D.freeR (.int k n) = true := rfl
theorem isCell_int (k : IntKind) (n : Int) : D.isCell (.int k n) = true := rfl
theorem val_int (k : IntKind) (n : Int) : D.val (.int k n) = true := rfl
theorem cells_int (k : IntKind) (n : Int) : D.cells (.int k n) = [(.int k n)] := rfl
theorem free_bool (b : Bool) : D.free (.bool b) = true := rfl
theorem freeV_bool (b : Bool) : D.freeV (.bool b) = true := rfl
theorem freeR_bool (b : Bool) : D.freeR (.bool b) = true := rfl
theorem isCell_bool (b : Bool) : D.isCell (.bool b) = true := rfl
theorem val_bool (b : Bool) : D.val (.bool b) = true := rfl
theorem cells_bool (b : Bool) : D.cells (.bool b) = [(.bool b)] := rfl
theorem free_str (s : ByteArray) : D.free (.str s) = true := rfl
theorem freeV_str (s : ByteArray) : D.freeV (.str s) = true := rfl
theorem freeR_str (s : ByteArray) : D.freeR (.str s) = true := rfl
theorem isCell_str (s : ByteArray) : D.isCell (.str s) = true := rfl
theorem val_str (s : ByteArray) : D.val (.str s) = true := rfl
theorem cells_str (s : ByteArray) : D.cells (.str s) = [(.str s)] := rfl
theorem free_nilp  : D.free .nilp = true := rfl
theorem freeV_nilp  : D.freeV .nilp = true := rfl
theorem freeR_nilp  : D.freeR .nilp = true := rfl
theorem isCell_nilp  : D.isCell .nilp = true := rfl
theorem val_nilp  : D.val .nilp = true := rfl
theorem cells_nilp  : D.cells .nilp = [.nilp] := rfl
theorem free_nils  : D.free .nils = true := rfl
theorem freeV_nils  : D.freeV .nils = true := rfl
theorem freeR_nils  : D.freeR .nils = true := rfl
theorem isCell_nils  : D.isCell .nils = true := rfl
theorem val_nils  : D.val .nils = true := rfl
theorem cells_nils  : D.cells .nils = [.nils] := rfl
theorem free_nilfn  : D.free .nilfn = true := rfl
theorem freeV_nilfn  : D.freeV .nilfn = true := rfl
theorem freeR_nilfn  : D.freeR .nilfn = true := rfl
theorem isCell_nilfn  : D.isCell .nilfn = true := rfl
theorem val_nilfn  : D.val .nilfn = true := rfl
theorem cells_nilfn  : D.cells .nilfn = [.nilfn] := rfl
theorem free_nilm  : D.free .nilm = true := rfl
theorem freeV_nilm  : D.freeV .nilm = true := rfl
theorem freeR_nilm  : D.freeR .nilm = true := rfl
theorem isCell_nilm  : D.isCell .nilm = true := rfl
theorem val_nilm  : D.val .nilm = true := rfl
theorem cells_nilm  : D.cells .nilm = [.nilm] := rfl
theorem free_sl (sz : Nat) (rows : List (List D)) (cap : Option Nat) : D.free (.sl sz rows cap) = true := rfl
theorem freeV_sl (sz : Nat) (rows : List (List D)) (cap : Option Nat) : D.freeV (.sl sz rows cap) = true := rfl
theorem freeR_sl (sz : Nat) (rows : List (List D)) (cap : Option Nat) : D.freeR (.sl sz rows cap) = true := rfl
theorem isCell_sl (sz : Nat) (rows : List (List D)) (cap : Option Nat) : D.isCell (.sl sz rows cap) = true := rfl
theorem val_sl (sz : Nat) (rows : List (List D)) (cap : Option Nat) : D.val (.sl sz rows cap) = true := rfl
theorem cells_sl (sz : Nat) (rows : List (List D)) (cap : Option Nat) : D.cells (.sl sz rows cap) = [(.sl sz rows cap)] := rfl
theorem free_cptr (row : List D) (o : Nat) : D.free (.cptr row o) = true := rfl
theorem freeV_cptr (row : List D) (o : Nat) : D.freeV (.cptr row o) = true := rfl
theorem freeR_cptr (row : List D) (o : Nat) : D.freeR (.cptr row o) = true := rfl
theorem isCell_cptr (row : List D) (o : Nat) : D.isCell (.cptr row o) = true := rfl
theorem val_cptr (row : List D) (o : Nat) : D.val (.cptr row o) = true := rfl
theorem cells_cptr (row : List D) (o : Nat) : D.cells (.cptr row o) = [(.cptr row o)] := rfl
theorem free_mp (rows : List (List D)) : D.free (.mp rows) = true := rfl
theorem freeV_mp (rows : List (List D)) : D.freeV (.mp rows) = true := rfl
theorem freeR_mp (rows : List (List D)) : D.freeR (.mp rows) = true := rfl
theorem isCell_mp (rows : List (List D)) : D.isCell (.mp rows) = true := rfl
theorem val_mp (rows : List (List D)) : D.val (.mp rows) = true := rfl
theorem cells_mp (rows : List (List D)) : D.cells (.mp rows) = [(.mp rows)] := rfl
theorem free_ptr (g v i o : Nat) : D.free (.ptr g v i o) = false := rfl
theorem freeV_ptr (g v i o : Nat) : D.freeV (.ptr g v i o) = false := rfl
theorem freeR_ptr (g v i o : Nat) : D.freeR (.ptr g v i o) = false := rfl
theorem isCell_ptr (g v i o : Nat) : D.isCell (.ptr g v i o) = true := rfl
theorem val_ptr (g v i o : Nat) : D.val (.ptr g v i o) = true := rfl
theorem cells_ptr (g v i o : Nat) : D.cells (.ptr g v i o) = [(.ptr g v i o)] := rfl
theorem free_fn (f : FuncId) (cs : List D) : D.free (.fn f cs) = cs.isEmpty := rfl
theorem freeV_fn (f : FuncId) (cs : List D) : D.freeV (.fn f cs) = cs.isEmpty := rfl
theorem freeR_fn (f : FuncId) (cs : List D) : D.freeR (.fn f cs) = cs.isEmpty := rfl
theorem isCell_fn (f : FuncId) (cs : List D) : D.isCell (.fn f cs) = true := rfl
theorem val_fn (f : FuncId) (cs : List D) : D.val (.fn f cs) = true := rfl
theorem cells_fn (f : FuncId) (cs : List D) : D.cells (.fn f cs) = [(.fn f cs)] := rfl
theorem free_msl (g v lo n : Nat) (cap : Option Nat) : D.free (.msl g v lo n cap) = false := rfl
theorem freeV_msl (g v lo n : Nat) (cap : Option Nat) : D.freeV (.msl g v lo n cap) = false := rfl
theorem freeR_msl (g v lo n : Nat) (cap : Option Nat) : D.freeR (.msl g v lo n cap) = false := rfl
theorem isCell_msl (g v lo n : Nat) (cap : Option Nat) : D.isCell (.msl g v lo n cap) = true := rfl
theorem val_msl (g v lo n : Nat) (cap : Option Nat) : D.val (.msl g v lo n cap) = true := rfl
theorem cells_msl (g v lo n : Nat) (cap : Option Nat) : D.cells (.msl g v lo n cap) = [(.msl g v lo n cap)] := rfl
theorem free_mref (g v : Nat) : D.free (.mref g v) = false := rfl
theorem freeV_mref (g v : Nat) : D.freeV (.mref g v) = false := rfl
theorem freeR_mref (g v : Nat) : D.freeR (.mref g v) = false := rfl
theorem isCell_mref (g v : Nat) : D.isCell (.mref g v) = true := rfl
theorem val_mref (g v : Nat) : D.val (.mref g v) = true := rfl
theorem cells_mref (g v : Nat) : D.cells (.mref g v) = [(.mref g v)] := rfl
theorem freeV_agg (cs : List D) : D.freeV (.agg cs) = cs.all D.free := rfl
theorem freeR_agg (cs : List D) : D.freeR (.agg cs) = cs.all D.free := rfl
theorem freeR_tup (cs : List D) : D.freeR (.tup cs) = cs.all D.freeV := rfl
theorem val_agg (cs : List D) : D.val (.agg cs) = cs.all D.isCell := rfl
theorem cells_agg (cs : List D) : D.cells (.agg cs) = cs := rfl
theorem val_undef  : D.val .undef = false := rfl
theorem snap_nili (m : Nat) (H : List AObj)  : snap m H .nili = some .nili := rfl
theorem snapV_nili (m : Nat) (H : List AObj)  : snapV m H .nili = some .nili := rfl
theorem snapR_nili (m : Nat) (H : List AObj)  : snapR m H .nili = snapV m H .nili := rfl
theorem free_nili  : D.free .nili = true := rfl
theorem freeV_nili  : D.freeV .nili = true := rfl
theorem freeR_nili  : D.freeR .nili = true := rfl
theorem isCell_nili  : D.isCell .nili = true := rfl
theorem val_nili  : D.val .nili = true := rfl
theorem cells_nili  : D.cells .nili = [.nili] := rfl
theorem snap_ifc (m : Nat) (H : List AObj) (t : TypeId) (d : D) : snap m H (.ifc t d) = some (.ifc t d) := rfl
theorem snapV_ifc (m : Nat) (H : List AObj) (t : TypeId) (d : D) : snapV m H (.ifc t d) = some (.ifc t d) := rfl
theorem snapR_ifc (m : Nat) (H : List AObj) (t : TypeId) (d : D) : snapR m H (.ifc t d) = snapV m H (.ifc t d) := rfl
theorem free_ifc (t : TypeId) (d : D) : D.free (.ifc t d) = true := rfl
theorem freeV_ifc (t : TypeId) (d : D) : D.freeV (.ifc t d) = true := rfl
theorem freeR_ifc (t : TypeId) (d : D) : D.freeR (.ifc t d) = true := rfl
theorem isCell_ifc (t : TypeId) (d : D) : D.isCell (.ifc t d) = true := rfl
theorem val_ifc (t : TypeId) (d : D) : D.val (.ifc t d) = true := rfl
theorem cells_ifc (t : TypeId) (d : D) : D.cells (.ifc t d) = [(.ifc t d)] := rfl
theorem snap_ifr (m : Nat) (H : List AObj) (t : TypeId) (d : D) : snap m H (.ifr t d) = some (.ifr t d) := rfl
theorem snapV_ifr (m : Nat) (H : List AObj) (t : TypeId) (d : D) : snapV m H (.ifr t d) = some (.ifr t d) := rfl
theorem snapR_ifr (m : Nat) (H : List AObj) (t : TypeId) (d : D) : snapR m H (.ifr t d) = snapV m H (.ifr t d) := rfl
theorem free_ifr (t : TypeId) (d : D) : D.free (.ifr t d) = false := rfl
theorem freeV_ifr (t : TypeId) (d : D) : D.freeV (.ifr t d) = false := rfl
theorem freeR_ifr (t : TypeId) (d : D) : D.freeR (.ifr t d) = false := rfl
theorem isCell_ifr (t : TypeId) (d : D) : D.isCell (.ifr t d) = true := rfl
theorem val_ifr (t : TypeId) (d : D) : D.val (.ifr t d) = true := rfl
theorem cells_ifr (t : TypeId) (d : D) : D.cells (.ifr t d) = [(.ifr t d)] := rfl
theorem snap_iter (m : Nat) (H : List AObj) (g v : Nat) : snap m H (.iter g v) = some (.iter g v) := rfl
theorem snapV_iter (m : Nat) (H : List AObj) (g v : Nat) : snapV m H (.iter g v) = some (.iter g v) := rfl
theorem snapR_iter (m : Nat) (H : List AObj) (g v : Nat) : snapR m H (.iter g v) = snapV m H (.iter g v) := rfl
theorem free_iter (g v : Nat) : D.free (.iter g v) = false := rfl
theorem freeV_iter (g v : Nat) : D.freeV (.iter g v) = false := rfl
theorem freeR_iter (g v : Nat) : D.freeR (.iter g v) = false := rfl
theorem isCell_iter (g v : Nat) : D.isCell (.iter g v) = true := rfl
theorem val_iter (g v : Nat) : D.val (.iter g v) = true := rfl
theorem cells_iter (g v : Nat) : D.cells (.iter g v) = [(.iter g v)] := rfl
theorem lenD_str (s : ByteArray) : lenD true (.str s) = some (.int .i64 s.size) := rfl
theorem lenD_nils : lenD false .nils = some (.int .i64 0) := rfl
theorem lenD_sl (sz : Nat) (rows : List (List D)) (cap : Option Nat) : lenD false (.sl sz rows cap) = some (.int .i64 rows.length) := rfl
theorem lenD_msl (g v lo n : Nat) (cap : Option Nat) : lenD false (.msl g v lo n cap) = some (.int .i64 n) := rfl
theorem capD_nils : capD .nils = some (.int .i64 0) := rfl
theorem capD_sl (sz : Nat) (rows : List (List D)) (c : Nat) : capD (.sl sz rows (some c)) = some (.int .i64 c) := rfl
theorem capD_msl (g v lo n c : Nat) : capD (.msl g v lo n (some c)) = some (.int .i64 c) := rfl
theorem iaddrD_sl (S : St) (sz s : Nat) (rows : List (List D)) (cap : Option Nat) (k : IntKind) (i : Int) : iaddrD S sz (.sl s rows cap) (.int k i) = if s = sz ∧ 0 ≤ i then rows[i.toNat]?.map (fun r => .cptr r 0) else none := rfl
theorem iaddrD_msl (S : St) (sz g v lo n : Nat) (cap : Option Nat) (k : IntKind) (i : Int) : iaddrD S sz (.msl g v lo n cap) (.int k i) = match rowsOf S g v with | some ob => if ob.sz = sz ∧ 0 ≤ i ∧ i < n then some (.ptr g v (lo + i.toNat) 0) else none | none => none := rfl
theorem readRows_nils (S : St) (sz : Nat) : readRows S sz .nils = some [] := rfl
theorem readRows_sl (S : St) (sz s : Nat) (rows : List (List D)) (cap : Option Nat) : readRows S sz (.sl s rows cap) = if s = sz then some rows else none := rfl
theorem readRows_msl (S : St) (sz g v lo n : Nat) (cap : Option Nat) : readRows S sz (.msl g v lo n cap) = match rowsOf S g v with | some o => if o.sz = sz ∧ (o.kind = 1 ∨ o.kind = 2) then some ((o.rows.drop lo).take n) else none | none => none := rfl
theorem loadD_cptr (sz : Nat) (agg : Bool) (S : St) (row : List D) (o : Nat) : loadD sz agg S (.cptr row o) = partD row o sz agg := rfl
theorem loadD_ptr (sz : Nat) (agg : Bool) (S : St) (g v i o : Nat) : loadD sz agg S (.ptr g v i o) = match rowsOf S g v with | some x => (match x.rows[i]? with | some row => partD row o sz agg | none => none) | none => none := rfl
theorem faddrD_ptr (f g v i o : Nat) : faddrD f (.ptr g v i o) = some (.ptr g v i (o + f)) := rfl
theorem faddrD_cptr (f : Nat) (row : List D) (o : Nat) : faddrD f (.cptr row o) = some (.cptr row (o + f)) := rfl
/-- an immutable slice with these rows, or nil where there are none -/
def SlD (sz : Nat) (rows : List (List D)) (x : D) : Prop := (x = .nils ∧ rows = []) ∨ ∃ cap, x = .sl sz rows cap
section
variable {sz : Nat} {rows : List (List D)} {x : D} (h : SlD sz rows x)
include h
theorem SlD.free : x.free = true := by rcases h with ⟨rfl, rfl⟩ | ⟨c, rfl⟩ <;> rfl
theorem SlD.freeV : x.freeV = true := by rcases h with ⟨rfl, rfl⟩ | ⟨c, rfl⟩ <;> rfl
theorem SlD.freeR : x.freeR = true := by rcases h with ⟨rfl, rfl⟩ | ⟨c, rfl⟩ <;> rfl
theorem SlD.isCell : x.isCell = true := by rcases h with ⟨rfl, rfl⟩ | ⟨c, rfl⟩ <;> rfl
theorem SlD.val : x.val = true := by rcases h with ⟨rfl, rfl⟩ | ⟨c, rfl⟩ <;> rfl
theorem SlD.cells : x.cells = [x] := by rcases h with ⟨rfl, rfl⟩ | ⟨c, rfl⟩ <;> rfl
theorem SlD.snap (m : Nat) (H : List AObj) : snap m H x = some x := by rcases h with ⟨rfl, rfl⟩ | ⟨c, rfl⟩ <;> rfl
theorem SlD.snapV (m : Nat) (H : List AObj) : snapV m H x = some x := by rcases h with ⟨rfl, rfl⟩ | ⟨c, rfl⟩ <;> rfl
theorem SlD.snapR (m : Nat) (H : List AObj) : snapR m H x = some x := by rcases h with ⟨rfl, rfl⟩ | ⟨c, rfl⟩ <;> rfl
theorem SlD.plain : plain1 x = true := by rcases h with ⟨rfl, rfl⟩ | ⟨c, rfl⟩ <;> rfl
theorem SlD.plainV : plainV x = true := by rcases h with ⟨rfl, rfl⟩ | ⟨c, rfl⟩ <;> rfl
theorem SlD.len : lenD false x = some (.int .i64 rows.length) := by rcases h with ⟨rfl, rfl⟩ | ⟨c, rfl⟩ <;> rfl
theorem SlD.read (S : St) : readRows S sz x = some rows := by
  rcases h with ⟨rfl, rfl⟩ | ⟨c, rfl⟩
  · rfl
  · simp [readRows]
theorem SlD.iaddr (S : St) (k : IntKind) {i : Int} {r : List D} (h0 : 0 ≤ i) (hr : rows[i.toNat]? = some r) : iaddrD S sz x (.int k i) = some (.cptr r 0) := by
  rcases h with ⟨rfl, rfl⟩ | ⟨c, rfl⟩
  · simp at hr
  · simp [iaddrD, h0, hr]
theorem SlD.iaddrN (S : St) (k : IntKind) {i : Nat} {r : List D} (hr : rows[i]? = some r) : iaddrD S sz x (.int k i) = some (.cptr r 0) := h.iaddr S k (by omega) (by simpa using hr)
theorem SlD.fpi (n : Nat) (i r : D) (wr : Bool) : fpOf (.iaddr n) [x, i] r wr = fpRead [] := by rcases h with ⟨rfl, rfl⟩ | ⟨c, rfl⟩ <;> rfl
end
theorem SlD.of (sz : Nat) (rows : List (List D)) (c : Option Nat) : SlD sz rows (.sl sz rows c) := .inr ⟨c, rfl⟩
theorem SlD.nil (sz : Nat) : SlD sz [] .nils := .inl ⟨rfl, rfl⟩
/-- texts -/
def strRows (l : List ByteArray) : List (List D) := l.map fun s => [.str s]
def strsD : List ByteArray → D
  | [] => .nils
  | l => .sl 1 (strRows l) none
theorem strsD_S (l : List ByteArray) : SlD 1 (strRows l) (strsD l) := by
  cases l with
  | nil => exact .nil 1
  | cons a l => exact .of _ _ _
theorem strRows_at {l : List ByteArray} {i : Nat} (h : i < l.length) : (strRows l)[i]? = some [.str l[i]] := by simp [strRows, h]
theorem strRows_len (l : List ByteArray) : (strRows l).length = l.length := by simp [strRows]
/-- a table of values of the machine gives each of its values -/
theorem tab_at {α : Type} {n : Nat} {f g : Nat → α} (h : (List.range n).map f = (List.range n).map g) (i : Nat) (hi : i < n) : f i = g i := by
  have := congrArg (·[i]?) h
  simpa [hi] using this
/-- the first place where a test holds, or -1 -/
def idxI {α : Type} (p : α → Bool) (l : List α) : Int := match l.findIdx? p with | some i => i | none => -1
theorem idxI_none {α : Type} {p : α → Bool} {l : List α} (h : l.any p = false) : idxI p l = -1 := by
  have : l.findIdx? p = none := by
    rw [List.findIdx?_eq_none_iff]
    intro x hx
    have := List.any_eq_false.1 h x hx
    simpa using this
  simp [idxI, this]
theorem idxI_at {α : Type} {p : α → Bool} {l : List α} {i : Nat} (hi : i < l.length) (hp : p l[i] = true) (hb : (l.take i).any p = false) : idxI p l = i := by
  have : l.findIdx? p = some i := by
    rw [List.findIdx?_eq_some_iff_getElem]
    refine ⟨hi, hp, fun j hj => ?_⟩
    have := List.any_eq_false.1 hb l[j] (by
      rw [List.mem_take_iff_getElem]
      exact ⟨j, by omega, rfl⟩)
    simpa using this
  simp [idxI, this]
theorem any_take_succ {α : Type} {p : α → Bool} {l : List α} {i : Nat} (hi : i < l.length) (hb : (l.take i).any p = false) (hp : p l[i] = false) : (l.take (i + 1)).any p = false := by
  rw [List.take_add_one, List.getElem?_eq_getElem hi, List.any_append, hb]
  simp [hp]
theorem idxI_nonneg {α : Type} (p : α → Bool) (l : List α) : decide (idxI p l ≥ 0) = l.any p := by
  cases h : l.any p with
  | false => rw [idxI_none h]; rfl
  | true =>
    unfold idxI
    cases hf : l.findIdx? p with
    | some i => simp
    | none =>
      rw [List.findIdx?_eq_none_iff] at hf
      obtain ⟨x, hx, hp⟩ := List.any_eq_true.1 h
      rw [hf x hx] at hp
      simp at hp
theorem wrap_nat (k : Nat) (h : k < 1000000000) : IntKind.i64.wrap ((k : Int) + 1) = ((k + 1 : Nat) : Int) := by rw [IntKind.wrap_i64]; omega
/-! footprints, one equation for each kind of value -/
theorem fp_load_cptr (sz : Nat) (agg : Bool) (row : List D) (o : Nat) (r : D) (wr : Bool) : fpOf (.load sz agg) [.cptr row o] r wr = fpRead [] := rfl
theorem fp_load_ptr (sz : Nat) (agg : Bool) (g v i o : Nat) (r : D) (wr : Bool) : fpOf (.load sz agg) [.ptr g v i o] r wr = fpRead [g] := rfl
theorem fp_iaddr_sl (n sz : Nat) (rows : List (List D)) (cap : Option Nat) (i r : D) (wr : Bool) : fpOf (.iaddr n) [.sl sz rows cap, i] r wr = fpRead [] := rfl
theorem fp_iaddr_msl (n g v lo m : Nat) (cap : Option Nat) (i r : D) (wr : Bool) : fpOf (.iaddr n) [.msl g v lo m cap, i] r wr = fpRead [g] := rfl
theorem fp_call (f : FuncId) (ds : List D) (r : D) (wr : Bool) : fpOf (.call f) ds r wr = fpAll wr := rfl
theorem fp_callv (ds : List D) (r : D) (wr : Bool) : fpOf .callv ds r wr = fpAll wr := rfl
theorem fp_append (e sz b k : Nat) (ds : List D) (r : D) (wr : Bool) : fpOf (.append e sz b k) ds r wr = fpAll wr := rfl
theorem fp_bslice (e sz n : Nat) (z : List D) (ps : List Nat) (k : Nat) (ds : List D) (r : D) (wr : Bool) : fpOf (.bslice e sz n z ps k) ds r wr = fpAll wr := rfl
theorem fp_store (sz g v i o : Nat) (x r : D) (wr : Bool) : fpOf (.store sz) [.ptr g v i o, x] r wr = if plainV x then ⟨true, some [g], some [g], false, none⟩ else fpAll wr := rfl
theorem fp_box (e sz : Nat) (ds : List D) (g v i o : Nat) (wr : Bool) : fpOf (.box e sz) ds (.ptr g v i o) wr = ⟨true, some [], some [g], true, none⟩ := rfl
theorem fp_alloc (e : Nat) (z ds : List D) (r : D) (wr : Bool) : fpOf (.alloc e z) ds r wr = fpAll wr := rfl
theorem fp_bstr (ds : List D) (r : D) (wr : Bool) : fpOf .bstr ds r wr = fpAll wr := rfl
theorem fp_strb (ds : List D) (r : D) (wr : Bool) : fpOf .strb ds r wr = fpRead [] := rfl
theorem fp_slice_sl (n sz : Nat) (rows : List (List D)) (cap : Option Nat) (a b c : Bool) (ds : List D) (r : D) (wr : Bool) : fpOf (.slice false n a b c) (.sl sz rows cap :: ds) r wr = fpRead [] := rfl
theorem fp_slice_msl (n g v lo m : Nat) (cap : Option Nat) (a b c : Bool) (ds : List D) (r : D) (wr : Bool) : fpOf (.slice false n a b c) (.msl g v lo m cap :: ds) r wr = fpRead [g] := rfl
theorem fp_mapget (kf : Nat) (z : D) (ok : Bool) (rows : List (List D)) (k r : D) (wr : Bool) : fpOf (.mapget kf z ok) [.mp rows, k] r wr = fpRead [] := rfl
theorem fp_mkslice (e sz b : Nat) (z : List D) (k : Nat) (ds : List D) (g v lo n : Nat) (c : Option Nat) (wr : Bool) : fpOf (.mkslice e sz b z k) ds (.msl g v lo n c) wr = ⟨true, some [], some [g], true, none⟩ := rfl
theorem fpAll_f : fpAll false = ⟨true, none, some [], false, none⟩ := rfl
theorem fpAll_t : fpAll true = ⟨true, none, none, true, none⟩ := rfl
/-! strings -/
theorem natOf_nat (k : IntKind) (n : Nat) : natOf (.int k (n : Int)) = some n := by simp [natOf]
section
variable {call : CallF} {S : St}
theorem x_strslice {s : ByteArray} {lo hi : Nat} (k k' : IntKind) (h1 : lo ≤ hi) (h2 : hi ≤ s.size) : exOp call (.slice true 0 true true false) [.str s, .int k lo, .int k' hi] S = some (.str (s.extract lo hi), S, false) := by
  simp [exOp, aop, LOp.loud, pop, sliceArgs, boundsD, natOr, natOf_nat, h1, h2]
theorem x_stradd {a b : ByteArray} (h : a.size + b.size ≤ 4611686018427387904) : exOp call (.bin .add) [.str a, .str b] S = some (.str (a ++ b), S, false) := by
  have : ¬ (((a.size + b.size : Nat) : Int) > IntKind.i64.max) := by simp only [IntKind.max, IntKind.signed, IntKind.bits]; simp; omega
  simp only [exOp, aop, LOp.loud, pop, binD, this, if_false, Bool.false_eq_true, Option.map_some]
end
/-! rows that a loop appends to: an object behind the heap H, or nothing yet -/
def AppS (H : List AObj) (lo : Nat) (e : TypeId) (sz : Nat) (rows : List (List D)) (S : St) (x : D) : Prop :=
  (rows = [] ∧ S = ⟨H, lo⟩ ∧ x = .nils) ∨ ∃ v, S = ⟨H ++ [⟨e, sz, rows, v, 1, true⟩], lo⟩ ∧ x = .msl H.length v 0 rows.length none
theorem AppS.nil (H : List AObj) (lo : Nat) (e : TypeId) (sz : Nat) : AppS H lo e sz [] ⟨H, lo⟩ .nils := .inl ⟨rfl, rfl, rfl⟩
theorem AppS.app {H : List AObj} {lo : Nat} {e sz : Nat} {rows : List (List D)} {S : St} {x : D} (h : AppS H lo e sz rows S x) (hlo : lo ≤ H.length) (bytes : Nat) {new : List (List D)} {c : Option Nat} (hn : new.isEmpty = false) (hb : (rows.length + new.length) * bytes ≤ 140737488355328) :
    ∃ x' S', appendD e sz bytes 1 x (.sl sz new c) S = some (x', S', true) ∧ AppS H lo e sz (rows ++ new) S' x' := by
  rcases h with ⟨rfl, rfl, rfl⟩ | ⟨v, rfl, rfl⟩
  · refine ⟨.msl H.length 0 0 new.length none, newAt ⟨H, lo⟩ ⟨e, sz, new, 0, 1, true⟩, ?_, .inr ⟨0, rfl, by simp⟩⟩
    simp only [List.length_nil, Nat.zero_add] at hb
    simp [appendD, appendRows, readRows, hn, hb]
  · refine ⟨.msl H.length (v + 1) 0 (rows.length + new.length) none, ⟨H ++ [⟨e, sz, rows ++ new, v + 1, 1, true⟩], lo⟩, ?_, .inr ⟨v + 1, rfl, by simp⟩⟩
    have hm : min lo H.length = lo := by omega
    simp [appendD, appendRows, readRows, rowsOf, hb, setAt, hm]
theorem AppS.len {H : List AObj} {lo : Nat} {e sz : Nat} {rows : List (List D)} {S : St} {x : D} (h : AppS H lo e sz rows S x) : lenD false x = some (.int .i64 rows.length) := by
  rcases h with ⟨rfl, rfl, rfl⟩ | ⟨v, rfl, rfl⟩ <;> rfl
/-- as an immutable slice -/
theorem AppS.snap {H : List AObj} {lo : Nat} {e sz : Nat} {rows : List (List D)} {S : St} {x : D} (h : AppS H lo e sz rows S x) (m : Nat) : ∃ y, SlD sz rows y ∧ snapV m S.heap x = some y := by
  rcases h with ⟨rfl, rfl, rfl⟩ | ⟨v, rfl, rfl⟩
  · exact ⟨.nils, .nil sz, rfl⟩
  · exact ⟨.sl sz rows none, .of _ _ _, by simp [snapV_msl, snap_msl]⟩
/-- a call may be looked at with its arguments as plain data -/
theorem run_snap {L : Prg} {N d : Nat} {f : FuncId} {args args' : List D} {S : St} (hraw : L.raw f = false) (h : snapVs S.heap.length S.heap args = some args') (h' : snapVs S.heap.length S.heap args' = some args') : runF L N d f args S = runF L N d f args' S := by
  cases d with
  | zero => rfl
  | succ d => simp only [runF, hraw, h, h', Bool.false_eq_true, if_false]
theorem St.eta (S : St) : (⟨S.heap, S.low⟩ : St) = S := rfl
/-- a search that goes down: what is found in the places from k on, or else what was there before -/
def selW {α : Type} (p : α → Bool) (l : List α) (w : Int) (t : Bool) (k : Nat) : Int × Bool := if (l.drop k).any p then (k + idxI p (l.drop k), true) else (w, t)
theorem idxI_cons {α : Type} (p : α → Bool) (a : α) (l : List α) : idxI p (a :: l) = if p a then 0 else if l.any p then idxI p l + 1 else -1 := by
  unfold idxI
  rw [List.findIdx?_cons]
  by_cases h : p a = true
  · simp [h]
  · simp only [h, Bool.false_eq_true, if_false]
    cases hf : l.findIdx? p with
    | none =>
      have : l.any p = false := by
        rw [List.any_eq_false]
        intro x hx
        rw [List.findIdx?_eq_none_iff] at hf
        simp [hf x hx]
      simp [this]
    | some i =>
      have : l.any p = true := by
        rw [List.findIdx?_eq_some_iff_getElem] at hf
        obtain ⟨hi, hp, _⟩ := hf
        exact List.any_eq_true.2 ⟨_, List.getElem_mem hi, hp⟩
      simp [this]
theorem selW_len {α : Type} (p : α → Bool) (l : List α) (w : Int) (t : Bool) : selW p l w t l.length = (w, t) := by simp [selW]
theorem selW_hit {α : Type} {p : α → Bool} {l : List α} {w : Int} {t : Bool} {k : Nat} (hk : k < l.length) (h : p l[k] = true) : selW p l w t k = ((k : Int), true) := by
  rw [selW, List.drop_eq_getElem_cons hk]
  simp only [List.any_cons, h, Bool.true_or, if_true, idxI_cons, Int.add_zero]
theorem selW_miss {α : Type} {p : α → Bool} {l : List α} {w : Int} {t : Bool} {k : Nat} (hk : k < l.length) (h : p l[k] = false) : selW p l w t k = selW p l w t (k + 1) := by
  rw [selW, selW, List.drop_eq_getElem_cons hk]
  simp only [List.any_cons, h, Bool.false_or, idxI_cons, Bool.false_eq_true, if_false]
  split
  · simp; omega
  · rfl
theorem selW_zero {α : Type} (p : α → Bool) (l : List α) (w : Int) (t : Bool) : selW p l w t 0 = if l.any p then (idxI p l, true) else (w, t) := by simp [selW]
theorem idxI_map {α β : Type} (p : β → Bool) (f : α → β) (l : List α) : idxI p (l.map f) = idxI (fun x => p (f x)) l := by
  induction l with
  | nil => rfl
  | cons a l ih => rw [List.map_cons, idxI_cons, idxI_cons, ih, List.any_map]; rfl
theorem wrap_sub (k : Int) (h1 : -1000000000 < k) (h2 : k < 1000000000) : IntKind.i64.wrap (k - 1) = k - 1 := by rw [IntKind.wrap_i64]; omega
theorem tmod_nat (a b : Nat) : (a : Int).tmod (b : Int) = ((a % b : Nat) : Int) := by
  rw [Int.tmod_eq_emod_of_nonneg (by omega)]; omega
theorem wrap_u8 (a : Nat) (h : a < 256) : IntKind.u8.wrap (a : Int) = a := by
  simp only [IntKind.wrap, IntKind.signed, IntKind.bits, Bool.false_and, Bool.false_eq_true, if_false]
  omega
/-- a slice without its first rows -/
def dropD (n : Nat) : D → D
  | .sl s rows cap => .sl s (rows.drop n) (cap.map (· - n))
  | d => d
theorem SlD.drop {sz : Nat} {rows : List (List D)} {x : D} (h : SlD sz rows x) (n : Nat) : SlD sz (rows.drop n) (dropD n x) := by
  rcases h with ⟨rfl, rfl⟩ | ⟨c, rfl⟩
  · exact .inl ⟨rfl, by simp⟩
  · exact .inr ⟨_, rfl⟩
theorem SlD.slice_lo {sz : Nat} {rows : List (List D)} {x : D} (h : SlD sz rows x) (S : St) (k : IntKind) {n : Nat} (hn : n ≤ rows.length) : sliceD S sz x (some (.int k n)) none none = some (dropD n x) := by
  rcases h with ⟨rfl, rfl⟩ | ⟨c, rfl⟩
  · simp at hn; subst hn; simp [sliceD, boundsD, natOr, natOf, dropD]
  · simp only [sliceD, ne_eq, not_true_eq_false, if_false, boundsD, natOr, natOf_nat]
    simp only [hn, Nat.le_refl, and_self, if_true, dropD]
    rw [List.take_of_length_le (by simp)]
theorem SlD.slice_1 {sz : Nat} {rows : List (List D)} {x : D} (h : SlD sz rows x) (S : St) (hn : 1 ≤ rows.length) : sliceD S sz x (some (.int .i64 1)) none none = some (dropD 1 x) := h.slice_lo S .i64 hn
/-- a slice with its length for its capacity -/
def clipD : D → D
  | .sl s rows _ => .sl s rows (some rows.length)
  | d => d
theorem SlD.clip {sz : Nat} {rows : List (List D)} {x : D} (h : SlD sz rows x) : SlD sz rows (clipD x) := by
  rcases h with ⟨rfl, rfl⟩ | ⟨c, rfl⟩
  · exact .nil _
  · exact .of _ _ _
theorem SlD.slice_clip {sz : Nat} {rows : List (List D)} {x : D} (h : SlD sz rows x) (S : St) : sliceD S sz x none (some (.int .i64 rows.length)) (some (.int .i64 rows.length)) = some (clipD x) := by
  rcases h with ⟨rfl, rfl⟩ | ⟨c, rfl⟩
  · simp [sliceD, boundsD, natOr, natOf, clipD]
  · simp [sliceD, boundsD, natOr, natOf_nat, clipD]
theorem SlD.cap_clip {sz : Nat} {rows : List (List D)} {x : D} (h : SlD sz rows x) : capD (clipD x) = some (.int .i64 rows.length) := by
  rcases h with ⟨rfl, rfl⟩ | ⟨c, rfl⟩ <;> rfl
theorem SlD.fps {sz : Nat} {rows : List (List D)} {x : D} (h : SlD sz rows x) (n : Nat) (a b c : Bool) (ds : List D) (r : D) (wr : Bool) : fpOf (.slice false n a b c) (x :: ds) r wr = fpRead [] := by
  rcases h with ⟨rfl, rfl⟩ | ⟨c, rfl⟩ <;> rfl
/-! operations in a short form -/
abbrev qo (l : LOp) (a : List LOpd) : LOper := ⟨l, a, none, [], none⟩
abbrev qg (l : LOp) (a : List LOpd) (d : Nat) (b : Bool) : LOper := ⟨l, a, some (d, b), [], none⟩
abbrev qw (l : LOp) (a : List LOpd) (n k : Nat) : LOper := ⟨l, a, none, ob n k, none⟩
abbrev qh (l : LOp) (a : List LOpd) (d : Nat) (b : Bool) (n k : Nat) : LOper := ⟨l, a, some (d, b), ob n k, none⟩
end Go.Proofs.YtabgobmeibjeeaaGreatDoor

namespace Go.Proofs.YtabgobmeibjeeaaGreatDoor
set_option linter.unusedVariables false
theorem zv : (type_of% @List.map_cons.{0, 0}) ∧ (type_of% @List.map_nil.{0, 0}) ∧ (type_of% @List.getD_cons_zero.{0}) ∧ (type_of% @List.getD_cons_succ.{0}) ∧ (type_of% @List.getD_nil.{0}) :=
  ⟨@List.map_cons.{0, 0}, @List.map_nil.{0, 0}, @List.getD_cons_zero.{0}, @List.getD_cons_succ.{0}, @List.getD_nil.{0}⟩
theorem zm : (type_of% @if_true.{1}) ∧ (type_of% @if_false.{1}) ∧ (type_of% @ite_true.{1}) ∧ (type_of% @ite_false.{1}) ∧ (type_of% @true_and) ∧ (type_of% @and_true) ∧ (type_of% @and_self) ∧ (type_of% @ne_eq.{1}) ∧ (type_of% @not_true_eq_false) ∧ (type_of% @not_false_eq_true) ∧ (type_of% @Bool.false_eq_true) ∧ (type_of% @Option.map_some.{0, 0}) ∧ (type_of% @Option.map_none.{0, 0}) ∧ (type_of% @List.length_cons.{0}) ∧ (type_of% @List.length_nil.{0}) ∧ (type_of% @List.drop_zero.{0}) ∧ (type_of% @List.drop_succ_cons.{0}) ∧ (type_of% @List.take_succ_cons.{0}) ∧ (type_of% @List.take_zero.{0}) ∧ (type_of% @List.cons_append.{0}) ∧ (type_of% @List.nil_append.{0}) ∧ (type_of% @List.all_cons.{0}) ∧ (type_of% @List.all_nil.{0}) ∧ (type_of% @Bool.and_true) ∧ (type_of% @Bool.true_and) ∧ (type_of% @List.getElem?_cons_zero.{0}) ∧ (type_of% @List.getElem?_cons_succ.{0}) ∧ (type_of% @beq_self_eq_true.{0}) ∧ (type_of% @decide_true) ∧ (type_of% @Nat.zero_add) ∧ (type_of% @Nat.add_zero) :=
  ⟨@if_true.{1}, @if_false.{1}, @ite_true.{1}, @ite_false.{1}, @true_and, @and_true, @and_self, @ne_eq.{1}, @not_true_eq_false, @not_false_eq_true, @Bool.false_eq_true, @Option.map_some.{0, 0}, @Option.map_none.{0, 0}, @List.length_cons.{0}, @List.length_nil.{0}, @List.drop_zero.{0}, @List.drop_succ_cons.{0}, @List.take_succ_cons.{0}, @List.take_zero.{0}, @List.cons_append.{0}, @List.nil_append.{0}, @List.all_cons.{0}, @List.all_nil.{0}, @Bool.and_true, @Bool.true_and, @List.getElem?_cons_zero.{0}, @List.getElem?_cons_succ.{0}, @beq_self_eq_true.{0}, @decide_true, @Nat.zero_add, @Nat.add_zero⟩
theorem zs : (type_of% @snap_int) ∧ (type_of% @snapV_int) ∧ (type_of% @snap_bool) ∧ (type_of% @snapV_bool) ∧ (type_of% @snap_str) ∧ (type_of% @snapV_str) ∧ (type_of% @snap_nilp) ∧ (type_of% @snapV_nilp) ∧ (type_of% @snap_nils) ∧ (type_of% @snapV_nils) ∧ (type_of% @snap_nilfn) ∧ (type_of% @snapV_nilfn) ∧ (type_of% @snap_nilm) ∧ (type_of% @snapV_nilm) ∧ (type_of% @snap_sl) ∧ (type_of% @snapV_sl) ∧ (type_of% @snap_cptr) ∧ (type_of% @snapV_cptr) ∧ (type_of% @snap_mp) ∧ (type_of% @snapV_mp) ∧ (type_of% @snap_ptr) ∧ (type_of% @snapV_ptr) ∧ (type_of% @snap_fn) ∧ (type_of% @snapV_fn) ∧ (type_of% @snapV_msl) ∧ (type_of% @snapV_mref) ∧ (type_of% @snap_msl) ∧ (type_of% @snap_mref) ∧ (type_of% @snapV_agg) ∧ (type_of% @snapR_tup) ∧ (type_of% @snapR_int) ∧ (type_of% @snapR_bool) ∧ (type_of% @snapR_str) ∧ (type_of% @snapR_nilp) ∧ (type_of% @snapR_nils) ∧ (type_of% @snapR_nilfn) ∧ (type_of% @snapR_nilm) ∧ (type_of% @snapR_sl) ∧ (type_of% @snapR_cptr) ∧ (type_of% @snapR_mp) ∧ (type_of% @snapR_ptr) ∧ (type_of% @snapR_fn) ∧ (type_of% @snapR_msl) ∧ (type_of% @snapR_mref) ∧ (type_of% @snapR_agg) ∧ (type_of% @snap_nili) ∧ (type_of% @snap_ifc) ∧ (type_of% @snap_ifr) ∧ (type_of% @snap_iter) ∧ (type_of% @snapV_nili) ∧ (type_of% @snapV_ifc) ∧ (type_of% @snapV_ifr) ∧ (type_of% @snapV_iter) ∧ (type_of% @snapR_nili) ∧ (type_of% @snapR_ifc) ∧ (type_of% @snapR_ifr) ∧ (type_of% @snapR_iter) :=
  ⟨@snap_int, @snapV_int, @snap_bool, @snapV_bool, @snap_str, @snapV_str, @snap_nilp, @snapV_nilp, @snap_nils, @snapV_nils, @snap_nilfn, @snapV_nilfn, @snap_nilm, @snapV_nilm, @snap_sl, @snapV_sl, @snap_cptr, @snapV_cptr, @snap_mp, @snapV_mp, @snap_ptr, @snapV_ptr, @snap_fn, @snapV_fn, @snapV_msl, @snapV_mref, @snap_msl, @snap_mref, @snapV_agg, @snapR_tup, @snapR_int, @snapR_bool, @snapR_str, @snapR_nilp, @snapR_nils, @snapR_nilfn, @snapR_nilm, @snapR_sl, @snapR_cptr, @snapR_mp, @snapR_ptr, @snapR_fn, @snapR_msl, @snapR_mref, @snapR_agg, @snap_nili, @snap_ifc, @snap_ifr, @snap_iter, @snapV_nili, @snapV_ifc, @snapV_ifr, @snapV_iter, @snapR_nili, @snapR_ifc, @snapR_ifr, @snapR_iter⟩
theorem zf : (type_of% @free_int) ∧ (type_of% @freeV_int) ∧ (type_of% @freeR_int) ∧ (type_of% @free_bool) ∧ (type_of% @freeV_bool) ∧ (type_of% @freeR_bool) ∧ (type_of% @free_str) ∧ (type_of% @freeV_str) ∧ (type_of% @freeR_str) ∧ (type_of% @free_nilp) ∧ (type_of% @freeV_nilp) ∧ (type_of% @freeR_nilp) ∧ (type_of% @free_nils) ∧ (type_of% @freeV_nils) ∧ (type_of% @freeR_nils) ∧ (type_of% @free_nilfn) ∧ (type_of% @freeV_nilfn) ∧ (type_of% @freeR_nilfn) ∧ (type_of% @free_nilm) ∧ (type_of% @freeV_nilm) ∧ (type_of% @freeR_nilm) ∧ (type_of% @free_sl) ∧ (type_of% @freeV_sl) ∧ (type_of% @freeR_sl) ∧ (type_of% @free_cptr) ∧ (type_of% @freeV_cptr) ∧ (type_of% @freeR_cptr) ∧ (type_of% @free_mp) ∧ (type_of% @freeV_mp) ∧ (type_of% @freeR_mp) ∧ (type_of% @free_ptr) ∧ (type_of% @freeV_ptr) ∧ (type_of% @freeR_ptr) ∧ (type_of% @free_fn) ∧ (type_of% @freeV_fn) ∧ (type_of% @freeR_fn) ∧ (type_of% @free_msl) ∧ (type_of% @freeV_msl) ∧ (type_of% @freeR_msl) ∧ (type_of% @free_mref) ∧ (type_of% @freeV_mref) ∧ (type_of% @freeR_mref) ∧ (type_of% @freeV_agg) ∧ (type_of% @freeR_agg) ∧ (type_of% @freeR_tup) ∧ (type_of% @free_nili) ∧ (type_of% @free_ifc) ∧ (type_of% @free_ifr) ∧ (type_of% @free_iter) ∧ (type_of% @freeV_nili) ∧ (type_of% @freeV_ifc) ∧ (type_of% @freeV_ifr) ∧ (type_of% @freeV_iter) ∧ (type_of% @freeR_nili) ∧ (type_of% @freeR_ifc) ∧ (type_of% @freeR_ifr) ∧ (type_of% @freeR_iter) :=
  ⟨@free_int, @freeV_int, @freeR_int, @free_bool, @freeV_bool, @freeR_bool, @free_str, @freeV_str, @freeR_str, @free_nilp, @freeV_nilp, @freeR_nilp, @free_nils, @freeV_nils, @freeR_nils, @free_nilfn, @freeV_nilfn, @freeR_nilfn, @free_nilm, @freeV_nilm, @freeR_nilm, @free_sl, @freeV_sl, @freeR_sl, @free_cptr, @freeV_cptr, @freeR_cptr, @free_mp, @freeV_mp, @freeR_mp, @free_ptr, @freeV_ptr, @freeR_ptr, @free_fn, @freeV_fn, @freeR_fn, @free_msl, @freeV_msl, @freeR_msl, @free_mref, @freeV_mref, @freeR_mref, @freeV_agg, @freeR_agg, @freeR_tup, @free_nili, @free_ifc, @free_ifr, @free_iter, @freeV_nili, @freeV_ifc, @freeV_ifr, @freeV_iter, @freeR_nili, @freeR_ifc, @freeR_ifr, @freeR_iter⟩
theorem zc : (type_of% @isCell_int) ∧ (type_of% @val_int) ∧ (type_of% @cells_int) ∧ (type_of% @isCell_bool) ∧ (type_of% @val_bool) ∧ (type_of% @cells_bool) ∧ (type_of% @isCell_str) ∧ (type_of% @val_str) ∧ (type_of% @cells_str) ∧ (type_of% @isCell_nilp) ∧ (type_of% @val_nilp) ∧ (type_of% @cells_nilp) ∧ (type_of% @isCell_nils) ∧ (type_of% @val_nils) ∧ (type_of% @cells_nils) ∧ (type_of% @isCell_nilfn) ∧ (type_of% @val_nilfn) ∧ (type_of% @cells_nilfn) ∧ (type_of% @isCell_nilm) ∧ (type_of% @val_nilm) ∧ (type_of% @cells_nilm) ∧ (type_of% @isCell_sl) ∧ (type_of% @val_sl) ∧ (type_of% @cells_sl) ∧ (type_of% @isCell_cptr) ∧ (type_of% @val_cptr) ∧ (type_of% @cells_cptr) ∧ (type_of% @isCell_mp) ∧ (type_of% @val_mp) ∧ (type_of% @cells_mp) ∧ (type_of% @isCell_ptr) ∧ (type_of% @val_ptr) ∧ (type_of% @cells_ptr) ∧ (type_of% @isCell_fn) ∧ (type_of% @val_fn) ∧ (type_of% @cells_fn) ∧ (type_of% @isCell_msl) ∧ (type_of% @val_msl) ∧ (type_of% @cells_msl) ∧ (type_of% @isCell_mref) ∧ (type_of% @val_mref) ∧ (type_of% @cells_mref) ∧ (type_of% @val_agg) ∧ (type_of% @cells_agg) ∧ (type_of% @isCell_nili) ∧ (type_of% @isCell_ifc) ∧ (type_of% @isCell_ifr) ∧ (type_of% @isCell_iter) ∧ (type_of% @val_nili) ∧ (type_of% @val_ifc) ∧ (type_of% @val_ifr) ∧ (type_of% @val_iter) ∧ (type_of% @cells_nili) ∧ (type_of% @cells_ifc) ∧ (type_of% @cells_ifr) ∧ (type_of% @cells_iter) :=
  ⟨@isCell_int, @val_int, @cells_int, @isCell_bool, @val_bool, @cells_bool, @isCell_str, @val_str, @cells_str, @isCell_nilp, @val_nilp, @cells_nilp, @isCell_nils, @val_nils, @cells_nils, @isCell_nilfn, @val_nilfn, @cells_nilfn, @isCell_nilm, @val_nilm, @cells_nilm, @isCell_sl, @val_sl, @cells_sl, @isCell_cptr, @val_cptr, @cells_cptr, @isCell_mp, @val_mp, @cells_mp, @isCell_ptr, @val_ptr, @cells_ptr, @isCell_fn, @val_fn, @cells_fn, @isCell_msl, @val_msl, @cells_msl, @isCell_mref, @val_mref, @cells_mref, @val_agg, @cells_agg, @isCell_nili, @isCell_ifc, @isCell_ifr, @isCell_iter, @val_nili, @val_ifc, @val_ifr, @val_iter, @cells_nili, @cells_ifc, @cells_ifr, @cells_iter⟩
theorem zp : (type_of% @if_false.{1}) ∧ (type_of% @if_true.{1}) ∧ (type_of% @Bool.false_eq_true) ∧ (type_of% @Option.map_some.{0, 0}) :=
  ⟨@if_false.{1}, @if_true.{1}, @Bool.false_eq_true, @Option.map_some.{0, 0}⟩
theorem zh : (type_of% @at_app) ∧ (type_of% @at_app0) ∧ (type_of% @set_app) ∧ (type_of% @set_app0) ∧ (type_of% @min_low) ∧ (type_of% @List.append_assoc.{0}) ∧ (type_of% @List.length_append.{0}) ∧ (type_of% @List.length_set.{0}) ∧ (type_of% @List.set_cons_zero.{0}) ∧ (type_of% @List.set_cons_succ.{0}) ∧ (type_of% @Nat.min_self) ∧ (type_of% @Nat.zero_min) ∧ (type_of% @Nat.min_zero) :=
  ⟨@at_app, @at_app0, @set_app, @set_app0, @min_low, @List.append_assoc.{0}, @List.length_append.{0}, @List.length_set.{0}, @List.set_cons_zero.{0}, @List.set_cons_succ.{0}, @Nat.min_self, @Nat.zero_min, @Nat.min_zero⟩
theorem zn : (type_of% @List.set_cons_zero.{0}) ∧ (type_of% @List.set_cons_succ.{0}) :=
  ⟨@List.set_cons_zero.{0}, @List.set_cons_succ.{0}⟩
theorem zq : (type_of% @fp_load_cptr) ∧ (type_of% @fp_load_ptr) ∧ (type_of% @fp_iaddr_sl) ∧ (type_of% @fp_iaddr_msl) ∧ (type_of% @fp_call) ∧ (type_of% @fp_callv) ∧ (type_of% @fp_append) ∧ (type_of% @fp_bslice) ∧ (type_of% @fp_store) ∧ (type_of% @fp_box) ∧ (type_of% @fp_alloc) ∧ (type_of% @fp_bstr) ∧ (type_of% @fp_strb) ∧ (type_of% @fp_slice_sl) ∧ (type_of% @fp_slice_msl) ∧ (type_of% @fp_mapget) ∧ (type_of% @fp_mkslice) ∧ (type_of% @fpAll_f) ∧ (type_of% @fpAll_t) :=
  ⟨@fp_load_cptr, @fp_load_ptr, @fp_iaddr_sl, @fp_iaddr_msl, @fp_call, @fp_callv, @fp_append, @fp_bslice, @fp_store, @fp_box, @fp_alloc, @fp_bstr, @fp_strb, @fp_slice_sl, @fp_slice_msl, @fp_mapget, @fp_mkslice, @fpAll_f, @fpAll_t⟩
theorem zg : (type_of% @List.getD_cons_zero.{0}) ∧ (type_of% @List.getD_cons_succ.{0}) ∧ (type_of% @List.getD_nil.{0}) :=
  ⟨@List.getD_cons_zero.{0}, @List.getD_cons_succ.{0}, @List.getD_nil.{0}⟩
theorem ze : (∀ (v e : List D), exports [] v e = e) ∧ (∀ (i d : Nat) (l : List (Nat × Nat)) (v e : List D), exports ((i, d) :: l) v e = exports l v (e.set i (v.getD d .undef))) ∧ (type_of% @List.set_cons_zero.{0}) ∧ (type_of% @List.set_cons_succ.{0}) ∧ (type_of% @List.getD_cons_zero.{0}) ∧ (type_of% @List.getD_cons_succ.{0}) ∧ (type_of% @List.getD_nil.{0}) :=
  ⟨by intros; rfl, by intros; rfl, @List.set_cons_zero.{0}, @List.set_cons_succ.{0}, @List.getD_cons_zero.{0}, @List.getD_cons_succ.{0}, @List.getD_nil.{0}⟩
theorem zb : (type_of% @eq_self.{1}) ∧ (type_of% @ne_eq.{1}) ∧ (type_of% @not_false_eq_true) ∧ (type_of% @true_and) ∧ (type_of% @ite_true.{1}) ∧ (type_of% @ite_false.{1}) ∧ (type_of% @not_true_eq_false) :=
  ⟨@eq_self.{1}, @ne_eq.{1}, @not_false_eq_true, @true_and, @ite_true.{1}, @ite_false.{1}, @not_true_eq_false⟩
theorem zw : (type_of% @List.length_nil.{0}) ∧ (type_of% @List.length_cons.{0}) ∧ (type_of% @List.range_succ) ∧ (type_of% @List.range_zero) ∧ (type_of% @List.nil_append.{0}) ∧ (type_of% @List.map_nil.{0, 0}) ∧ (type_of% @List.reverse_nil.{0}) ∧ (type_of% @List.cons_append.{0}) ∧ (type_of% @List.map_cons.{0, 0}) ∧ (type_of% @List.reverse_cons.{0}) ∧ (type_of% @Nat.zero_add) ∧ (type_of% @Nat.add_zero) ∧ (type_of% @List.append_nil.{0}) :=
  ⟨@List.length_nil.{0}, @List.length_cons.{0}, @List.range_succ, @List.range_zero, @List.nil_append.{0}, @List.map_nil.{0, 0}, @List.reverse_nil.{0}, @List.cons_append.{0}, @List.map_cons.{0, 0}, @List.reverse_cons.{0}, @Nat.zero_add, @Nat.add_zero, @List.append_nil.{0}⟩
theorem zk : (type_of% @Option.map_some.{0, 0}) ∧ (type_of% @List.all_cons.{0}) ∧ (type_of% @List.all_nil.{0}) ∧ (type_of% @Bool.and_self) ∧ (type_of% @Bool.and_true) ∧ (type_of% @if_true.{1}) ∧ (type_of% @if_false.{1}) ∧ (type_of% @Bool.false_eq_true) ∧ (type_of% @List.length_nil.{0}) ∧ (type_of% @Nat.le_refl) ∧ (type_of% @Nat.zero_le) :=
  ⟨@Option.map_some.{0, 0}, @List.all_cons.{0}, @List.all_nil.{0}, @Bool.and_self, @Bool.and_true, @if_true.{1}, @if_false.{1}, @Bool.false_eq_true, @List.length_nil.{0}, @Nat.le_refl, @Nat.zero_le⟩
theorem zd : (type_of% @loadD_cptr) ∧ (type_of% @loadD_ptr) :=
  ⟨@loadD_cptr, @loadD_ptr⟩
section
variable {call : CallF} {vals env : List D} {S : St} {K : List D → St → Prop} {os : List LOper} {od : List Bool} {ho : Option Nat} {n : Nat} {news : List (TypeId × List D)} {fps : List FP} {r : D} {j : Nat}
theorem getD_of {l : List D} (h : l[j]? = some r) : l.getD j .undef = r := by rw [List.getD_eq_getElem?_getD, h]; rfl
theorem ow_me (h : env[j]? = some r) (k : OW call os (r :: vals) env S K) : OW call (⟨.mv, [.env j], none, od, ho⟩ :: os) vals env S K := ow_pop rfl (by simp only [pop, List.map_cons, List.map_nil, opd, getD_of h]) k
theorem ow_ml (h : vals[j]? = some r) (k : OW call os (r :: vals) env S K) : OW call (⟨.mv, [.loc j], none, od, ho⟩ :: os) vals env S K := ow_pop rfl (by simp only [pop, List.map_cons, List.map_nil, opd, getD_of h]) k
theorem ow_mc (k : OW call os (r :: vals) env S K) : OW call (⟨.mv, [.const r], none, od, ho⟩ :: os) vals env S K := ow_pop rfl rfl k
theorem dw_me (h : env[j]? = some r) (hn : od.length = fps.length) (k : DW call n news os (fpQuiet :: fps) (r :: vals) env S K) : DW call n news (⟨.mv, [.env j], none, od, none⟩ :: os) fps vals env S K := dw_pop rfl (by simp only [pop, List.map_cons, List.map_nil, opd, getD_of h]) hn k
theorem dw_ml (h : vals[j]? = some r) (hn : od.length = fps.length) (k : DW call n news os (fpQuiet :: fps) (r :: vals) env S K) : DW call n news (⟨.mv, [.loc j], none, od, none⟩ :: os) fps vals env S K := dw_pop rfl (by simp only [pop, List.map_cons, List.map_nil, opd, getD_of h]) hn k
theorem dw_mc (hn : od.length = fps.length) (k : DW call n news os (fpQuiet :: fps) (r :: vals) env S K) : DW call n news (⟨.mv, [.const r], none, od, none⟩ :: os) fps vals env S K := dw_pop rfl rfl hn k
end
theorem zo : (∀ (v e : List D) (j : Nat), opd v e (.env j) = e.getD j .undef) ∧ (∀ (v e : List D) (j : Nat), opd v e (.loc j) = v.getD j .undef) ∧ (∀ (v e : List D) (d : D), opd v e (.const d) = d) ∧ (∀ (c : CallF) (S : St) (f : FuncId) (xs : List D), exOp c (.call f) xs S = c f xs S) ∧ (∀ (c : CallF) (S : St) (f : FuncId) (k ys : List D), exOp c .callv (.fn f k :: ys) S = c f (ys ++ k) S) ∧ (∀ (c : CallF) (S : St) (x : D), exOp c .mv [x] S = some (x, S, false)) ∧ (∀ (c : CallF) (S : St) (b : Bool) (x y : D), exOp c .pick [.bool b, x, y] S = some (if b then x else y, S, false)) ∧ (∀ (c : CallF) (S : St) (o : BinOp) (x y : D), exOp c (.bin o) [x, y] S = (binD o x y).map fun r => (r, S, false)) ∧ (∀ (c : CallF) (S : St) (g a b : Bool), exOp c (.eqb g) [.bool a, .bool b] S = some (.bool ((a == b) != g), S, false)) ∧ (∀ (c : CallF) (S : St) (g : Bool) (fs : List Nat) (a b : List D), exOp c (.eqs g fs) [.agg a, .agg b] S = ((eqCells fs a b).map fun r => D.bool (r != g)).map fun r => (r, S, false)) ∧ (∀ (c : CallF) (S : St) (o : UnOp) (x : D), exOp c (.un o) [x] S = (unD o x).map fun r => (r, S, false)) ∧ (∀ (c : CallF) (S : St) (o z : Nat) (g : Bool) (a : List D), exOp c (.field o z g) [.agg a] S = (partD a o z g).map fun r => (r, S, false)) ∧ (∀ (c : CallF) (S : St) (z : List D) (ps : List (Nat × Nat)) (xs : List D), exOp c (.build z ps) xs S = ((fillD z ps xs).map .agg).map fun r => (r, S, false)) ∧ (∀ (c : CallF) (S : St) (g v i o : Nat), exOp c .nilck [.ptr g v i o] S = some (.ptr g v i o, S, false)) ∧ (∀ (c : CallF) (S : St) (r : List D) (o : Nat), exOp c .nilck [.cptr r o] S = some (.cptr r o, S, false)) ∧ (∀ (c : CallF) (S : St) (f : FuncId) (k : List D), exOp c .nilck [.fn f k] S = some (.fn f k, S, false)) ∧ (∀ (c : CallF) (S : St) (o : Nat) (a : D), exOp c (.faddr o) [a] S = (faddrD o a).map fun r => (r, S, false)) ∧ (∀ (c : CallF) (S : St) (z n : Nat) (x i : D), exOp c (.aaddr z n) [x, i] S = (aaddrD z n x i).map fun r => (r, S, false)) ∧ (∀ (c : CallF) (S : St) (x i : D), exOp c .index [x, i] S = (indexD x i).map fun r => (r, S, false)) ∧ (∀ (c : CallF) (S : St) (z n : Nat) (g : Bool) (a : List D) (k : IntKind) (i : Int), exOp c (.aindex z n g) [.agg a, .int k i] S = (if 0 ≤ i ∧ i < n then partD a (i.toNat * z) z g else none).map fun r => (r, S, false)) ∧ (∀ (c : CallF) (S : St) (z : Nat) (a b d : Bool) (s : ByteArray) (xs : List D), exOp c (.slice true z a b d) (.str s :: xs) S = (match sliceArgs a b d xs with | some (a, b, none) => (boundsD s.size a b).map fun (l, h) => D.str (s.extract l h) | _ => none).map fun r => (r, S, false)) ∧ (∀ (c : CallF) (S : St) (g : Bool) (x : D), exOp c (.len g) [x] S = (lenD g x).map fun r => (r, S, false)) ∧ (∀ (c : CallF) (S : St) (n : Nat) (x : D), exOp c (.lenc n) [x] S = some (.int .i64 n, S, false)) ∧ (∀ (c : CallF) (S : St) (x : D), exOp c .cap [x] S = (capD x).map fun r => (r, S, false)) ∧ (∀ (c : CallF) (S : St) (x : D) (l : List D), exOp c .max (x :: l) S = (foldD maxD x l).map fun r => (r, S, false)) ∧ (∀ (c : CallF) (S : St) (x : D) (l : List D), exOp c .min (x :: l) S = (foldD minD x l).map fun r => (r, S, false)) ∧ (∀ (c : CallF) (S : St) (f : FuncId) (xs : List D), exOp c (.mkfn f) xs S = some (.fn f xs, S, false)) ∧ (∀ (c : CallF) (S : St) (i : Nat) (a : List D), exOp c (.extract i) [.tup a] S = (a[i]?).map fun r => (r, S, false)) ∧ (∀ (c : CallF) (S : St) (k k' : IntKind) (n : Int), exOp c (.conv k) [.int k' n] S = some (.int k (k.wrap n), S, false)) ∧ (∀ (c : CallF) (S : St) (s : ByteArray), exOp c .sconv [.str s] S = some (.str s, S, false)) ∧ (∀ (c : CallF) (S : St) (s : ByteArray) (n : Int), exOp c .idxb [.str s, .int .u8 n] S = some (.int .i64 (match (List.range s.size).find? (fun i => s[i]! == UInt8.ofNat n.toNat) with | some i => (i : Int) | none => -1), S, false)) ∧ (∀ (c : CallF) (S : St) (s : ByteArray) (n : Int), exOp c .cntb [.str s, .int .u8 n] S = some (.int .i64 (s.foldl (fun k x => if x == UInt8.ofNat n.toNat then k + 1 else k) (0 : Nat)), S, false)) ∧ (∀ (c : CallF) (S : St) (g : Bool) (n : Nat) (x y : D), exOp c (.eqnil g n) [x, y] S = ((eqnilD n x y).map fun b => D.bool (b != g)).map fun r => (r, S, false)) ∧ (type_of% @List.map_cons.{0, 0}) ∧ (type_of% @List.map_nil.{0, 0}) ∧ (type_of% @List.getD_cons_zero.{0}) ∧ (type_of% @List.getD_cons_succ.{0}) ∧ (type_of% @List.getD_nil.{0}) ∧ (type_of% @if_false.{1}) ∧ (type_of% @if_true.{1}) ∧ (type_of% @Bool.false_eq_true) ∧ (type_of% @Option.map_some.{0, 0}) :=
  ⟨by intros; rfl, by intros; rfl, by intros; rfl, by intros; rfl, by intros; rfl, by intros; rfl, by intros; rfl, by intros; rfl, by intros; rfl, by intros; rfl, by intros; rfl, by intros; rfl, by intros; rfl, by intros; rfl, by intros; rfl, by intros; rfl, by intros; rfl, by intros; rfl, by intros; rfl, by intros; rfl, by intros; rfl, by intros; rfl, by intros; rfl, by intros; rfl, by intros; rfl, by intros; rfl, by intros; rfl, by intros; rfl, by intros; rfl, by intros; rfl, by intros; rfl, by intros; rfl, by intros; rfl, @List.map_cons.{0, 0}, @List.map_nil.{0, 0}, @List.getD_cons_zero.{0}, @List.getD_cons_succ.{0}, @List.getD_nil.{0}, @if_false.{1}, @if_true.{1}, @Bool.false_eq_true, @Option.map_some.{0, 0}⟩
theorem zl : (∀ (v e : List D) (j : Nat), opd v e (.env j) = e.getD j .undef) ∧ (∀ (v e : List D) (j : Nat), opd v e (.loc j) = v.getD j .undef) ∧ (∀ (v e : List D) (d : D), opd v e (.const d) = d) ∧ (∀ (c : CallF) (S : St) (e : TypeId) (z : List D), exOp c (.alloc e z) [] S = some (.ptr S.heap.length 0 0 0, newAt S ⟨e, z.length, [z], 0, 0, false⟩, true)) ∧ (∀ (c : CallF) (S : St) (e : TypeId) (z : Nat) (x : D), exOp c (.box e z) [x] S = if x.val && x.cells.length == z then some (.ptr S.heap.length 0 0 0, newAt S ⟨e, z, [x.cells], 0, 0, false⟩, true) else none) ∧ (∀ (c : CallF) (S : St) (e z n : Nat) (d : List D) (ps : List Nat) (k : Nat) (xs : List D), exOp c (.bslice e z n d ps k) xs S = match snapVs S.heap.length S.heap xs with | some ys => (match fillRows (List.replicate n d) z ps ys with | some rs => if k = 2 then some (.msl S.heap.length 0 0 n none, newAt S ⟨e, z, rs, 0, 2, false⟩, true) else some (.sl z rs (some n), S, false) | none => none) | none => none) ∧ (∀ (c : CallF) (S : St) (z : Nat) (g : Bool) (a : D), exOp c (.load z g) [a] S = (loadD z g S a).map fun r => (r, S, false)) ∧ (∀ (c : CallF) (S : St) (z : Nat) (a x : D), exOp c (.store z) [a, x] S = (storeD z S a x).map fun S' => (.undef, S', true)) ∧ (∀ (c : CallF) (S : St) (z : Nat) (x i : D), exOp c (.iaddr z) [x, i] S = (iaddrD S z x i).map fun r => (r, S, false)) ∧ (∀ (c : CallF) (S : St) (z : Nat) (a b d : Bool) (x : D) (xs : List D), exOp c (.slice false z a b d) (x :: xs) S = match sliceArgs a b d xs with | some (a, b, m) => (sliceD S z x a b m).map fun r => (r, S, false) | none => none) ∧ (∀ (c : CallF) (S : St) (e z n k : Nat) (s x : D), exOp c (.append e z n k) [s, x] S = appendD e z n k s x S) ∧ (∀ (c : CallF) (S : St) (e z n : Nat) (d : List D) (g : Nat) (k k' : IntKind) (l m : Int), exOp c (.mkslice e z n d g) [.int k l, .int k' m] S = if 0 ≤ l ∧ l ≤ m ∧ m.toNat * n ≤ 140737488355328 then some (.msl S.heap.length 0 0 l.toNat none, newAt S ⟨e, z, List.replicate l.toNat d, 0, g, decide (l ≠ m)⟩, true) else none) ∧ (∀ (c : CallF) (S : St) (x : D), exOp c .bstr [x] S = match readRows S 1 x with | some rows => (bytesOf rows).map fun b => (.str ⟨b.toArray⟩, S, false) | none => none) ∧ (∀ (c : CallF) (S : St) (s : ByteArray), exOp c .strb [.str s] S = some (.sl 1 (byteRows s) none, S, false)) ∧ (∀ (c : CallF) (S : St) (e n k : Nat) (s : D) (t : ByteArray), exOp c (.appstr e n k) [s, .str t] S = appendRows e 1 n k s (byteRows t) S) ∧ (∀ (c : CallF) (S : St) (g : Bool) (x y : D), exOp c (.eqp g) [x, y] S = (eqpD S x y).map fun b => (.bool (b != g), S, false)) ∧ (∀ (c : CallF) (S : St) (t : TypeId) (n : Nat) (x : D), exOp c (.toU t n) [x] S = (wholeD S t n x).map fun r => (r, S, false)) ∧ (∀ (c : CallF) (S : St) (t : TypeId) (n : Nat) (x : D), exOp c (.ofU t n) [x] S = (wholeD S t n x).map fun r => (r, S, false)) ∧ (∀ (c : CallF) (S : St) (x : D), exOp c .sdata [x] S = (sdataD S x).map fun r => (r, S, false)) ∧ (∀ (c : CallF) (S : St) (e : TypeId) (x : D) (n : Int), exOp c (.ustr e) [x, .int .i64 n] S = ustrD S e x n) ∧ (∀ (c : CallF) (S : St) (x : D), exOp c .strsh [x] S = strshD S x) ∧ (∀ (c : CallF) (S : St) (s : ByteArray), exOp c .rngs [.str s] S = some (.iter S.heap.length 0, newAt S ⟨1, 2, [[.str s, .int .i64 0]], 0, 3, false⟩, true)) ∧ (∀ (c : CallF) (S : St) (g v : Nat), exOp c .nexts [.iter g v] S = nextsD S g v) ∧ (∀ (c : CallF) (S : St), exOp c .mkmap [] S = some (.mref S.heap.length 0, newAt S ⟨0, 2, [], 0, 3, false⟩, true)) ∧ (∀ (c : CallF) (S : St) (k : Nat) (a b d : D), exOp c (.mapset k) [a, b, d] S = (mapsetD S k a b d).map fun S' => (.undef, S', true)) ∧ (∀ (c : CallF) (S : St) (k : Nat) (z : D) (g : Bool) (a b : D), exOp c (.mapget k z g) [a, b] S = (mapgetD S k z g a b).map fun r => (r, S, false)) ∧ (∀ (S : St) (g v : Nat), rowsOf S g v = match S.heap[g]? with | some o => if o.ver = v then some o else none | none => none) ∧ (∀ (S : St) (o : AObj), newAt S o = ⟨S.heap ++ [o], S.low⟩) ∧ (∀ (S : St) (g : Nat) (o : AObj), setAt S g o = ⟨S.heap.set g o, min S.low g⟩) ∧ (type_of% @List.map_cons.{0, 0}) ∧ (type_of% @List.map_nil.{0, 0}) ∧ (type_of% @List.getD_cons_zero.{0}) ∧ (type_of% @List.getD_cons_succ.{0}) ∧ (type_of% @List.getD_nil.{0}) ∧ (type_of% @at_app) ∧ (type_of% @at_app0) ∧ (type_of% @set_app) ∧ (type_of% @set_app0) ∧ (type_of% @min_low) ∧ (type_of% @List.append_assoc.{0}) ∧ (type_of% @List.length_append.{0}) ∧ (type_of% @List.length_set.{0}) ∧ (type_of% @List.set_cons_zero.{0}) ∧ (type_of% @List.set_cons_succ.{0}) ∧ (type_of% @Nat.min_self) ∧ (type_of% @Nat.zero_min) ∧ (type_of% @Nat.min_zero) :=
  ⟨by intros; rfl, by intros; rfl, by intros; rfl, by intros; rfl, by intros; rfl, by intros; rfl, by intros; rfl, by intros; rfl, by intros; rfl, by intros; rfl, by intros; rfl, by intros; rfl, by intros; rfl, by intros; rfl, by intros; rfl, by intros; rfl, by intros; rfl, by intros; rfl, by intros; rfl, by intros; rfl, by intros; rfl, by intros; rfl, by intros; rfl, by intros; rfl, by intros; rfl, by intros; rfl, by intros; rfl, by intros; rfl, by intros; rfl, @List.map_cons.{0, 0}, @List.map_nil.{0, 0}, @List.getD_cons_zero.{0}, @List.getD_cons_succ.{0}, @List.getD_nil.{0}, @at_app, @at_app0, @set_app, @set_app0, @min_low, @List.append_assoc.{0}, @List.length_append.{0}, @List.length_set.{0}, @List.set_cons_zero.{0}, @List.set_cons_succ.{0}, @Nat.min_self, @Nat.zero_min, @Nat.min_zero⟩
end Go.Proofs.YtabgobmeibjeeaaGreatDoor

namespace Go.Proofs.YtabgobmeibjeeaaGreatDoor
open Go.RowKit
set_option linter.unusedVariables false

/-- no object of the abstract heap lies anywhere -/
def rho0 : RMap := ⟨fun _ => none, fun _ _ => False⟩
theorem rel0 (w : World) : Rel w rho0 [] := ⟨fun g g' b h => by simp [rho0] at h, fun g b h => by simp [rho0] at h, fun b q h => h.elim⟩
theorem imm0 {w : World} {b q : Nat} (h : b < w.heap.size) : Imm w rho0 [] b q := ⟨h, fun h => h, fun g hg => by simp [rho0] at hg⟩
theorem call0 {P : Program} {L : Prg} (hm : P.follows .mixedOrders = true) (hL : PrgOK P L) {N d : Nat} {f : FuncId} {ds : List D} {b : Bool} (h : runF L N d f ds ⟨[], 0⟩ = some (.bool b, ⟨[], 0⟩, false)) {w : World} {vs : List Value} (hv : VL w rho0 [] ds vs) :
    Calls P f vs.toArray w fun e w' => e = .returned (.bool b) ∧ Below w.heap.size w w' := by
  obtain ⟨_, hc⟩ := run_ok hm hL N d f ds ⟨[], 0⟩ (.bool b) ⟨[], 0⟩ false h w rho0 vs (rel0 w) hv
  refine hc.mono ?_
  rintro e w' ⟨v, rfl, hp⟩
  obtain ⟨ρ', hr, hs, hv', _⟩ := hp
  refine ⟨?_, ?_⟩
  · cases hv'
    rfl
  · exact ⟨hs.os, hs.tape, hs.output, hs.size, fun k hk => (hs.out k hk (fun g hg => by simp [rho0] at hg)).1⟩
/-! an argument, as it is read, in the machine -/
section
variable {H : Type} {enc : TypeId × Value → H} {P : Program} {w : World} {base : Nat} {spare : Nat → Bool} {held : Bool}
/-- where the parts of a struct end, if they lie one behind the other -/
def tileT (P : Program) : List Field → Nat → Option Nat
  | [], o => some o
  | f :: l, o => if f.offset = o then tileT P l (o + P.cellsOf f.type) else none
/-- a type of plain data -/
def okT (P : Program) : Nat → TypeId → Bool
  | 0, _ => false
  | n + 1, t => match P.underlying t with
    | some (.int _) | some .bool | some .string => P.cellsOf t == 1
    | some (.slice e) => P.cellsOf t == 1 && okT P n e && decide (0 < P.cellsOf e)
    | some (.array k e) => okT P n e && P.cellsOf t == k * P.cellsOf e
    | some (.struct fs) => tileT P fs.toList 0 == some (P.cellsOf t) && fs.all fun f => okT P n f.type
    | _ => false
/-- the cells of a value of a type, in the machine -/
def Sh (P : Program) : Nat → TypeId → List D → Prop
  | 0, _, _ => False
  | n + 1, t, ds => match P.underlying t with
    | some (.int k) => ∃ m, ds = [.int k m] ∧ (Lit.int k m).wf = true
    | some .bool => ∃ b, ds = [.bool b]
    | some .string => ∃ s : ByteArray, ds = [.str s] ∧ s.size ≤ maxLen
    | some (.slice e) => ∃ x rows, ds = [x] ∧ SlD (P.cellsOf e) rows x ∧ rows.length ≤ maxLen ∧ ∀ r ∈ rows, Sh P n e r
    | some (.array k e) => ∃ parts : List (List D), ds = parts.flatten ∧ parts.length = k ∧ ∀ r ∈ parts, Sh P n e r
    | some (.struct fs) => ∃ parts : List (List D), ds = parts.flatten ∧ parts.length = fs.size ∧ ∀ (j : Nat) (f : Field), fs[j]? = some f → ∃ r, parts[j]? = some r ∧ Sh P n f.type r
    | _ => False
theorem Sh.int {n : Nat} {t : TypeId} {k : IntKind} {ds : List D} (hu : P.underlying t = some (.int k)) (h : Sh P (n + 1) t ds) : ∃ m, ds = [.int k m] ∧ (Lit.int k m).wf = true := by simpa only [Sh, hu] using h
theorem Sh.bool {n : Nat} {t : TypeId} {ds : List D} (hu : P.underlying t = some .bool) (h : Sh P (n + 1) t ds) : ∃ b, ds = [.bool b] := by simpa only [Sh, hu] using h
theorem Sh.str {n : Nat} {t : TypeId} {ds : List D} (hu : P.underlying t = some .string) (h : Sh P (n + 1) t ds) : ∃ s : ByteArray, ds = [.str s] ∧ s.size ≤ maxLen := by simpa only [Sh, hu] using h
theorem Sh.slice {n : Nat} {t e : TypeId} {ds : List D} (hu : P.underlying t = some (.slice e)) (h : Sh P (n + 1) t ds) : ∃ x rows, ds = [x] ∧ SlD (P.cellsOf e) rows x ∧ rows.length ≤ maxLen ∧ ∀ r ∈ rows, Sh P n e r := by simpa only [Sh, hu] using h
theorem Sh.array {n k : Nat} {t e : TypeId} {ds : List D} (hu : P.underlying t = some (.array k e)) (h : Sh P (n + 1) t ds) : ∃ parts : List (List D), ds = parts.flatten ∧ parts.length = k ∧ ∀ r ∈ parts, Sh P n e r := by simpa only [Sh, hu] using h
theorem Sh.struct {n : Nat} {t : TypeId} {fs : Array Field} {ds : List D} (hu : P.underlying t = some (.struct fs)) (h : Sh P (n + 1) t ds) : ∃ parts : List (List D), ds = parts.flatten ∧ parts.length = fs.size ∧ ∀ (j : Nat) (f : Field), fs[j]? = some f → ∃ r, parts[j]? = some r ∧ Sh P n f.type r := by simpa only [Sh, hu] using h
/-- rows that are each of a form are the rows of a list -/
theorem rows_of {α : Type} {f : α → List D} : ∀ {rows : List (List D)}, (∀ r ∈ rows, ∃ a, r = f a) → ∃ l : List α, rows = l.map f
  | [], _ => ⟨[], rfl⟩
  | r :: rows, h => by
    obtain ⟨l, rfl⟩ := rows_of (fun r' hr' => h r' (List.mem_cons_of_mem _ hr'))
    obtain ⟨a, rfl⟩ := h r List.mem_cons_self
    exact ⟨a :: l, rfl⟩
theorem u8_nat {n : Int} (h : (Lit.int .u8 n).wf = true) : ∃ m : Nat, n = m ∧ m < 256 := by
  have b : 0 ≤ n ∧ n ≤ 255 := by simpa [Lit.wf, IntKind.min, IntKind.max, IntKind.signed, IntKind.bits] using h
  exact ⟨n.toNat, by omega, by omega⟩
def freeL (ds : List D) : Prop := ∀ d ∈ ds, d.free = true
theorem freeL_flatten {parts : List (List D)} (h : ∀ r ∈ parts, freeL r) : freeL parts.flatten := by
  intro d hd
  obtain ⟨r, hr, hd⟩ := List.mem_flatten.1 hd
  exact h r hr d hd
theorem cell_plain {a : Addr} {v : Value} (h : w.cell? a = some v) : a.spot = none ∧ a.block < w.heap.size := by
  refine ⟨?_, World.block_lt_of_cell? w _ h⟩
  unfold World.cell? at h
  split at h
  · split at h
    · simp at h
    · rename_i hs; simpa using hs
  · simp at h
theorem vr_rows {sz len cap : Nat} {a : Addr} {rows : List (List D)} {vals : List (List Value)} (h0z : 0 < sz) (hlen : rows.length = len) (hvl : vals.length = len) (hcap : len ≤ cap) (hz : ∀ r ∈ rows, r.length = sz) (hfree : ∀ r ∈ rows, freeL r)
    (hi : ∀ i r vs, rows[i]? = some r → vals[i]? = some vs → VL w rho0 [] r vs ∧ ∀ j, j < sz → w.cell? (a.add (i * sz + j)) = vs[j]?) :
    VR w rho0 [] (.sl sz rows none) (.slice (some a) len cap) := by
  by_cases hne : rows ≠ []
  · have h0 : 0 < rows.length := List.length_pos_iff.2 hne
    have hv0 : 0 < vals.length := by omega
    have hr0 : rows[0]? = some rows[0] := List.getElem?_eq_getElem h0
    obtain ⟨hl, hc⟩ := hi 0 _ _ hr0 (List.getElem?_eq_getElem hv0)
    have hs0 := hz rows[0] (List.getElem_mem h0)
    have hc := hc 0 h0z
    have hl := hl.len
    rw [List.getElem?_eq_getElem (by omega)] at hc
    rw [show a.add (0 * sz + 0) = a by simp [Addr.add]] at hc
    obtain ⟨hsp, _⟩ := cell_plain hc
    obtain ⟨b, o, sp⟩ := a
    have hsp : sp = none := hsp
    subst hsp
    have hb : b < w.heap.size := World.block_lt_of_cell? w _ hc
    refine VR.sl sz rows none ⟨b, o, none⟩ len cap hlen.symm hcap (fun k h => by simp at h) hz b o (fun i j => ((vals[i]?.getD [])[j]?).getD .nilFunc) (fun _ => rfl) ?_ ?_
    · intro i r j d h1 h2
      obtain ⟨i1, _⟩ := List.getElem?_eq_some_iff.1 h1
      have hv1 : vals[i]? = some (vals[i]'(by omega)) := List.getElem?_eq_getElem (by omega)
      obtain ⟨hl', hc'⟩ := hi i r _ h1 hv1
      have hz' := hz r (List.mem_of_getElem? h1)
      have hj := (List.getElem?_eq_some_iff.1 h2).1
      have hc' := hc' j (by omega)
      rw [add_plain, ← Nat.add_assoc] at hc'
      have hl'' := hl'.len
      refine ⟨?_, imm0 hb, hfree r (List.mem_of_getElem? h1) d (List.mem_of_getElem? h2)⟩
      rw [hc', hv1]
      simp [List.getElem?_eq_getElem (show j < (vals[i]'(by omega)).length by omega)]
    · intro i r j d h1 h2
      obtain ⟨i1, _⟩ := List.getElem?_eq_some_iff.1 h1
      have hv1 : vals[i]? = some (vals[i]'(by omega)) := List.getElem?_eq_getElem (by omega)
      obtain ⟨hl', _⟩ := hi i r _ h1 hv1
      have hj := (List.getElem?_eq_some_iff.1 h2).1
      have hl'' := hl'.len
      refine hl'.get h2 ?_
      rw [hv1]
      simp [List.getElem?_eq_getElem (show j < (vals[i]'(by omega)).length by omega)]
  · have he : rows = [] := Classical.byContradiction hne
    subst he
    exact VR.sl sz [] none a len cap hlen.symm hcap (fun k h => by simp at h) hz 0 0 (fun _ _ => .nilFunc) (fun h => absurd rfl h) (fun i r j d h1 => by simp at h1) (fun i r j d h1 => by simp at h1)
theorem choose_rows {α β : Type} {p : Nat → α → β → Prop} : ∀ n, (∀ i, i < n → ∃ a b, p i a b) → ∃ (l : List α) (m : List β), l.length = n ∧ m.length = n ∧ ∀ i a b, l[i]? = some a → m[i]? = some b → p i a b
  | 0, _ => ⟨[], [], rfl, rfl, fun i a b h => by simp at h⟩
  | n + 1, h => by
    obtain ⟨l, m, h1, h2, h3⟩ := choose_rows n (fun i hi => h i (by omega))
    obtain ⟨a, b, hab⟩ := h n (by omega)
    refine ⟨l ++ [a], m ++ [b], by simp [h1], by simp [h2], fun i a' b' e1 e2 => ?_⟩
    rw [List.getElem?_append] at e1 e2
    rw [h1] at e1
    rw [h2] at e2
    by_cases hi : i < n
    · rw [if_pos hi] at e1 e2
      exact h3 i a' b' e1 e2
    · rw [if_neg hi] at e1 e2
      have : i = n := by
        rcases Nat.lt_trichotomy i n with h | h | h
        · omega
        · exact h
        · rw [List.getElem?_eq_none (by simp; omega)] at e1; simp at e1
      subst this
      simp at e1 e2
      subst e1 e2
      exact hab
theorem vl_parts {n : Nat} {cs : List Value} : ∀ (fs : List Field) (o e : Nat), tileT P fs o = some e → (∀ (j : Nat) (f : Field), fs[j]? = some f → ∃ r, VL w rho0 [] r ((cs.drop f.offset).take (P.cellsOf f.type)) ∧ Sh P n f.type r ∧ freeL r) →
    ∃ parts : List (List D), parts.length = fs.length ∧ o ≤ e ∧ VL w rho0 [] parts.flatten ((cs.drop o).take (e - o)) ∧ freeL parts.flatten ∧ ∀ (j : Nat) (f : Field), fs[j]? = some f → ∃ r, parts[j]? = some r ∧ Sh P n f.type r
  | [], o, e, h, _ => by
    simp only [tileT, Option.some.injEq] at h
    subst h
    exact ⟨[], rfl, Nat.le_refl _, by simpa using VL.nil, fun d hd => by simp at hd, fun j f h => by simp at h⟩
  | f :: l, o, e, h, hf => by
    simp only [tileT] at h
    split at h
    · rename_i ho
      obtain ⟨parts, h1, h2, h3, h4, h5⟩ := vl_parts l _ e h (fun j g hg => hf (j + 1) g (by simpa using hg))
      obtain ⟨r, r1, r2, r3⟩ := hf 0 f rfl
      rw [ho] at r1
      refine ⟨r :: parts, by simp [h1], by omega, ?_, ?_, ?_⟩
      · have e1 : (cs.drop o).take (e - o) = (cs.drop o).take (P.cellsOf f.type) ++ (cs.drop (o + P.cellsOf f.type)).take (e - (o + P.cellsOf f.type)) := by
          have : e - o = P.cellsOf f.type + (e - (o + P.cellsOf f.type)) := by omega
          rw [this, List.take_add, List.drop_drop]
        rw [List.flatten_cons, e1]
        exact r1.append h3
      · rw [List.flatten_cons]
        intro d hd
        rcases List.mem_append.1 hd with hd | hd
        · exact r3 d hd
        · exact h4 d hd
      · intro j g hg
        cases j with
        | zero => simp at hg; subst hg; exact ⟨r, rfl, r2⟩
        | succ j => simpa using h5 j g (by simpa using hg)
    · simp at h
/-- what is read of an argument of plain data, in the machine -/
theorem open_any : ∀ (n : Nat) (t : TypeId) (fuel : Nat) (cs : List Value) (x : DataW H × List MemPlace), okT P n t = true → DataW.trod enc P w base spare held fuel t cs = some x → ∃ ds, VL w rho0 [] ds cs ∧ Sh P n t ds ∧ freeL ds ∧ ds.length = P.cellsOf t
  | 0, t, fuel, cs, x, ho, h => by simp [okT] at ho
  | n + 1, t, fuel, cs, x, ho, h => by
    simp only [okT] at ho
    split at ho
    · rename_i k hu
      obtain ⟨m, rfl, _, hw⟩ := DataW.trod_int hu h
      exact ⟨[.int k m], .cons (.int k m) .nil, by simp only [Sh, hu]; exact ⟨m, rfl, hw⟩, by simp [freeL, free_int], by simpa using (beq_iff_eq.1 ho).symm⟩
    · rename_i hu
      obtain ⟨b, rfl, _⟩ := DataW.trod_bool hu h
      exact ⟨[.bool b], .cons (.bool b) .nil, by simp only [Sh, hu]; exact ⟨b, rfl⟩, by simp [freeL, free_bool], by simpa using (beq_iff_eq.1 ho).symm⟩
    · rename_i hu
      obtain ⟨s, rfl, _, hs⟩ := DataW.trod_string hu h
      exact ⟨[.str s], .cons (.str s) .nil, by simp only [Sh, hu]; exact ⟨s, rfl, hs⟩, by simp [freeL, free_str], by simpa using (beq_iff_eq.1 ho).symm⟩
    · rename_i e hu
      simp only [Bool.and_eq_true, beq_iff_eq, decide_eq_true_eq] at ho
      obtain ⟨⟨hc1, ho⟩, hpos⟩ := ho
      rcases DataW.trod_slice hu h with ⟨rfl, _⟩ | ⟨a, len, cap, elems, rest, m, _, rfl, _, hb, hl, hm, hel, hi, _⟩
      · exact ⟨[.nils], .cons .nils .nil, by simp only [Sh, hu]; exact ⟨_, [], rfl, .nil _, by simp, by simp⟩, by simp [freeL, free_nils], by simp [hc1]⟩
      · have key : ∀ i, i < len → ∃ (r : List D) (vs : List Value), (VL w rho0 [] r vs ∧ ∀ j, j < P.cellsOf e → w.cell? (a.add (i * P.cellsOf e + j)) = vs[j]?) ∧ Sh P n e r ∧ freeL r ∧ r.length = P.cellsOf e := by
          intro i hi'
          have h1 := hi i hi'
          rw [List.getElem?_eq_getElem (by omega), Option.bind_eq_some_iff] at h1
          obtain ⟨vs, hv, ht⟩ := h1
          obtain ⟨r, r1, r2, r3, r4⟩ := open_any n e m vs _ ho ht
          refine ⟨r, vs, ⟨r1, fun j hj => ?_⟩, r2, r3, r4⟩
          obtain ⟨_, _, hat⟩ := World.cells?_some hv
          rw [← Go.Deep.add_add]
          exact hat j hj
        obtain ⟨rows, vals, h1, h2, h3⟩ := choose_rows len key
        have hall : ∀ r ∈ rows, Sh P n e r ∧ freeL r ∧ r.length = P.cellsOf e := by
          intro r hr
          obtain ⟨i, hi1, rfl⟩ := List.getElem_of_mem hr
          exact (h3 i _ _ (List.getElem?_eq_getElem hi1) (List.getElem?_eq_getElem (show i < vals.length by omega))).2
        refine ⟨[.sl (P.cellsOf e) rows none], .cons (vr_rows hpos h1 h2 hl (fun r hr => (hall r hr).2.2) (fun r hr => (hall r hr).2.1) (fun i r vs e1 e2 => (h3 i r vs e1 e2).1)) .nil, ?_, by simp [freeL, free_sl], by simp [hc1]⟩
        simp only [Sh, hu]
        exact ⟨_, rows, rfl, .of _ _ _, by omega, fun r hr => (hall r hr).1⟩
    · rename_i k e hu
      simp only [Bool.and_eq_true, beq_iff_eq] at ho
      obtain ⟨ho, hsz⟩ := ho
      obtain ⟨xs, m, _, _, hcl, hxl, hi⟩ := DataW.trod_array hu h
      have key : ∀ k', k' ≤ k → ∃ parts : List (List D), parts.length = k' ∧ VL w rho0 [] parts.flatten (cs.take (k' * P.cellsOf e)) ∧ freeL parts.flatten ∧ ∀ r ∈ parts, Sh P n e r := by
        intro k'
        induction k' with
        | zero => intro _; exact ⟨[], rfl, by simpa using VL.nil, fun d hd => by simp at hd, by simp⟩
        | succ k' ih =>
          intro hk
          obtain ⟨parts, p1, p2, p3, p4⟩ := ih (by omega)
          have h1 := hi k' (by omega)
          rw [List.getElem?_eq_getElem (by omega)] at h1
          obtain ⟨r, r1, r2, r3, r4⟩ := open_any n e m _ _ ho h1
          refine ⟨parts ++ [r], by simp [p1], ?_, ?_, ?_⟩
          · rw [List.flatten_append, Nat.succ_mul, List.take_add]
            simpa using p2.append r1
          · rw [List.flatten_append]
            intro d hd
            rcases List.mem_append.1 hd with hd | hd
            · exact p3 d hd
            · exact r3 d (by simpa using hd)
          · intro r' hr'
            rcases List.mem_append.1 hr' with h | h
            · exact p4 r' h
            · simp at h; subst h; exact r2
      obtain ⟨parts, p1, p2, p3, p4⟩ := key k (Nat.le_refl _)
      rw [← hsz, ← hcl, List.take_length] at p2
      exact ⟨parts.flatten, p2, by simp only [Sh, hu]; exact ⟨parts, rfl, p1, p4⟩, p3, by rw [← p2.len, hcl]⟩
    · rename_i fs hu
      simp only [Bool.and_eq_true, beq_iff_eq, Array.all_eq_true] at ho
      obtain ⟨htile, ho⟩ := ho
      obtain ⟨xs, m, _, _, hcl, hxl, hi⟩ := DataW.trod_struct hu h
      obtain ⟨parts, p1, p2, p3, p4, p5⟩ := vl_parts (P := P) (n := n) (cs := cs) fs.toList 0 _ htile (fun j f hf => by
        have hf' : fs[j]? = some f := by simpa using hf
        obtain ⟨hj, hfe⟩ := Array.getElem?_eq_some_iff.1 hf'
        have h1 := hi j f hf'
        rw [List.getElem?_eq_getElem (by omega)] at h1
        obtain ⟨r, r1, r2, r3, r4⟩ := open_any n f.type m _ _ (by have := ho j hj; rw [hfe] at this; exact this) h1
        exact ⟨r, r1, r2, r3⟩)
      rw [Nat.sub_zero, List.drop_zero, ← hcl, List.take_length] at p3
      refine ⟨parts.flatten, p3, ?_, p4, by rw [← p3.len, hcl]⟩
      simp only [Sh, hu]
      exact ⟨parts, rfl, by simpa using p1, fun j f hf => p5 j f (by simpa using hf)⟩
    · simp at ho
end
end Go.Proofs.YtabgobmeibjeeaaGreatDoor

namespace Go.Proofs.YtabgobmeibjeeaaGreatDoor
set_option linter.unusedVariables false
set_option linter.unusedSimpArgs false

/-! rows that are appended to, somewhere in the heap -/
def appY (sz : Nat) : List (List D) → D
  | [] => .nils
  | rows => .sl sz rows none
theorem appY_S (sz : Nat) (rows : List (List D)) : SlD sz rows (appY sz rows) := by
  cases rows with
  | nil => exact .nil _
  | cons r l => exact .of _ _ _
theorem strsD_appY (l : List ByteArray) : strsD l = appY 1 (strRows l) := by cases l <;> rfl
def AppAt (e : TypeId) (sz : Nat) (rows : List (List D)) (H : List AObj) (x : D) : Prop :=
  (rows = [] ∧ x = .nils) ∨ (rows ≠ [] ∧ ∃ g v, x = .msl g v 0 rows.length none ∧ H[g]? = some ⟨e, sz, rows, v, 1, true⟩)
theorem get_app {α : Type} {H : List α} {g : Nat} {o : α} (h : H[g]? = some o) (l : List α) : (H ++ l)[g]? = some o := by
  rw [List.getElem?_append_left (List.getElem?_eq_some_iff.1 h).1]; exact h
theorem get_set_ne {α : Type} {H : List α} {g k : Nat} {o : α} (h : H[g]? = some o) (hk : k ≠ g) (x : α) : (H.set k x)[g]? = some o := by
  rw [List.getElem?_set_ne hk]; exact h
theorem get_set_self {α : Type} {H : List α} {g : Nat} {o : α} (h : H[g]? = some o) (x : α) : (H.set g x)[g]? = some x := by
  rw [List.getElem?_set_self (List.getElem?_eq_some_iff.1 h).1]
section
variable {e : TypeId} {sz : Nat} {rows : List (List D)} {H : List AObj} {x : D}
theorem AppAt.nil (e : TypeId) (sz : Nat) (H : List AObj) : AppAt e sz [] H .nils := .inl ⟨rfl, rfl⟩
theorem AppAt.keep {H' : List AObj} (h : AppAt e sz rows H x) (hk : ∀ (g : Nat) (o : AObj), H[g]? = some o → o.kind = 1 → o.elem = e → H'[g]? = some o) : AppAt e sz rows H' x := by
  rcases h with h | ⟨h0, g, v, h1, h2⟩
  · exact .inl h
  · exact .inr ⟨h0, g, v, h1, hk g _ h2 rfl rfl⟩
theorem AppAt.push (h : AppAt e sz rows H x) (l : List AObj) : AppAt e sz rows (H ++ l) x := h.keep fun g o ho _ _ => get_app ho l
/-- another object is written -/
theorem AppAt.put (h : AppAt e sz rows H x) {k : Nat} {o' : AObj} (hk : H[k]? = some o') (hne : o'.kind = 0 ∨ o'.elem ≠ e) (n : AObj) : AppAt e sz rows (H.set k n) x := h.keep fun g o ho h1 h2 => by
  refine get_set_ne ho (fun hkg => ?_) n
  subst hkg
  rw [hk] at ho
  simp only [Option.some.injEq] at ho
  subst ho
  rcases hne with h | h
  · rw [h1] at h; simp at h
  · exact h h2
theorem AppAt.len (h : AppAt e sz rows H x) : lenD false x = some (.int .i64 rows.length) := by
  rcases h with ⟨rfl, rfl⟩ | ⟨h0, g, v, rfl, h2⟩ <;> rfl
theorem AppAt.snap (h : AppAt e sz rows H x) (m : Nat) : snap m H x = some (appY sz rows) := by
  rcases h with ⟨rfl, rfl⟩ | ⟨h0, g, v, rfl, h2⟩
  · rfl
  · cases rows with
    | nil => exact absurd rfl h0
    | cons r l => simp [snap_msl, h2, appY]
theorem AppAt.snapV (h : AppAt e sz rows H x) (m : Nat) : snapV m H x = some (appY sz rows) := by
  rw [← h.snap m]
  rcases h with ⟨rfl, rfl⟩ | ⟨h0, g, v, rfl, h2⟩ <;> rfl
theorem AppAt.snapR (h : AppAt e sz rows H x) (m : Nat) : snapR m H x = some (appY sz rows) := by
  rw [← h.snap m]
  rcases h with ⟨rfl, rfl⟩ | ⟨h0, g, v, rfl, h2⟩ <;> rfl
theorem AppAt.isCell (h : AppAt e sz rows H x) : x.isCell = true := by rcases h with ⟨rfl, rfl⟩ | ⟨h0, g, v, rfl, h2⟩ <;> rfl
theorem AppAt.val (h : AppAt e sz rows H x) : x.val = true := by rcases h with ⟨rfl, rfl⟩ | ⟨h0, g, v, rfl, h2⟩ <;> rfl
theorem AppAt.cells (h : AppAt e sz rows H x) : x.cells = [x] := by rcases h with ⟨rfl, rfl⟩ | ⟨h0, g, v, rfl, h2⟩ <;> rfl
theorem AppAt.app (h : AppAt e sz rows H x) (bytes : Nat) {new : List (List D)} {c : Option Nat} (hn : new.isEmpty = false) (hb : (rows.length + new.length) * bytes ≤ 140737488355328) :
    ∃ x' H', appendD e sz bytes 1 x (.sl sz new c) ⟨H, 0⟩ = some (x', ⟨H', 0⟩, true) ∧ AppAt e sz (rows ++ new) H' x' ∧ H.length ≤ H'.length ∧ ∀ (g : Nat) (o : AObj), H[g]? = some o → (o.kind = 0 ∨ o.elem ≠ e) → H'[g]? = some o := by
  have hne : rows ++ new ≠ [] := by cases new <;> simp at hn ⊢
  rcases h with ⟨rfl, rfl⟩ | ⟨h0, g, v, rfl, h2⟩
  · refine ⟨.msl H.length 0 0 new.length none, H ++ [⟨e, sz, new, 0, 1, true⟩], ?_, .inr ⟨hne, H.length, 0, by simp, by simp⟩, by simp, fun g o ho _ => get_app ho _⟩
    simp only [List.length_nil, Nat.zero_add] at hb
    simp [appendD, appendRows, readRows, hn, hb, newAt]
  · refine ⟨.msl g (v + 1) 0 (rows.length + new.length) none, H.set g ⟨e, sz, rows ++ new, v + 1, 1, true⟩, ?_, .inr ⟨hne, g, v + 1, by simp, get_set_self h2 _⟩, by simp, fun g' o ho hk => ?_⟩
    · simp [appendD, appendRows, readRows, rowsOf, h2, hb, setAt]
    · refine get_set_ne ho (fun hgg => ?_) _
      subst hgg
      rw [h2] at ho
      simp only [Option.some.injEq] at ho
      subst ho
      rcases hk with h | h
      · simp at h
      · exact h rfl
end
section
variable {call : CallF} {vals env : List D} {S : St} {K : List D → St → Prop} {n : Nat} {news : List (TypeId × List D)} {fps : List FP}
/-- a test that guards what comes is known -/
theorem ow_know {ops : List LOper} {vt : List D} (d : Nat) {b : Bool} (hg : vals.getD d .undef = .bool b) (ht : vals.set d (.bool b) = vt) (h : OW call ops vt env S K) : OW call ops vals env S K := by
  rw [set_getD hg (by simp)] at ht; rw [ht]; exact h
theorem dw_know {ops : List LOper} {vt : List D} (d : Nat) {b : Bool} (hg : vals.getD d .undef = .bool b) (ht : vals.set d (.bool b) = vt) (h : DW call n news ops fps vt env S K) : DW call n news ops fps vals env S K := by
  rw [set_getD hg (by simp)] at ht; rw [ht]; exact h
end
theorem plainV_int (k : IntKind) (n : Int) : plainV (.int k n) = true := rfl
theorem plainV_str (s : ByteArray) : plainV (.str s) = true := rfl
theorem plainV_bool (b : Bool) : plainV (.bool b) = true := rfl
theorem AppAt.plainV {e : TypeId} {sz : Nat} {rows : List (List D)} {H : List AObj} {x : D} (h : AppAt e sz rows H x) (hne : rows ≠ []) : plainV x = false := by
  rcases h with ⟨rfl, rfl⟩ | ⟨h0, g, v, rfl, h2⟩
  · exact absurd rfl hne
  · rfl
theorem cw_eval {call : CallF} {c : LCode} {Q : LExit → List D → St → Prop} {env env' : List D} {S S' : St} {e : LExit} (h : exCode call NN c env S = some (e, env', S')) (hq : Q e env' S') : CW call c Q env S := ⟨e, env', S', h, hq⟩
/-- rows that were appended to are given back -/
theorem leaveP_app {S2 T : St} {g e sz v n : Nat} {rows : List (List D)} (h : S2.heap[g]? = some ⟨e, sz, rows, v, 1, true⟩) (hn : rows.length = n) : leaveP T (.msl g v 0 n none) S2 = some (.sl sz rows none, T, false) := by
  subst hn
  simp [leaveP, leave, snapR_msl, snapV_msl, snap_msl, h, freeR_sl]
end Go.Proofs.YtabgobmeibjeeaaGreatDoor

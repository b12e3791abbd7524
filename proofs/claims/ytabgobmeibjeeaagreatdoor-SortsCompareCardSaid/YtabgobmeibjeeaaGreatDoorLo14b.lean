/- Proved here: a region that draws its order does, in every order, what the abstract machine does in the order of the text (the joining); no condition. -/
import Derived.Test.YtabgobmeibjeeaaGreatDoorLo14
namespace Go.Proofs.YtabgobmeibjeeaaGreatDoor
open Go.RowKit
set_option linter.unusedVariables false
set_option linter.unusedSimpArgs false

theorem okFP_get : ∀ {bs : List Bool} {fs : List FP} {x : FP}, okFP bs fs x = true → ∀ (d : Nat) (f : FP), fs[d]? = some f → ∃ b, bs[d]? = some b ∧ okPair b f x = true
  | [], [], x, h, d, f, hd => by simp at hd
  | b :: bs, [], x, h, d, f, hd => by simp at hd
  | [], _ :: _, x, h, d, f, hd => by simp [okFP] at h
  | b :: bs, f' :: fs, x, h, 0, f, hd => by
    simp only [okFP, Bool.and_eq_true] at h
    simp at hd
    subst hd
    exact ⟨b, rfl, h.1⟩
  | b :: bs, f' :: fs, x, h, d + 1, f, hd => by
    simp only [okFP, Bool.and_eq_true] at h
    exact okFP_get h.2 d f (by simpa using hd)
theorem doneFP_get : ∀ {bs : List Bool} {fs : List FP} {g : Nat}, g ∈ doneFP bs fs → ∃ (d : Nat) (f : FP), bs[d]? = some true ∧ fs[d]? = some f ∧ f.hoist = some g
  | [], fs, g, h => by simp [doneFP] at h
  | b :: bs, [], g, h => by simp [doneFP] at h
  | b :: bs, f :: fs, g, h => by
    unfold doneFP at h
    split at h
    · rename_i g' hb hf
      rcases List.mem_cons.1 h with rfl | h
      · exact ⟨0, f, rfl, rfl, hf⟩
      · obtain ⟨d, f', h1, h2, h3⟩ := doneFP_get h
        exact ⟨d + 1, f', h1, h2, h3⟩
    · obtain ⟨d, f', h1, h2, h3⟩ := doneFP_get h
      exact ⟨d + 1, f', h1, h2, h3⟩
theorem sameD_eq {a b : D} (h : sameD a b = true) : a = b := by
  unfold sameD at h
  split at h
  all_goals first | rfl | (simp at h; done) | skip
  · simp only [Bool.and_eq_true, decide_eq_true_eq] at h; rw [h.1, h.2]
  · simp only [beq_iff_eq] at h; rw [h]
  · simp only [decide_eq_true_eq] at h; rw [h]
theorem sameDs_eq : ∀ {l m : List D}, sameDs l m = true → l = m
  | [], [], _ => rfl
  | a :: l, b :: m, h => by
    simp only [sameDs, Bool.and_eq_true] at h
    rw [sameD_eq h.1, sameDs_eq h.2]
  | [], _ :: _, h => by simp [sameDs] at h
  | _ :: _, [], h => by simp [sameDs] at h
theorem sameNew_eq {p : TypeId × List D} {x : Option AObj} (h : sameNew p x = true) : x = some (newsObj p) := by
  unfold sameNew at h
  split at h
  · simp only [Bool.and_eq_true, decide_eq_true_eq] at h
    obtain ⟨⟨rfl, rfl⟩, h3⟩ := h
    rw [sameDs_eq h3]
    rfl
  · simp at h
theorem sparesFP_get {n : Nat} {dn : List Nat} {H : List AObj} : ∀ {l : List (TypeId × List D)} {r0 : Nat}, sparesFP n dn H l r0 = true → ∀ r p, l[r]? = some p → n + (r0 + r) ∉ dn → H[n + (r0 + r)]? = some (newsObj p)
  | [], r0, h, r, p, hr, _ => by simp at hr
  | q :: l, r0, h, 0, p, hr, hn => by
    simp only [sparesFP, Bool.and_eq_true, Bool.or_eq_true] at h
    simp at hr
    subst hr
    rcases h.1 with h1 | h1
    · exact absurd (by simpa using h1) hn
    · exact sameNew_eq h1
  | q :: l, r0, h, r + 1, p, hr, hn => by
    simp only [sparesFP, Bool.and_eq_true] at h
    have e : r0 + (r + 1) = r0 + 1 + r := by omega
    rw [e] at hn ⊢
    exact sparesFP_get h.2 r p (by simpa using hr) hn
theorem fpOf_hoist (l : LOp) (ds : List D) (r : D) (wr : Bool) : (fpOf l ds r wr).hoist = none := by
  unfold fpOf
  repeat' split
  all_goals first | rfl | (cases wr <;> rfl)

/-- the rank of a new variable -/
def rk (P : Program) (ops : Array Oper) (j : Nat) : Nat := (newsOf P (ops.toList.take j)).length
theorem rk_get {P : Program} {ops : Array Oper} {j : Nat} {o : Oper} {p : TypeId × List D} (ho : ops[j]? = some o) (hp : newOf P o = some p) : (newsOf P ops.toList)[rk P ops j]? = some p := by
  have hl : ops.toList[j]? = some o := by simpa using ho
  have hlt := lt_of_some hl
  have e : ops.toList = ops.toList.take j ++ o :: ops.toList.drop (j + 1) := by
    conv => lhs; rw [← List.take_append_drop j ops.toList]
    rw [List.drop_eq_getElem_cons hlt]
    rw [List.getElem?_eq_getElem hlt] at hl
    injection hl with hl
    rw [hl]
  unfold rk
  conv => lhs; arg 1; rw [e]
  unfold newsOf
  rw [List.filterMap_append, List.getElem?_append_right (Nat.le_refl _), Nat.sub_self, List.filterMap_cons_some hp]
  rfl
theorem rk_lt {P : Program} {ops : Array Oper} {i j : Nat} {o : Oper} {p : TypeId × List D} (ho : ops[i]? = some o) (hp : newOf P o = some p) (hij : i < j) : rk P ops i < rk P ops j := by
  have hl : ops.toList[i]? = some o := by simpa using ho
  have hlt := lt_of_some hl
  have e : ops.toList.take j = ops.toList.take i ++ o :: (ops.toList.take j).drop (i + 1) := by
    conv => lhs; rw [← List.take_append_drop i (ops.toList.take j)]
    have hlt' : i < (ops.toList.take j).length := by rw [List.length_take]; omega
    rw [List.drop_eq_getElem_cons hlt', List.take_take, Nat.min_eq_left (Nat.le_of_lt hij)]
    rw [List.getElem?_eq_getElem hlt] at hl
    injection hl with hl
    rw [List.getElem_take, hl]
  unfold rk
  conv => rhs; rw [e]
  unfold newsOf
  rw [List.filterMap_append, List.length_append, List.filterMap_cons_some hp, List.length_cons]
  omega
theorem rk_inj {P : Program} {ops : Array Oper} {i j : Nat} {o o' : Oper} {p p' : TypeId × List D} (ho : ops[i]? = some o) (hp : newOf P o = some p) (ho' : ops[j]? = some o') (hp' : newOf P o' = some p') (h : rk P ops i = rk P ops j) : i = j := by
  rcases Nat.lt_trichotomy i j with h1 | h1 | h1
  · have := rk_lt ho hp h1; omega
  · exact h1
  · have := rk_lt ho' hp' h1; omega
theorem newOf_some {P : Program} {o : Oper} {p : TypeId × List D} (h : newOf P o = some p) : ∃ n, o.op = .alloc p.1 ∧ o.guard = none ∧ zeroT P p.1 = some p.2 ∧ sizeT P p.1 = some n ∧ p.2.length = n := by
  unfold newOf at h
  split at h
  · rename_i e ho hg
    split at h
    · rename_i z n hz hn
      split at h
      · rename_i hl
        simp only [Option.some.injEq] at h
        subst h
        exact ⟨n, ho, hg, hz, hn, hl⟩
      · simp at h
    · simp at h
  · simp at h
theorem dstTo_len {ops : Array Oper} {i : Nat} (h : i ≤ ops.size) : (dstTo ops i).length = i := by
  unfold dstTo
  rw [List.length_reverse, List.length_map, List.length_take, Array.length_toList]
  omega
theorem sig_tl {slots : List Nat} {prev : List (Option Tmp)} {vals tl env : List D} {t i : Nat} (hp : prev.length = i) (hv : vals.length = i) : sig slots prev (vals ++ tl) env t = sig slots prev vals env t := by
  unfold sig
  split
  · rename_i d hd
    have := lt_of_some (locOf_mem hd)
    simp only [List.getD_eq_getElem?_getD]
    rw [List.getElem?_append_left (by omega)]
  · rfl
theorem newsVals_get {n k r : Nat} (h : r < k) : (newsVals n k)[k - 1 - r]? = some (.ptr (n + r) 0 0 0) := by
  have := hist_get (fun r => D.ptr (n + r) 0 0 0) k (k - 1 - r) (by omega)
  rw [show k - 1 - (k - 1 - r) = r by omega] at this
  exact this

noncomputable def notB (p : Prop) : Bool := @decide (¬ p) (Classical.propDecidable _)
theorem notB_iff {p : Prop} : notB p = true ↔ ¬ p := by unfold notB; exact @decide_eq_true_iff _ (Classical.propDecidable _)
theorem notB_congr {p q : Prop} (h : p ↔ q) : notB p = notB q := by rw [propext h]
noncomputable def left (n : Nat) (L : Nat → Prop) : List Nat := (List.range n).filter (fun i => notB (L i))
theorem left_split {n i : Nat} {L : Nat → Prop} (hi : i < n) (hL : ¬ L i) : ∃ pre post, left n L = pre ++ i :: post ∧ left n (fun k => L k ∨ k = i) = pre ++ post ∧ ∀ j ∈ pre, j < i ∧ ¬ L j := by
  have e : List.range n = List.range i ++ i :: List.range' (i + 1) (n - i - 1) := by
    rw [List.range_eq_range', List.range_eq_range', ← List.range'_succ, show n - i - 1 + 1 = n - i by omega]
    have := List.range'_append (s := 0) (m := i) (n := n - i) (step := 1)
    simp only [Nat.one_mul, Nat.zero_add] at this
    rw [this]
    congr 1
    omega
  refine ⟨(List.range i).filter (fun k => notB (L k)), (List.range' (i + 1) (n - i - 1)).filter (fun k => notB (L k)), ?_, ?_, ?_⟩
  · unfold left
    rw [e, List.filter_append, List.filter_cons_of_pos (by rw [notB_iff]; exact hL)]
  · unfold left
    rw [e, List.filter_append, List.filter_cons_of_neg (by rw [notB_iff]; simp)]
    congr 1
    · apply List.filter_congr
      intro k hk
      have : k ≠ i := by have := List.mem_range.1 hk; omega
      exact notB_congr (by simp [this])
    · apply List.filter_congr
      intro k hk
      have : k ≠ i := by have := List.mem_range'_1.1 hk; omega
      exact notB_congr (by simp [this])
  · intro j hj
    rw [List.mem_filter] at hj
    exact ⟨List.mem_range.1 hj.1, notB_iff.1 hj.2⟩

section
variable {P : Program} {call : CallF} {mt : Bool} {nt : Nat} {slots : List Nat} {ops : Array Oper} {env : List D} {Q : Exit → Act → World → Prop}

/-- the state of the frame and of the heap when the operations of L have been carried out -/
structure DInv (P : Program) (call : CallF) (ops : Array Oper) (slots : List Nat) (nt : Nat) (env : List D) (V : Nat → D) (E : Nat → Option Ev) (Z : Nat → List AObj → Prop) (S SF : St) (w0 : World) (ρ0 : RMap) (df : List Deferred) (L : Nat → Prop) (a : Act) (w : World) (ρ : RMap) (S1 : St) : Prop where
  rel : Rel w ρ S1.heap
  stp : Stp w0 ρ0 S w ρ S1
  size : a.tmps.size = nt
  defers : a.defers = df
  slot : ∀ t, t < nt → (∃ k o, ops[k]? = some o ∧ L k ∧ o.dst = some t ∧ VR w ρ S1.heap (V k) (a.tmps.getD t undef)) ∨ ((∀ k o, ops[k]? = some o → L k → o.dst ≠ some t) ∧ VR w ρ S1.heap (sig slots [] [] env t) (a.tmps.getD t undef))
  runs : Runs call E Z (left ops.size L) S1 SF
  pend : ∀ j o p, ops[j]? = some o → ¬ L j → newOf P o = some p → S1.heap[S.heap.length + rk P ops j]? = some (newsObj p) ∧ ρ (S.heap.length + rk P ops j) = none

theorem draw_ok (hm : P.follows .mixedOrders = true) (hcall : CallOK P call) (hclean : CallClean call) {S S' : St} {vals' : List D} {los : List LOper} {w : World} {ρ : RMap} {a : Act} {id : Nat} (hs : slots.all (· < nt) = true) (hdraw : drawOk P mt ops (Region.before ops).toList = true)
    (hlow : lowDrw P mt nt slots (Region.before ops).toList (newsOf P ops.toList).length ops.toList [] 0 = some los) (hex : exDrw call S.heap.length (newsOf P ops.toList) los [] (newsVals S.heap.length (newsOf P ops.toList).length) env ⟨S.heap ++ (newsOf P ops.toList).map newsObj, S.low⟩ = some (vals', S')) (hr : Rel w ρ S.heap) (hf : FR w ρ S.heap nt (sig slots [] [] env) a)
    (hQ : ∀ a' w' ρ', Rel w' ρ' S'.heap → Stp w ρ S w' ρ' S' → FR w' ρ' S'.heap nt (sig slots (dstsOf ops.toList) vals' env) a' → a'.defers = a.defers → Q .normal a' w') : (Code.region id ops true).wp P Q a w := by
  obtain ⟨hll, hdin, hget⟩ := lowDrw_get hlow
  generalize htl : newsVals S.heap.length (newsOf P ops.toList).length = tl at hex
  obtain ⟨V, ST, W, F, _, _, t2, t3, t4, t5⟩ := trace_ex los 0 (fun _ => .undef) (fun _ => fpQuiet) _ vals' S' hex
  simp only [Nat.zero_add, List.length_nil] at t3 t4 t5 hget
  have hsz : los.length = ops.size := by rw [hll]; simp
  rw [hsz] at t3 t4
  -- the checks
  have hdr : ∀ i o, ops[i]? = some o → (∀ e ∈ o.after, Region.binds .any e = true → e.on < i) ∧ ∀ k o' d, ops[k]? = some o' → o'.dst = some d → k ≠ i → o.dst ≠ some d ∧
      (ordered (Region.before ops).toList i k = true ∨ ((∀ mt l xs, lowOpF P mt o = some (l, xs) → .tmp d ∉ xs) ∧ ∀ j b oj, o.guard = some (j, b) → ops[j]? = some oj → oj.dst ≠ some d)) := by
    intro i o ho
    have hil := (Array.getElem?_eq_some_iff.1 ho).1
    have h := List.all_eq_true.1 hdraw i (List.mem_range.2 hil)
    rw [ho] at h
    simp only [Bool.and_eq_true] at h
    obtain ⟨h1, h2⟩ := h
    refine ⟨fun e he hb => ?_, fun k o' d hk hd hne => ?_⟩
    · have := List.all_eq_true.1 h1 e (Array.mem_toList_iff.2 he)
      simpa [hb] using this
    · have hkl := (Array.getElem?_eq_some_iff.1 hk).1
      have h3 := List.all_eq_true.1 h2 k (List.mem_range.2 hkl)
      rw [hk] at h3
      simp only [hd, Bool.or_eq_true, beq_iff_eq, hne, false_or, Bool.and_eq_true, bne_iff_ne, ne_eq] at h3
      refine ⟨h3.1, ?_⟩
      rcases h3.2 with h4 | ⟨h4, h5⟩
      · exact .inl h4
      · refine .inr ⟨fun mt l xs hl hmem => ?_, fun j b oj hg hj he => ?_⟩
        · cases mt with
          | true =>
            rw [hl] at h4
            have := List.all_eq_true.1 h4.1 _ hmem
            simp at this
          | false =>
            have h4 := h4.2
            rw [hl] at h4
            have := List.all_eq_true.1 h4 _ hmem
            simp at this
        · rw [hg] at h5
          simp only [hj] at h5
          simp [he] at h5
  have hu : ∀ (t k k' : Nat) (o o' : Oper), ops[k]? = some o → ops[k']? = some o' → o.dst = some t → o'.dst = some t → k = k' := by
    intro t k k' o o' hk hk' hd hd'
    by_cases e : k' = k
    · exact e.symm
    · exact absurd hd ((hdr k o hk).2 k' o' t hk' hd' e).1
  have hT : ∀ i, i < ops.size → ∃ lo, los[i]? = some lo ∧ TStep call S.heap.length (newsOf P ops.toList) tl env V ST W F i lo := fun i hi => ⟨los[i]'(by omega), List.getElem?_eq_getElem (by omega), t5 i _ (List.getElem?_eq_getElem (by omega))⟩
  -- the operations as they were run
  let E : Nat → Option Ev := fun i => match los[i]? with
    | some lo => if onG (hist V i ++ tl) lo.guard = some true ∧ lo.hoist = none then some ⟨lo.op, lo.args.map (opd (hist V i ++ tl) env), V i, W i⟩ else none
    | none => none
  let Z : Nat → List AObj → Prop := fun i H => ∀ r p, (newsOf P ops.toList)[r]? = some p → S.heap.length + r ∉ doneFP (ordOf (Region.before ops).toList i) (hist F i) → H[S.heap.length + r]? = some (newsObj p)
  have hordo : ∀ i lo, los[i]? = some lo → lo.ord = ordOf (Region.before ops).toList i := by
    intro i lo hlo
    have hil : i < ops.size := by have := lt_of_some hlo; omega
    rcases hget i ops[i] (by simp [hil]) with ⟨p, _, q2⟩ | ⟨_, l, xs, args, g, _, _, _, q4⟩
    · rw [hlo] at q2; injection q2 with q2; rw [q2]
    · rw [hlo] at q4; injection q4 with q4; rw [q4]
  -- hoisted operations
  have hhoist : ∀ i o p, ops[i]? = some o → newOf P o = some p → (∃ lo, los[i]? = some lo ∧ lo.hoist = some (rk P ops i)) ∧ E i = none ∧ V i = .ptr (S.heap.length + rk P ops i) 0 0 0 ∧ (F i).hoist = some (S.heap.length + rk P ops i) ∧ okFP (ordOf (Region.before ops).toList i) (hist F i) (F i) = true := by
    intro i o p ho hp
    have hil := (Array.getElem?_eq_some_iff.1 ho).1
    rcases hget i o (by simpa using ho) with ⟨p', q1, q2⟩ | ⟨q0, _⟩
    · obtain ⟨lo, hlo, ht⟩ := hT i hil
      rw [hlo] at q2
      injection q2 with q2
      have hho : lo.hoist = some (rk P ops i) := by rw [q2]; rfl
      have hE : E i = none := by simp only [E, hlo, hho]; simp
      have hrl : rk P ops i < (newsOf P ops.toList).length := lt_of_some (rk_get ho hp)
      cases ht with
      | skip hg => rw [q2] at hg; simp [onG] at hg
      | run hg hh hF hok =>
        refine ⟨⟨lo, hlo, hho⟩, hE, ?_, ?_, ?_⟩
        · rw [q2] at hh
          simp only [exOp, aop, LOp.loud, pop, List.map_cons, List.map_nil, opd, Bool.false_eq_true, if_false, Option.map_some, Option.some.injEq, Prod.mk.injEq] at hh
          rw [← hh.1]
          have h1 := newsVals_get (n := S.heap.length) hrl
          rw [htl] at h1
          simp only [List.getD_eq_getElem?_getD]
          rw [List.getElem?_append_right (by rw [hist_len]; omega), hist_len, Nat.add_sub_cancel_left]
          show (tl[(newsOf P ops.toList).length - 1 - rk P ops i]?).getD _ = _
          rw [h1]
          rfl
        · rw [hF]; simp [fpHere, hho]
        · have h1 := hok
          simp only [okHere, Bool.and_eq_true] at h1
          rw [← hordo i lo hlo]
          exact h1.1
    · rw [hp] at q0; cases q0
  -- the others
  have hother : ∀ i lo e, los[i]? = some lo → E i = some e → e = ⟨lo.op, lo.args.map (opd (hist V i ++ tl) env), V i, W i⟩ ∧ F i = e.fp ∧ exOp call e.op e.ds (ST i) = some (e.r, ST (i + 1), e.wr) ∧ okFP (ordOf (Region.before ops).toList i) (hist F i) (F i) = true ∧ (e.fp.writes = none → Z i (ST (i + 1)).heap) := by
    intro i lo e hlo he
    simp only [E, hlo] at he
    split at he
    · rename_i hc
      simp only [Option.some.injEq] at he
      subst he
      have hil : i < ops.size := by have := lt_of_some hlo; omega
      obtain ⟨lo', hlo', ht⟩ := hT i hil
      rw [hlo] at hlo'
      injection hlo' with hlo'
      subst hlo'
      cases ht with
      | skip hg => rw [hc.1] at hg; cases hg
      | run hg hh hF hok =>
        simp only [okHere, Bool.and_eq_true, Bool.or_eq_true] at hok
        have hFe : F i = (⟨lo.op, lo.args.map (opd (hist V i ++ tl) env), V i, W i⟩ : Ev).fp := by rw [hF]; simp [fpHere, hc.2, Ev.fp]
        refine ⟨rfl, hFe, hh, by rw [← hordo i lo hlo]; exact hok.1, fun hw r p hr hn => ?_⟩
        rcases hok.2 with h1 | h1
        · rw [hFe, hw] at h1; cases h1
        · have := sparesFP_get h1 r p hr (by rw [hordo i lo hlo, Nat.zero_add]; exact hn)
          rwa [Nat.zero_add] at this
    · cases he
  have hruns0 : ∀ m k, k + m = ops.size → Runs call E Z (List.range' k m) (ST k) S' := by
    intro m
    induction m with
    | zero => intro k hk; rw [show k = ops.size by omega, t3]; rfl
    | succ m ih =>
      intro k hk
      obtain ⟨lo, hlo, ht⟩ := hT k (by omega)
      rw [List.range'_succ]
      have ihk := ih (k + 1) (by omega)
      simp only [Runs]
      cases hE : E k with
      | none =>
        have hst : ST (k + 1) = ST k := by
          cases ht with
          | skip hg h1 h2 h3 => exact h2
          | run hg hh hF hok =>
            have hho : lo.hoist ≠ none := by
              intro hn
              simp [E, hlo, hg, hn] at hE
            rcases hget k ops[k] (by simp) with ⟨p, _, q2⟩ | ⟨_, l, xs, args, g, _, _, _, q4⟩
            · rw [hlo] at q2
              injection q2 with q2
              rw [q2] at hh
              simp only [exOp, aop, LOp.loud, pop, List.map_cons, List.map_nil, opd, Bool.false_eq_true, if_false, Option.map_some, Option.some.injEq, Prod.mk.injEq] at hh
              exact hh.2.1.symm
            · rw [hlo] at q4
              injection q4 with q4
              rw [q4] at hho
              exact absurd rfl hho
        rw [hst] at ihk
        exact ihk
      | some e =>
        obtain ⟨_, _, h3, _, h5⟩ := hother k lo e hlo hE
        exact ⟨ST (k + 1), h3, h5, ihk⟩
  refine wp_region_inv hm (fun i o ho => (hdr i o ho).1) (fun L a' w' => ∃ ρ' S1, DInv P call ops slots nt env V E Z S S' w ρ a.defers L a' w' ρ' S1) ⟨ρ, ST 0, ?_⟩ ?_ ?_
  · rw [t2]
    have hst : Stp w ρ S w.drew ρ ⟨S.heap ++ (newsOf P ops.toList).map newsObj, S.low⟩ := (stp_news hr _).trans (stp_drew w ρ _)
    refine ⟨?_, hst, hf.1, rfl, fun t ht => .inr ⟨fun k o _ h => h.elim, (hf.2 t ht).mono hst⟩, ?_, fun j o p hj _ hp => ?_⟩
    · exact ⟨hr.inj, fun g b hb => by
        obtain ⟨o, ho, hk⟩ := hr.obj g b hb
        exact ⟨o, by rw [List.getElem?_append_left (lt_of_some ho)]; exact ho, hk.mono hst rfl⟩, hr.hids hst⟩
    · have h0 := hruns0 ops.size 0 (by omega)
      rw [t2] at h0
      have : left ops.size (fun _ => False) = List.range' 0 ops.size := by
        unfold left
        rw [List.filter_eq_self.2 (fun k _ => notB_iff.2 (fun h => h)), List.range_eq_range']
      rw [this]
      exact h0
    · have hg := rk_get hj hp
      refine ⟨?_, ?_⟩
      · show (S.heap ++ (newsOf P ops.toList).map newsObj)[S.heap.length + rk P ops j]? = _
        rw [List.getElem?_append_right (by omega), Nat.add_sub_cancel_left, List.getElem?_map, hg]
        rfl
      · cases hρ : ρ (S.heap.length + rk P ops j) with
        | none => rfl
        | some b => have := hr.in hρ; omega
  · -- one operation
    rintro L i o a1 w1 ho hni hdown hdep ⟨ρ1, S1, hI⟩
    have hil := (Array.getElem?_eq_some_iff.1 ho).1
    obtain ⟨lo, hlo, ht⟩ := hT i hil
    have hdst : dstIn nt o.dst = true := hdin o (by rw [Array.mem_toList_iff]; exact Array.mem_of_getElem? ho)
    have hprev : ∀ d ∈ dstTo ops i, dstIn nt d = true := by
      intro d hd
      unfold dstTo at hd
      rw [List.mem_reverse, List.mem_map] at hd
      obtain ⟨o', ho', rfl⟩ := hd
      exact hdin o' (List.mem_of_mem_take ho')
    obtain ⟨pre, post, hl1, hl2, hpre⟩ := left_split hil hni
    have hruns := hI.runs
    rw [hl1] at hruns
    -- what the operation sees
    have hdown' : Down ops (fun k => L k ∨ k = i) := by
      intro k ok hk hLk e he hb
      rcases hLk with hLk | rfl
      · exact .inl (hdown k ok hk hLk e he hb)
      · rw [ho] at hk
        injection hk with hk
        subst hk
        exact .inl (hdep e he hb)
    have hanc : ∀ k, k < i → ordered (Region.before ops).toList i k = true → L k := fun k hk h => ((ordered_down hdown' h).1 hk (.inr rfl)).resolve_right (by omega)
    have hdesc : ∀ k, i < k → ordered (Region.before ops).toList i k = true → ¬ L k := fun k hk h hLk => hni ((ordered_down hdown h).2 hk hLk)
    have hbit : ∀ k, k < i → ((Region.before ops).toList.getD i 0).testBit k = true → L k := fun k hk h => (before_down hdown' h (.inr rfl)).resolve_right (by omega)
    -- behind it
    have hput : ∀ (v : Value) (w2 : World) (ρ2 : RMap) (S2 : St), Rel w2 ρ2 S2.heap → Stp w ρ S w2 ρ2 S2 → Fwd w1 ρ1 S1.heap w2 ρ2 S2.heap → VR w2 ρ2 S2.heap (V i) v → Runs call E Z (pre ++ post) S2 S' →
        (∀ j o p, ops[j]? = some o → ¬ L j → j ≠ i → newOf P o = some p → S2.heap[S.heap.length + rk P ops j]? = some (newsObj p) ∧ ρ2 (S.heap.length + rk P ops j) = none) →
        ∃ ρ' S2, DInv P call ops slots nt env V E Z S S' w ρ a.defers (fun k => L k ∨ k = i) (a1.put o.dst v) w2 ρ' S2 := by
      intro v w2 ρ2 S2 hrel hst hfw hvr hrun hpend
      refine ⟨ρ2, S2, ⟨hrel, hst, ?_, ?_, fun t ht => ?_, by rw [hl2]; exact hrun, fun j oj p hj hLj hp => hpend j oj p hj (fun h => hLj (.inl h)) (fun h => hLj (.inr h)) hp⟩⟩
      · cases o.dst with
        | none => exact hI.size
        | some d => simpa [Act.put] using hI.size
      · cases o.dst with
        | none => exact hI.defers
        | some d => exact hI.defers
      · by_cases e : o.dst = some t
        · refine .inl ⟨i, o, ho, .inr rfl, e, ?_⟩
          have htl : t < a1.tmps.size := by rw [hI.size]; exact ht
          rw [e]
          simpa [Act.put, htl] using hvr
        · have hsame : (a1.put o.dst v).tmps.getD t undef = a1.tmps.getD t undef := by
            cases hd : o.dst with
            | none => rfl
            | some d =>
              have hne : d ≠ t := fun h => e (by rw [hd, h])
              simp only [Act.put, Array.getD_eq_getD_getElem?, Array.getElem?_setIfInBounds, if_neg hne]
          rw [hsame]
          rcases hI.slot t ht with ⟨k', o', hk', hLk', hd', hvr'⟩ | ⟨hno, hvr'⟩
          · exact .inl ⟨k', o', hk', .inl hLk', hd', hvr'.fwd hfw⟩
          · refine .inr ⟨fun k o' hk hLk => ?_, hvr'.fwd hfw⟩
            rcases hLk with hLk | rfl
            · exact hno k o' hk hLk
            · rw [ho] at hk
              injection hk with hk
              subst hk
              exact e
    rcases hget i o (by simpa using ho) with ⟨p, hp, k4⟩ | ⟨hnn, l, xs, args, g, k1, k2, k3, k4⟩
    · -- a new variable
      obtain ⟨⟨lo', hlo', _⟩, hE, hV, _, _⟩ := hhoist i o p ho hp
      obtain ⟨n, hop, hgd, hz, hn, hlen⟩ := newOf_some hp
      obtain ⟨hobj, hnone⟩ := hI.pend i o p ho hni hp
      obtain ⟨v, w2, ob, hrun, hadd, hrel, hvr⟩ := alloc_fill (P := P) (S := S1) (g := S.heap.length + rk P ops i) hI.rel hz hn hlen hobj hnone
      unfold wpOp
      rw [ho]
      have hw : Region.wanted o (yielded ops a1.tmps) = true := by simp [Region.wanted, hgd]
      simp only [hw, if_true]
      left
      have hx : (execOp a1.eval o).run P w1 = .ok (.value v) w2 := by
        have he : execOp a1.eval o = (do pure (.value (← Instr.alloc p.1 true (.tuple #[])))) := by simp [execOp, hop]
        rw [he, run_ok_bind hrun]
        rfl
      unfold Oper.wp
      rw [hx]
      refine hput v w2 _ S1 hrel (stp_fill hI.stp hI.rel hadd hnone (by omega)) (fwd_fill hI.rel hadd hnone) (by rw [hV]; exact hvr) (Runs.drop hE hruns) fun j oj p' hj hLj hne hp' => ?_
      obtain ⟨q1, q2⟩ := hI.pend j oj p' hj hLj hp'
      refine ⟨q1, ?_⟩
      simp only [upd]
      rw [if_neg (fun h => hne (rk_inj hj hp' ho hp (by omega)))]
      exact q2
    · rw [hlo] at k4
      injection k4 with k4
      subst k4
      simp only [List.append_nil] at k2 k3
      have hsee : ∀ t, t < nt → (∀ k o', ops[k]? = some o' → o'.dst = some t → k ≠ i → ordered (Region.before ops).toList i k = true) → VR w1 ρ1 S1.heap (sig slots (dstTo ops i) (hist V i ++ tl) env t) (a1.tmps.getD t undef) := by
        intro t ht hord
        rw [sig_tl (dstTo_len (Nat.le_of_lt hil)) (hist_len V i)]
        rcases sig_to (slots := slots) (V := V) (env := env) (hu t) i (Nat.le_of_lt hil) with ⟨k, ok, hk, hok, hd, hsg⟩ | ⟨hn, hsg⟩
        · rw [hsg]
          have hLk := hanc k hk (hord k ok hok hd (by omega))
          rcases hI.slot t ht with ⟨k', o', hk', hLk', hd', hvr⟩ | ⟨hno, _⟩
          · have := hu t k k' ok o' hok hk' hd hd'
            subst this
            exact hvr
          · exact absurd hd (hno k ok hok hLk)
        · rw [hsg]
          rcases hI.slot t ht with ⟨k', o', hk', hLk', hd', hvr⟩ | ⟨hno, hvr⟩
          · exfalso
            have hki : ¬ k' < i := fun h => hn k' o' h hk' hd'
            have hne : k' ≠ i := fun e => hni (e ▸ hLk')
            exact hdesc k' (by omega) (hord k' o' hk' hd' hne) hLk'
          · exact hvr
      have hops : VL w1 ρ1 S1.heap (args.map (opd (hist V i ++ tl) env)) (xs.map a1.eval) := by
        refine opds_ok hs hprev k2 fun t hmem ht => hsee t ht fun k o' hk hd hne => ?_
        rcases ((hdr i o ho).2 k o' t hk hd hne).2 with h | ⟨h, _⟩
        · exact h
        · obtain ⟨mt', k1⟩ := k1
          exact absurd hmem (h mt' l xs k1)
      have hguard : ∀ j b d b0, o.guard = some (j, b) → g = some (d, b0) → (∀ b', (hist V i ++ tl).getD d .undef = .bool b' → yielded ops a1.tmps j = some b') ∧ ((hist V i ++ tl).getD d .undef = .skip → yielded ops a1.tmps j = none) ∧ b0 = b := by
        intro j b d b0 hgd hg
        rw [hgd] at k3
        unfold lowGuard at k3
        simp only at k3
        split at k3
        · rename_i hj
          split at k3
          · rename_i t htt
            split at k3
            · rename_i hloc
              simp only [Option.some.injEq] at k3
              subst k3
              simp only [Option.some.injEq, Prod.mk.injEq] at hg
              obtain ⟨rfl, rfl⟩ := hg
              have hlen : ((ops.toList.take i).map (·.dst)).reverse.length = i := by
                rw [List.length_reverse, List.length_map, List.length_take, Array.length_toList]; omega
              rw [hlen] at hj htt hloc
              have hjl : j < ops.toList.length := by rw [Array.length_toList]; omega
              have hjd : (ops[j]?).bind (·.dst) = some t := by
                have h1 : ((ops.toList.take i).map (·.dst)).length = i := by rw [List.length_map, List.length_take, Array.length_toList]; omega
                rw [List.getD_eq_getElem?_getD, List.getElem?_reverse (by rw [h1]; omega), h1, show i - 1 - (i - 1 - j) = j by omega] at htt
                simp only [List.getElem?_map, List.getElem?_take] at htt
                rw [if_pos hj, List.getElem?_eq_getElem hjl] at htt
                have h2 : ops[j]? = some ops.toList[j] := by simp
                rw [h2]
                simpa using htt
              have htn : t < nt := by
                have := hprev _ (List.mem_of_getElem? (locOf_mem hloc))
                simpa [dstIn] using this
              have hvis := hsee t htn fun k o' hk hd hne => by
                obtain ⟨oj, hoj, hdj⟩ : ∃ oj, ops[j]? = some oj ∧ oj.dst = some t := by
                  cases hx : ops[j]? with
                  | none => simp [hx] at hjd
                  | some oj => exact ⟨oj, rfl, by simpa [hx] using hjd⟩
                rcases ((hdr i o ho).2 k o' t hk hd hne).2 with h | ⟨_, h⟩
                · exact h
                · exact absurd hdj (h j _ oj hgd hoj)
              refine ⟨fun b' hb' => ?_, fun hb' => ?_, rfl⟩
              · rw [hlen] at hb'
                exact guard_ok (b := b) hjd hloc hprev hvis hI.size hb'
              · rw [hlen] at hb'
                exact guard_skip hjd hloc hprev hvis hI.size hb'
            · simp at k3
          · simp at k3
        · simp at k3
      cases ht with
      | skip hg h1 h2 h3 =>
        have hE : E i = none := by simp only [E, hlo, hg]; simp
        have hw : Region.wanted o (yielded ops a1.tmps) = false := by
          cases hgd : o.guard with
          | none => rw [hgd] at k3; simp only [lowGuard, Option.some.injEq] at k3; subst k3; simp [onG] at hg
          | some jb =>
            obtain ⟨j, b2⟩ := jb
            cases hgg : g with
            | none => simp [hgg, onG] at hg
            | some db =>
              obtain ⟨d, b⟩ := db
              simp only [hgg, onG] at hg
              split at hg
              · rename_i b' hb'
                simp only [Option.some.injEq] at hg
                obtain ⟨hy, _, rfl⟩ := hguard j b2 d b hgd hgg
                have hy := hy b' hb'
                simp only [Region.wanted, hgd, hy]
                simpa using hg
              · rename_i hb'
                obtain ⟨_, hy, rfl⟩ := hguard j b2 d b hgd hgg
                have hy := hy hb'
                simp only [Region.wanted, hgd, hy]
                rfl
              · simp at hg
        unfold wpOp
        rw [ho]
        simp only [hw, Bool.false_eq_true, if_false]
        exact hput undef w1 ρ1 S1 hI.rel hI.stp (Stp.refl w1 ρ1 S1).fwd (by rw [h1]; exact .skip) (Runs.drop hE hruns) fun j oj p hj hLj _ hp => hI.pend j oj p hj hLj hp
      | run hg hh hF hok =>
        have hw : Region.wanted o (yielded ops a1.tmps) = true := by
          cases hgd : o.guard with
          | none => simp [Region.wanted, hgd]
          | some jb =>
            obtain ⟨j, b2⟩ := jb
            cases hgg : g with
            | none =>
              rw [hgd, hgg] at k3
              unfold lowGuard at k3
              simp only at k3
              split at k3
              · split at k3
                · split at k3 <;> simp at k3
                · simp at k3
              · simp at k3
            | some db =>
              obtain ⟨d, b⟩ := db
              simp only [hgg, onG] at hg
              split at hg
              · rename_i b' hb'
                simp only [Option.some.injEq] at hg
                obtain ⟨hy, _, rfl⟩ := hguard j b2 d b hgd hgg
                have hy := hy b' hb'
                simp only [Region.wanted, hgd, hy]
                simpa using hg
              · simp at hg
              · simp at hg
        have hE : E i = some ⟨l, args.map (opd (hist V i ++ tl) env), V i, W i⟩ := by simp only [E, hlo]; rw [if_pos ⟨hg, trivial⟩]
        obtain ⟨_, hFe, _, hokF, _⟩ := hother i _ _ hlo hE
        have hFh : (F i).hoist = none := by rw [hFe]; exact fpOf_hoist _ _ _ _
        have hpair : ∀ j, j < i → ∃ b, (b = true → L j) ∧ okPair b (F j) (F i) = true := by
          intro j hj
          obtain ⟨b, h1, h2⟩ := okFP_get hokF (i - 1 - j) (F j) (by rw [hist_get F i _ (by omega)]; congr 2; omega)
          refine ⟨b, fun hb => hbit j hj ?_, h2⟩
          have h3 := hist_get (fun k => ((Region.before ops).toList.getD i 0).testBit k) i (i - 1 - j) (by omega)
          have h4 : (ordOf (Region.before ops).toList i)[i - 1 - j]? = some (((Region.before ops).toList.getD i 0).testBit (i - 1 - (i - 1 - j))) := h3
          rw [h4, show i - 1 - (i - 1 - j) = j by omega] at h1
          injection h1 with h1
          rw [h1]; exact hb
        obtain ⟨S2, r1, r2, r3⟩ := Runs.front hclean hE hruns (fun j hj e' he' => by
          obtain ⟨hji, hnL⟩ := hpre j hj
          obtain ⟨lo', hlo', _⟩ := hT j (by omega)
          obtain ⟨_, hFj, _, _, _⟩ := hother j lo' e' hlo' he'
          obtain ⟨b, h1, h2⟩ := hpair j hji
          have hFjh : (F j).hoist = none := by rw [hFj]; exact fpOf_hoist _ _ _ _
          simp only [okPair, hFh, hFjh, Bool.or_eq_true] at h2
          rcases h2 with h2 | h2
          · exact absurd (h1 h2) hnL
          · rw [hFj, hFe] at h2; exact h2)
        unfold wpOp
        rw [ho]
        simp only [hw, if_true]
        left
        refine exOp_ok hcall k1.choose_spec hops hI.rel r1 ?_
        rintro v w2 ⟨ρ2, q1, q2, q3, _⟩
        refine hput v w2 ρ2 S2 q1 (hI.stp.trans q2) q2.fwd q3 r3 fun j oj p hj hLj hne hp => ?_
        obtain ⟨p1, p2⟩ := hI.pend j oj p hj hLj hp
        obtain ⟨_, _, _, hFjh, hokj⟩ := hhoist j oj p hj hp
        have hsame : S2.heap[S.heap.length + rk P ops j]? = some (newsObj p) := by
          cases hwr : (F i).writes with
          | none =>
            rw [hFe] at hwr
            refine r2 hwr _ p (rk_get hj hp) fun hd => ?_
            obtain ⟨d, f, d1, d2, d3⟩ := doneFP_get hd
            have hdl : d < i := by have := lt_of_some d2; rw [hist_len] at this; exact this
            rw [hist_get F i d hdl] at d2
            injection d2 with d2
            subst d2
            have d4 : (ordOf (Region.before ops).toList i)[d]? = some (((Region.before ops).toList.getD i 0).testBit (i - 1 - d)) := hist_get (fun k => ((Region.before ops).toList.getD i 0).testBit k) i d hdl
            rw [d4] at d1
            injection d1 with d1
            have hLd := hbit (i - 1 - d) (by omega) d1
            obtain ⟨lo', hlo', ht'⟩ := hT (i - 1 - d) (by omega)
            have hod : ops[i - 1 - d]? = some ops[i - 1 - d] := Array.getElem?_eq_getElem (by omega)
            cases hpd : newOf P ops[i - 1 - d] with
            | some p' =>
              obtain ⟨_, _, _, hh', _⟩ := hhoist (i - 1 - d) _ p' hod hpd
              rw [hh'] at d3
              injection d3 with d3
              have := rk_inj hod hpd hj hp (by omega)
              exact hLj (this ▸ hLd)
            | none =>
              have hnh : (F (i - 1 - d)).hoist = none := by
                rcases hget (i - 1 - d) ops[i - 1 - d] (by simp) with ⟨p', q1', _⟩ | ⟨_, l', xs', args', g', _, _, _, q4'⟩
                · rw [hpd] at q1'; cases q1'
                · rw [hlo'] at q4'
                  injection q4' with q4'
                  cases ht' with
                  | skip hg' h1' h2' h3' => rw [h3']; rfl
                  | run hg' hh' hF' hok' => rw [hF', q4']; exact fpOf_hoist _ _ _ _
              rw [hnh] at d3
              cases d3
          | some Wr =>
            have hap : apartW (S.heap.length + rk P ops j) (F i).writes = true := by
              rcases Nat.lt_trichotomy j i with h | h | h
              · obtain ⟨b, h1, h2⟩ := hpair j h
                simp only [okPair, hFjh, hFh, Bool.or_eq_true] at h2
                rcases h2 with h2 | h2
                · exact absurd (h1 h2) hLj
                · exact h2
              · exact absurd h hne
              · obtain ⟨b, h1, h2⟩ := okFP_get hokj (j - 1 - i) (F i) (by rw [hist_get F j _ (by omega)]; congr 2; omega)
                simp only [okPair, hFjh, hFh] at h2
                exact h2
            rw [hwr] at hap
            have hap : S.heap.length + rk P ops j ∉ Wr := by simpa [apartW] using hap
            rw [← p1]
            rcases fp_cases r1 with ⟨R, W', eff, _, hw', rfl, hin, _⟩ | hall
            · have : W' = Wr := by
                rw [hFe] at hwr
                have hw2 : (Ev.fp ⟨l, args.map (opd (hist V i ++ tl) env), V i, W i⟩).writes = some W' := hw'
                rw [hw2] at hwr
                injection hwr
              subst this
              exact app_get hin hap
            · rw [hFe] at hwr
              have hall' : Ev.fp ⟨l, args.map (opd (hist V i ++ tl) env), V i, W i⟩ = fpAll (W i) := hall
              rw [hall'] at hwr
              cases hWi : W i with
              | true => rw [hWi] at hwr; cases hwr
              | false =>
                simp only [hWi] at r1
                rw [exOp_clean hclean r1]
        refine ⟨hsame, ?_⟩
        obtain ⟨o', ho', _, _, hv'⟩ := q2.obj _ _ p1
        rw [hsame] at ho'
        injection ho' with ho'
        subst ho'
        rw [(hv' rfl).1]
        exact p2
  · -- the end
    rintro L a1 w1 hall ⟨ρ1, S1, hI⟩
    have hSt : S' = S1 := by
      have h := hI.runs
      have : left ops.size L = [] := by
        unfold left
        rw [List.filter_eq_nil_iff]
        intro k hk
        rw [notB_iff]
        exact fun h => h (hall k (List.mem_range.1 hk))
      rw [this] at h
      exact h
    subst hSt
    have hslot := hI.slot
    refine hQ a1 w1 ρ1 hI.rel hI.stp ⟨hI.size, fun t ht => ?_⟩ hI.defers
    have hde : dstsOf ops.toList = dstTo ops ops.size := by unfold dstsOf dstTo; rw [List.take_of_length_le (by simp)]
    rw [hde, t4, sig_tl (dstTo_len (Nat.le_refl _)) (hist_len V _)]
    rcases sig_to (slots := slots) (V := V) (env := env) (hu t) ops.size (Nat.le_refl _) with ⟨k, ok, hk, hok, hd, hsg⟩ | ⟨hn, hsg⟩
    · rw [hsg]
      rcases hslot t ht with ⟨k', o', hk', hLk', hd', hvr⟩ | ⟨hno, _⟩
      · have := hu t k k' ok o' hok hk' hd hd'
        subst this
        exact hvr
      · exact absurd hd (hno k ok hok (hall k hk))
    · rw [hsg]
      rcases hslot t ht with ⟨k', o', hk', hLk', hd', hvr⟩ | ⟨hno, hvr⟩
      · exact absurd hd' (hn k' o' (Array.getElem?_eq_some_iff.1 hk').1 hk')
      · exact hvr
end
end Go.Proofs.YtabgobmeibjeeaaGreatDoor

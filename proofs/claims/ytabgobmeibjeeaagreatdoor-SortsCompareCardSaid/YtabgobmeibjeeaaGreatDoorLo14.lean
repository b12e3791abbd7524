/- Proved here: a region that draws its order does, in every order, what the abstract machine does in the order of the text; no condition. -/
import Derived.Test.YtabgobmeibjeeaaGreatDoorLo13
namespace Go.Proofs.YtabgobmeibjeeaaGreatDoor
open Go.RowKit
set_option linter.unusedVariables false
set_option linter.unusedSimpArgs false

/-- the first i of them, the newest first -/
def hist {α : Type} (V : Nat → α) (i : Nat) : List α := ((List.range i).map V).reverse
theorem hist_succ {α : Type} (V : Nat → α) (i : Nat) : hist V (i + 1) = V i :: hist V i := by simp [hist, List.range_succ]
theorem hist_congr {α : Type} {V W : Nat → α} {i : Nat} (h : ∀ k, k < i → V k = W k) : hist V i = hist W i := by
  unfold hist
  congr 1
  exact List.map_congr_left fun k hk => h k (List.mem_range.1 hk)
theorem hist_len {α : Type} (V : Nat → α) (i : Nat) : (hist V i).length = i := by simp [hist]
theorem hist_get {α : Type} (V : Nat → α) : ∀ (i d : Nat), d < i → (hist V i)[d]? = some (V (i - 1 - d))
  | 0, d, h => by omega
  | i + 1, 0, h => by rw [hist_succ]; simp
  | i + 1, d + 1, h => by
    rw [hist_succ, List.getElem?_cons_succ, hist_get V i d (by omega)]
    congr 2
    omega
theorem stp_drew (w : World) (ρ : RMap) (S : St) : Stp w ρ S w.drew ρ S :=
  ⟨rfl, rfl, rfl, rfl, Nat.le_refl _, Nat.le_refl _, fun b _ h => ⟨rfl, h⟩, fun b q h => ⟨rfl, h⟩, fun _ _ _ _ _ _ => rfl, fun g o h => ⟨o, h, ⟨Nat.le_refl _, rfl⟩, fun _ => rfl, fun _ => ⟨rfl, rfl, rfl, Nat.le_refl _, fun b cur _ h => ⟨cur, h, rfl⟩⟩⟩⟩
/-- the slots of the first i operations -/
def dstTo (ops : Array Oper) (i : Nat) : List (Option Tmp) := ((ops.toList.take i).map (·.dst)).reverse
theorem dstTo_succ {ops : Array Oper} {i : Nat} {o : Oper} (h : ops[i]? = some o) : dstTo ops (i + 1) = o.dst :: dstTo ops i := by
  have hl : ops.toList[i]? = some o := by simpa using h
  have hlt := lt_of_some hl
  unfold dstTo
  rw [List.take_succ_eq_append_getElem hlt, List.map_append, List.reverse_append]
  have : ops.toList[i] = o := by rw [List.getElem?_eq_getElem hlt] at hl; injection hl
  simp [this]
/-- one writer a slot: what the order of the text says of a slot -/
theorem sig_to {ops : Array Oper} {slots : List Nat} {V : Nat → D} {env : List D} {t : Nat} (hu : ∀ (k k' : Nat) (o o' : Oper), ops[k]? = some o → ops[k']? = some o' → o.dst = some t → o'.dst = some t → k = k') :
    ∀ i, i ≤ ops.size → ((∃ k o, k < i ∧ ops[k]? = some o ∧ o.dst = some t ∧ sig slots (dstTo ops i) (hist V i) env t = V k) ∨ ((∀ k o, k < i → ops[k]? = some o → o.dst ≠ some t) ∧ sig slots (dstTo ops i) (hist V i) env t = sig slots [] [] env t))
  | 0, _ => .inr ⟨fun k o hk => by omega, by simp [dstTo, hist]⟩
  | i + 1, hi => by
    have ho : ops[i]? = some ops[i] := Array.getElem?_eq_getElem (by omega)
    rw [dstTo_succ ho, hist_succ, sig_cons]
    by_cases e : ops[i].dst = some t
    · exact .inl ⟨i, ops[i], by omega, ho, e, by simp [e]⟩
    · rw [if_neg e]
      rcases sig_to hu i (by omega) with ⟨k, o, hk, hok, hd, hs⟩ | ⟨hn, hs⟩
      · exact .inl ⟨k, o, by omega, hok, hd, hs⟩
      · refine .inr ⟨fun k o hk hok hd => ?_, hs⟩
        by_cases hki : k = i
        · subst hki
          rw [ho] at hok
          injection hok with hok
          subst hok
          exact e hd
        · exact hn k o (by omega) hok hd


/-! the run of the abstract machine, operation by operation -/
inductive TStep (call : CallF) (n : Nat) (news : List (TypeId × List D)) (tl env : List D) (V : Nat → D) (ST : Nat → St) (W : Nat → Bool) (F : Nat → FP) (i : Nat) (lo : LOper) : Prop
  | skip (hg : onG (hist V i ++ tl) lo.guard = some false) (h1 : V i = .skip) (h2 : ST (i + 1) = ST i) (h3 : F i = fpQuiet)
  | run (hg : onG (hist V i ++ tl) lo.guard = some true) (h : exOp call lo.op (lo.args.map (opd (hist V i ++ tl) env)) (ST i) = some (V i, ST (i + 1), W i)) (hF : F i = fpHere n lo (lo.args.map (opd (hist V i ++ tl) env)) (V i) (W i)) (hs : okHere n news lo (hist F i) (F i) (ST (i + 1)) = true)

theorem trace_ex {call : CallF} {n : Nat} {news : List (TypeId × List D)} {tl env : List D} : ∀ (los : List LOper) (k : Nat) (V0 : Nat → D) (F0 : Nat → FP) (S : St) (valsF : List D) (SF : St), exDrw call n news los (hist F0 k) (hist V0 k ++ tl) env S = some (valsF, SF) →
    ∃ (V : Nat → D) (ST : Nat → St) (W : Nat → Bool) (F : Nat → FP), (∀ j, j < k → V j = V0 j) ∧ (∀ j, j < k → F j = F0 j) ∧ ST k = S ∧ ST (k + los.length) = SF ∧ valsF = hist V (k + los.length) ++ tl ∧ ∀ i lo, los[i]? = some lo → TStep call n news tl env V ST W F (k + i) lo
  | [], k, V0, F0, S, valsF, SF, h => by
    simp only [exDrw, Option.some.injEq, Prod.mk.injEq] at h
    obtain ⟨rfl, rfl⟩ := h
    exact ⟨V0, fun _ => S, fun _ => false, F0, fun _ _ => rfl, fun _ _ => rfl, rfl, rfl, rfl, fun i lo hi => by simp at hi⟩
  | lo :: los, k, V0, F0, S, valsF, SF, h => by
    have fin : ∀ (r : D) (S1 : St) (wr : Bool) (fp : FP), exDrw call n news los (fp :: hist F0 k) (r :: (hist V0 k ++ tl)) env S1 = some (valsF, SF) →
        (∀ V ST W F, hist V k = hist V0 k → hist F k = hist F0 k → V k = r → F k = fp → ST k = S → ST (k + 1) = S1 → W k = wr → TStep call n news tl env V ST W F k lo) →
        ∃ (V : Nat → D) (ST : Nat → St) (W : Nat → Bool) (F : Nat → FP), (∀ j, j < k → V j = V0 j) ∧ (∀ j, j < k → F j = F0 j) ∧ ST k = S ∧ ST (k + (lo :: los).length) = SF ∧ valsF = hist V (k + (lo :: los).length) ++ tl ∧ ∀ i lo', (lo :: los)[i]? = some lo' → TStep call n news tl env V ST W F (k + i) lo' := by
      intro r S1 wr fp hx ht
      have e1 : r :: (hist V0 k ++ tl) = hist (fun i => if i = k then r else V0 i) (k + 1) ++ tl := by
        rw [hist_succ]
        simp only [if_true, List.cons_append, List.cons.injEq, true_and]
        rw [hist_congr (V := fun i => if i = k then r else V0 i) (W := V0) (fun j hj => by rw [if_neg (by omega)])]
      have e2 : fp :: hist F0 k = hist (fun i => if i = k then fp else F0 i) (k + 1) := by
        rw [hist_succ]
        simp only [if_true, List.cons.injEq, true_and]
        rw [hist_congr (V := fun i => if i = k then fp else F0 i) (W := F0) (fun j hj => by rw [if_neg (by omega)])]
      rw [e1, e2] at hx
      obtain ⟨V, ST, W, F, h1, h2, h3, h4, h5, h6⟩ := trace_ex los (k + 1) _ _ S1 valsF SF hx
      have hV : ∀ j, j < k → V j = V0 j := fun j hj => by rw [h1 j (by omega), if_neg (by omega)]
      have hF : ∀ j, j < k → F j = F0 j := fun j hj => by rw [h2 j (by omega), if_neg (by omega)]
      refine ⟨V, fun i => if i = k then S else ST i, fun i => if i = k then wr else W i, F, hV, hF, by simp, ?_, ?_, ?_⟩
      · simp only [List.length_cons]
        rw [if_neg (by omega), ← h4]
        congr 1
        omega
      · rw [h5, List.length_cons]
        congr 2
        omega
      · intro i lo' hi
        cases i with
        | zero =>
          simp at hi
          subst hi
          exact ht V _ _ F (hist_congr hV) (hist_congr hF) (by rw [h1 k (by omega)]; simp) (by rw [h2 k (by omega)]; simp) (by simp) (by simp [h3]) (by simp)
        | succ i =>
          simp at hi
          have := h6 i lo' hi
          rw [show k + 1 + i = k + (i + 1) by omega] at this
          cases this with
          | skip hg a1 a2 a3 => exact .skip hg a1 (by rw [if_neg (by omega), if_neg (by omega)]; exact a2) a3
          | run hg hh hF hs => exact .run hg (by rw [if_neg (by omega), if_neg (by omega), if_neg (by omega)]; exact hh) (by rw [if_neg (by omega)]; exact hF) (by rw [if_neg (by omega)]; exact hs)
    unfold exDrw at h
    split at h
    · simp at h
    · rename_i hg
      exact fin .skip S false fpQuiet h fun V ST W F a1 a2 a3 a4 a5 a6 a7 => .skip (by rw [a1]; exact hg) a3 (by rw [a6, a5]) a4
    · rename_i hg
      split at h
      · simp at h
      · rename_i r S' wr hop
        split at h
        · rename_i hok
          exact fin r S' wr _ h fun V ST W F a1 a2 a3 a4 a5 a6 a7 => .run (by rw [a1]; exact hg) (by rw [a1, a3, a5, a6, a7]; exact hop) (by rw [a1, a3, a4, a7]) (by rw [a2, a4, a6]; exact hok)
        · simp at h

/-- what the lowering says of one operation -/
theorem lowDrw_get {P : Program} {mt : Bool} {nt : Nat} {slots bs : List Nat} {k : Nat} : ∀ {os : List Oper} {prev : List (Option Tmp)} {r0 : Nat} {los : List LOper}, lowDrw P mt nt slots bs k os prev r0 = some los →
    los.length = os.length ∧ (∀ o ∈ os, dstIn nt o.dst = true) ∧ ∀ i o, os[i]? = some o →
      (∃ p, newOf P o = some p ∧ los[i]? = some ⟨.mv, [.loc (prev.length + i + (k - 1 - (r0 + (newsOf P (os.take i)).length)))], none, ordOf bs (prev.length + i), some (r0 + (newsOf P (os.take i)).length)⟩) ∨
      (newOf P o = none ∧ ∃ l xs args g, (∃ mt', lowOpF P mt' o = some (l, xs)) ∧ lowOpds slots (((os.take i).map (·.dst)).reverse ++ prev) xs = some args ∧ lowGuard (((os.take i).map (·.dst)).reverse ++ prev) o.guard = some g ∧ los[i]? = some ⟨l, args, g, ordOf bs (prev.length + i), none⟩)
  | [], prev, r0, los, h => by
    simp only [lowDrw, Option.some.injEq] at h
    subst h
    exact ⟨rfl, by simp, fun i o hi => by simp at hi⟩
  | o :: os, prev, r0, los, h => by
    unfold lowDrw at h
    split at h
    · rename_i hd
      split at h
      · rename_i p hp
        split at h
        · rename_i rest hr
          simp only [Option.some.injEq] at h
          subst h
          obtain ⟨h1, h2, h3⟩ := lowDrw_get hr
          refine ⟨by simp [h1], fun o' ho' => ?_, fun i o' hi => ?_⟩
          · rcases List.mem_cons.1 ho' with rfl | ho'
            · exact hd
            · exact h2 o' ho'
          · cases i with
            | zero =>
              simp at hi
              subst hi
              exact .inl ⟨p, hp, by simp [newsOf]⟩
            | succ i =>
              simp at hi
              have e1 : prev.length + (i + 1) = (o.dst :: prev).length + i := by simp; omega
              have e2 : r0 + (newsOf P ((o :: os).take (i + 1))).length = r0 + 1 + (newsOf P (os.take i)).length := by
                simp only [newsOf, List.take_succ_cons, List.filterMap_cons, hp, List.length_cons]; omega
              rw [e1, e2]
              rcases h3 i o' hi with ⟨p', q1, q2⟩ | ⟨q0, l', xs', args', g', q1, q2, q3, q4⟩
              · exact .inl ⟨p', q1, by simpa using q2⟩
              · exact .inr ⟨q0, l', xs', args', g', q1, by simpa using q2, by simpa using q3, by simpa using q4⟩
        · simp at h
      · rename_i hp
        split at h
        · simp at h
        · rename_i l xs hl
          split at h
          · rename_i args g rest ha hg hr
            simp only [Option.some.injEq] at h
            subst h
            obtain ⟨h1, h2, h3⟩ := lowDrw_get hr
            refine ⟨by simp [h1], fun o' ho' => ?_, fun i o' hi => ?_⟩
            · rcases List.mem_cons.1 ho' with rfl | ho'
              · exact hd
              · exact h2 o' ho'
            · cases i with
              | zero =>
                simp at hi
                subst hi
                exact .inr ⟨hp, l, xs, args, g, ⟨_, hl⟩, by simpa using ha, by simpa using hg, by simp⟩
              | succ i =>
                simp at hi
                have e1 : prev.length + (i + 1) = (o.dst :: prev).length + i := by simp; omega
                have e2 : r0 + (newsOf P ((o :: os).take (i + 1))).length = r0 + (newsOf P (os.take i)).length := by
                  simp only [newsOf, List.take_succ_cons, List.filterMap_cons, hp]
                rw [e1, e2]
                rcases h3 i o' hi with ⟨p', q1, q2⟩ | ⟨q0, l', xs', args', g', q1, q2, q3, q4⟩
                · exact .inl ⟨p', q1, by simpa using q2⟩
                · exact .inr ⟨q0, l', xs', args', g', q1, by simpa using q2, by simpa using q3, by simpa using q4⟩
          · simp at h
    · simp at h

/-! the operations that are left, in the order of the text -/
structure Ev where
  op : LOp
  ds : List D
  r : D
  wr : Bool
def Ev.fp (e : Ev) : FP := fpOf e.op e.ds e.r e.wr
/-- Z: what an operation that may change any object owes -/
def Runs (call : CallF) (E : Nat → Option Ev) (Z : Nat → List AObj → Prop) : List Nat → St → St → Prop
  | [], S, S' => S' = S
  | i :: l, S, S' => match E i with
    | none => Runs call E Z l S S'
    | some e => ∃ S1, exOp call e.op e.ds S = some (e.r, S1, e.wr) ∧ (e.fp.writes = none → Z i S1.heap) ∧ Runs call E Z l S1 S'
theorem Runs.drop {call : CallF} {E : Nat → Option Ev} {Z : Nat → List AObj → Prop} {i : Nat} (hi : E i = none) {post : List Nat} : ∀ {pre : List Nat} {S S' : St}, Runs call E Z (pre ++ i :: post) S S' → Runs call E Z (pre ++ post) S S'
  | [], S, S', h => by simpa [Runs, hi] using h
  | j :: pre, S, S', h => by
    simp only [List.cons_append, Runs] at h ⊢
    split at h
    · rename_i hj
      exact Runs.drop hi h
    · rename_i e hj
      obtain ⟨S1, h1, h2, h3⟩ := h
      exact ⟨S1, h1, h2, Runs.drop hi h3⟩
theorem Runs.front {call : CallF} (hc : CallClean call) {E : Nat → Option Ev} {Z : Nat → List AObj → Prop} {i : Nat} {e : Ev} (hi : E i = some e) {post : List Nat} : ∀ {pre : List Nat} {S S' : St}, Runs call E Z (pre ++ i :: post) S S' → (∀ j ∈ pre, ∀ e', E j = some e' → indep e'.fp e.fp = true) →
    ∃ S1, exOp call e.op e.ds S = some (e.r, S1, e.wr) ∧ (e.fp.writes = none → Z i S1.heap) ∧ Runs call E Z (pre ++ post) S1 S'
  | [], S, S', h, _ => by simpa [Runs, hi] using h
  | j :: pre, S, S', h, hd => by
    simp only [List.cons_append, Runs] at h ⊢
    split at h
    · rename_i hj
      exact Runs.front hc hi h fun k hk => hd k (List.mem_cons_of_mem _ hk)
    · rename_i e' hj
      obtain ⟨S1, h1, h2, h3⟩ := h
      obtain ⟨S2, k1, k2, k3⟩ := Runs.front hc hi h3 fun k hk => hd k (List.mem_cons_of_mem _ hk)
      obtain ⟨S3, q1, q2, q3, q4⟩ := swap hc h1 k1 (hd j (by simp) e' hj)
      exact ⟨S3, q1, fun hw => by rw [q4 hw]; exact k2 hw, S2, q2, fun hw => by rw [q3 hw]; exact h2 hw, k3⟩
end Go.Proofs.YtabgobmeibjeeaaGreatDoor

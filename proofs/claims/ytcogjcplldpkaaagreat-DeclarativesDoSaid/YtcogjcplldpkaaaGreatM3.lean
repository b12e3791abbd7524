/- Proved here: parts of the proof, joined (Lo14, Lo14b, Lo15, Lo16, Lo17, LoZ, Lo18, Lo19, LowK): an abstract machine, its soundness, what functions of the program compute in it; no condition. -/
import Derived.LoopN
import Derived.Scope
import Derived.Below
import Derived.ChangeArms
import Derived.OpenShut
import Derived.DataReads
import Derived.Deep.Slices
import Derived.Test.YtcogjcplldpkaaaGreatM2
namespace Go.Proofs.YtcogjcplldpkaaaGreat
open Go.RowKit
set_option linter.unusedVariables false
set_option linter.unusedSimpArgs false

def hist {α : Type} (V : Nat → α) (i : Nat) : List α := ((List.range i).map V).reverse
theorem hist_succ {α : Type} (V : Nat → α) (i : Nat) : hist V (i + 1) = V i :: hist V i := by simp [hist, List.range_succ]
theorem hist_congr {α : Type} {V W : Nat → α} {i : Nat} (h : ∀ k, k < i → V k = W k) : hist V i = hist W i := by
 unfold hist
 congr 1
 exact List.map_congr_left fun k hk => h k (List.mem_range.1 hk)
theorem hist_len {α : Type} (V : Nat → α) (i : Nat) : (hist V i).length = i := by simp [hist]
theorem hist_get {α : Type} (V : Nat → α) : ∀ (i d : Nat), d < i → (hist V i)[d]? = some (V (i - 1 - d))
 | 0, d, h => by omega
 | i + 1, 0, h => by rw [hist_succ]; simp
 | i + 1, d + 1, h => by
  rw [hist_succ, List.getElem?_cons_succ, hist_get V i d (by omega)]
  congr 2
  omega
theorem stp_drew (w : World) (ρ : RMap) (S : St) : Stp w ρ S w.drew ρ S :=
 ⟨rfl, rfl, rfl, rfl, Nat.le_refl _, Nat.le_refl _, fun b _ h => ⟨rfl, h⟩, fun b q h => ⟨rfl, h⟩, fun _ _ _ _ _ _ => rfl, fun g o h => ⟨o, h, ⟨Nat.le_refl _, rfl⟩, fun _ => rfl, fun _ => ⟨rfl, rfl, rfl, Nat.le_refl _, fun b cur _ h => ⟨cur, h, rfl⟩⟩⟩⟩
def dstTo (ops : Array Oper) (i : Nat) : List (Option Tmp) := ((ops.toList.take i).map (·.dst)).reverse
theorem dstTo_succ {ops : Array Oper} {i : Nat} {o : Oper} (h : ops[i]? = some o) : dstTo ops (i + 1) = o.dst :: dstTo ops i := by
 have hl : ops.toList[i]? = some o := by simpa using h
 have hlt := lt_of_some hl
 unfold dstTo
 rw [List.take_succ_eq_append_getElem hlt, List.map_append, List.reverse_append]
 have : ops.toList[i] = o := by rw [List.getElem?_eq_getElem hlt] at hl; injection hl
 simp [this]
theorem sig_to {ops : Array Oper} {slots : List Nat} {V : Nat → D} {env : List D} {t : Nat} (hu : ∀ (k k' : Nat) (o o' : Oper), ops[k]? = some o → ops[k']? = some o' → o.dst = some t → o'.dst = some t → k = k') :
    ∀ i, i ≤ ops.size → ((∃ k o, k < i ∧ ops[k]? = some o ∧ o.dst = some t ∧ sig slots (dstTo ops i) (hist V i) env t = V k) ∨ ((∀ k o, k < i → ops[k]? = some o → o.dst ≠ some t) ∧ sig slots (dstTo ops i) (hist V i) env t = sig slots [] [] env t))
  | 0, _ => .inr ⟨fun k o hk => by omega, by simp [dstTo, hist]⟩
  | i + 1, hi => by
    have ho : ops[i]? = some ops[i] := Array.getElem?_eq_getElem (by omega)
    rw [dstTo_succ ho, hist_succ, sig_cons]
    by_cases e : ops[i].dst = some t
    · exact .inl ⟨i, ops[i], by omega, ho, e, by simp [e]⟩
    · rw [if_neg e]
      rcases sig_to hu i (by omega) with ⟨k, o, hk, hok, hd, hs⟩ | ⟨hn, hs⟩
      · exact .inl ⟨k, o, by omega, hok, hd, hs⟩
      · refine .inr ⟨fun k o hk hok hd => ?_, hs⟩
        by_cases hki : k = i
        · subst hki
          rw [ho] at hok
          injection hok with hok
          subst hok
          exact e hd
        · exact hn k o (by omega) hok hd


/-! the run of the abstract machine, operation by operation -/
inductive TStep (call : CallF) (n : Nat) (news : List (TypeId × List D)) (tl env : List D) (V : Nat → D) (ST : Nat → St) (W : Nat → Bool) (F : Nat → FP) (i : Nat) (lo : LOper) : Prop
 | skip (hg : onG (hist V i ++ tl) lo.guard = some false) (h1 : V i = .skip) (h2 : ST (i + 1) = ST i) (h3 : F i = fpQuiet)
 | run (hg : onG (hist V i ++ tl) lo.guard = some true) (h : exOp call lo.op (lo.args.map (opd (hist V i ++ tl) env)) (ST i) = some (V i, ST (i + 1), W i)) (hF : F i = fpHere n lo (lo.args.map (opd (hist V i ++ tl) env)) (V i) (W i)) (hs : okHere n news lo (hist F i) (F i) (ST (i + 1)) = true)

theorem trace_ex {call : CallF} {n : Nat} {news : List (TypeId × List D)} {tl env : List D} : ∀ (los : List LOper) (k : Nat) (V0 : Nat → D) (F0 : Nat → FP) (S : St) (valsF : List D) (SF : St), exDrw call n news los (hist F0 k) (hist V0 k ++ tl) env S = some (valsF, SF) →
    ∃ (V : Nat → D) (ST : Nat → St) (W : Nat → Bool) (F : Nat → FP), (∀ j, j < k → V j = V0 j) ∧ (∀ j, j < k → F j = F0 j) ∧ ST k = S ∧ ST (k + los.length) = SF ∧ valsF = hist V (k + los.length) ++ tl ∧ ∀ i lo, los[i]? = some lo → TStep call n news tl env V ST W F (k + i) lo
  | [], k, V0, F0, S, valsF, SF, h => by
    simp only [exDrw, Option.some.injEq, Prod.mk.injEq] at h
    obtain ⟨rfl, rfl⟩ := h
    exact ⟨V0, fun _ => S, fun _ => false, F0, fun _ _ => rfl, fun _ _ => rfl, rfl, rfl, rfl, fun i lo hi => by simp at hi⟩
  | lo :: los, k, V0, F0, S, valsF, SF, h => by
    have fin : ∀ (r : D) (S1 : St) (wr : Bool) (fp : FP), exDrw call n news los (fp :: hist F0 k) (r :: (hist V0 k ++ tl)) env S1 = some (valsF, SF) →
        (∀ V ST W F, hist V k = hist V0 k → hist F k = hist F0 k → V k = r → F k = fp → ST k = S → ST (k + 1) = S1 → W k = wr → TStep call n news tl env V ST W F k lo) →
        ∃ (V : Nat → D) (ST : Nat → St) (W : Nat → Bool) (F : Nat → FP), (∀ j, j < k → V j = V0 j) ∧ (∀ j, j < k → F j = F0 j) ∧ ST k = S ∧ ST (k + (lo :: los).length) = SF ∧ valsF = hist V (k + (lo :: los).length) ++ tl ∧ ∀ i lo', (lo :: los)[i]? = some lo' → TStep call n news tl env V ST W F (k + i) lo' := by
      intro r S1 wr fp hx ht
      have e1 : r :: (hist V0 k ++ tl) = hist (fun i => if i = k then r else V0 i) (k + 1) ++ tl := by
        rw [hist_succ]
        simp only [if_true, List.cons_append, List.cons.injEq, true_and]
        rw [hist_congr (V := fun i => if i = k then r else V0 i) (W := V0) (fun j hj => by rw [if_neg (by omega)])]
      have e2 : fp :: hist F0 k = hist (fun i => if i = k then fp else F0 i) (k + 1) := by
        rw [hist_succ]
        simp only [if_true, List.cons.injEq, true_and]
        rw [hist_congr (V := fun i => if i = k then fp else F0 i) (W := F0) (fun j hj => by rw [if_neg (by omega)])]
      rw [e1, e2] at hx
      obtain ⟨V, ST, W, F, h1, h2, h3, h4, h5, h6⟩ := trace_ex los (k + 1) _ _ S1 valsF SF hx
      have hV : ∀ j, j < k → V j = V0 j := fun j hj => by rw [h1 j (by omega), if_neg (by omega)]
      have hF : ∀ j, j < k → F j = F0 j := fun j hj => by rw [h2 j (by omega), if_neg (by omega)]
      refine ⟨V, fun i => if i = k then S else ST i, fun i => if i = k then wr else W i, F, hV, hF, by simp, ?_, ?_, ?_⟩
      · simp only [List.length_cons]
        rw [if_neg (by omega), ← h4]
        congr 1
        omega
      · rw [h5, List.length_cons]
        congr 2
        omega
      · intro i lo' hi
        cases i with
        | zero =>
          simp at hi
          subst hi
          exact ht V _ _ F (hist_congr hV) (hist_congr hF) (by rw [h1 k (by omega)]; simp) (by rw [h2 k (by omega)]; simp) (by simp) (by simp [h3]) (by simp)
        | succ i =>
          simp at hi
          have := h6 i lo' hi
          rw [show k + 1 + i = k + (i + 1) by omega] at this
          cases this with
          | skip hg a1 a2 a3 => exact .skip hg a1 (by rw [if_neg (by omega), if_neg (by omega)]; exact a2) a3
          | run hg hh hF hs => exact .run hg (by rw [if_neg (by omega), if_neg (by omega), if_neg (by omega)]; exact hh) (by rw [if_neg (by omega)]; exact hF) (by rw [if_neg (by omega)]; exact hs)
    unfold exDrw at h
    split at h
    · simp at h
    · rename_i hg
      exact fin .skip S false fpQuiet h fun V ST W F a1 a2 a3 a4 a5 a6 a7 => .skip (by rw [a1]; exact hg) a3 (by rw [a6, a5]) a4
    · rename_i hg
      split at h
      · simp at h
      · rename_i r S' wr hop
        split at h
        · rename_i hok
          exact fin r S' wr _ h fun V ST W F a1 a2 a3 a4 a5 a6 a7 => .run (by rw [a1]; exact hg) (by rw [a1, a3, a5, a6, a7]; exact hop) (by rw [a1, a3, a4, a7]) (by rw [a2, a4, a6]; exact hok)
        · simp at h

theorem lowDrw_get {P : Program} {kd : Kd} {nt : Nat} {slots bs : List Nat} {k : Nat} : ∀ {os : List Oper} {prev : List (Option Tmp)} {r0 : Nat} {los : List LOper}, lowDrw P kd nt slots bs k os prev r0 = some los →
    los.length = os.length ∧ (∀ o ∈ os, dstIn nt o.dst = true) ∧ ∀ i o, os[i]? = some o →
      (∃ p, newOf P o = some p ∧ los[i]? = some ⟨.mv, [.loc (prev.length + i + (k - 1 - (r0 + (newsOf P (os.take i)).length)))], none, ordOf bs (prev.length + i), some (r0 + (newsOf P (os.take i)).length)⟩) ∨
      (newOf P o = none ∧ ∃ l xs args g, (∃ mt' : Bool, lowOpF P (kd.lit mt') o = some (l, xs)) ∧ lowOpds kd.glob slots (((os.take i).map (·.dst)).reverse ++ prev) xs = some args ∧ lowGuard (((os.take i).map (·.dst)).reverse ++ prev) o.guard = some g ∧ los[i]? = some ⟨l, args, g, ordOf bs (prev.length + i), none⟩)
  | [], prev, r0, los, h => by
    simp only [lowDrw, Option.some.injEq] at h
    subst h
    exact ⟨rfl, by simp, fun i o hi => by simp at hi⟩
  | o :: os, prev, r0, los, h => by
    unfold lowDrw at h
    split at h
    · rename_i hd
      split at h
      · rename_i p hp
        split at h
        · rename_i rest hr
          simp only [Option.some.injEq] at h
          subst h
          obtain ⟨h1, h2, h3⟩ := lowDrw_get hr
          refine ⟨by simp [h1], fun o' ho' => ?_, fun i o' hi => ?_⟩
          · rcases List.mem_cons.1 ho' with rfl | ho'
            · exact hd
            · exact h2 o' ho'
          · cases i with
            | zero =>
              simp at hi
              subst hi
              exact .inl ⟨p, hp, by simp [newsOf]⟩
            | succ i =>
              simp at hi
              have e1 : prev.length + (i + 1) = (o.dst :: prev).length + i := by simp; omega
              have e2 : r0 + (newsOf P ((o :: os).take (i + 1))).length = r0 + 1 + (newsOf P (os.take i)).length := by
                simp only [newsOf, List.take_succ_cons, List.filterMap_cons, hp, List.length_cons]; omega
              rw [e1, e2]
              rcases h3 i o' hi with ⟨p', q1, q2⟩ | ⟨q0, l', xs', args', g', q1, q2, q3, q4⟩
              · exact .inl ⟨p', q1, by simpa using q2⟩
              · exact .inr ⟨q0, l', xs', args', g', q1, by simpa using q2, by simpa using q3, by simpa using q4⟩
        · simp at h
      · rename_i hp
        split at h
        · simp at h
        · rename_i l xs hl
          split at h
          · rename_i args g rest ha hg hr
            simp only [Option.some.injEq] at h
            subst h
            obtain ⟨h1, h2, h3⟩ := lowDrw_get hr
            refine ⟨by simp [h1], fun o' ho' => ?_, fun i o' hi => ?_⟩
            · rcases List.mem_cons.1 ho' with rfl | ho'
              · exact hd
              · exact h2 o' ho'
            · cases i with
              | zero =>
                simp at hi
                subst hi
                exact .inr ⟨hp, l, xs, args, g, ⟨_, hl⟩, by simpa using ha, by simpa using hg, by simp⟩
              | succ i =>
                simp at hi
                have e1 : prev.length + (i + 1) = (o.dst :: prev).length + i := by simp; omega
                have e2 : r0 + (newsOf P ((o :: os).take (i + 1))).length = r0 + (newsOf P (os.take i)).length := by
                  simp only [newsOf, List.take_succ_cons, List.filterMap_cons, hp]
                rw [e1, e2]
                rcases h3 i o' hi with ⟨p', q1, q2⟩ | ⟨q0, l', xs', args', g', q1, q2, q3, q4⟩
                · exact .inl ⟨p', q1, by simpa using q2⟩
                · exact .inr ⟨q0, l', xs', args', g', q1, by simpa using q2, by simpa using q3, by simpa using q4⟩
          · simp at h
    · simp at h

/-! the operations that are left, in the order of the text -/
structure Ev where
 op : LOp
 ds : List D
 r : D
 wr : Bool
def Ev.fp (e : Ev) : FP := fpOf e.op e.ds e.r e.wr
def Runs (call : CallF) (E : Nat → Option Ev) (Z : Nat → List AObj → Prop) : List Nat → St → St → Prop
 | [], S, S' => S' = S
 | i :: l, S, S' => match E i with
  | none => Runs call E Z l S S'
  | some e => ∃ S1, exOp call e.op e.ds S = some (e.r, S1, e.wr) ∧ (e.fp.writes = none → Z i S1.heap) ∧ Runs call E Z l S1 S'
theorem Runs.drop {call : CallF} {E : Nat → Option Ev} {Z : Nat → List AObj → Prop} {i : Nat} (hi : E i = none) {post : List Nat} : ∀ {pre : List Nat} {S S' : St}, Runs call E Z (pre ++ i :: post) S S' → Runs call E Z (pre ++ post) S S'
 | [], S, S', h => by simpa [Runs, hi] using h
 | j :: pre, S, S', h => by
  simp only [List.cons_append, Runs] at h ⊢
  split at h
  ·
   rename_i hj
   exact Runs.drop hi h
  ·
   rename_i e hj
   obtain ⟨S1, h1, h2, h3⟩ := h
   exact ⟨S1, h1, h2, Runs.drop hi h3⟩
theorem Runs.front {call : CallF} (hc : CallClean call) {E : Nat → Option Ev} {Z : Nat → List AObj → Prop} {i : Nat} {e : Ev} (hi : E i = some e) {post : List Nat} : ∀ {pre : List Nat} {S S' : St}, Runs call E Z (pre ++ i :: post) S S' → (∀ j ∈ pre, ∀ e', E j = some e' → indep e'.fp e.fp = true) →
  ∃ S1, exOp call e.op e.ds S = some (e.r, S1, e.wr) ∧ (e.fp.writes = none → Z i S1.heap) ∧ Runs call E Z (pre ++ post) S1 S'
 | [], S, S', h, _ => by simpa [Runs, hi] using h
 | j :: pre, S, S', h, hd => by
  simp only [List.cons_append, Runs] at h ⊢
  split at h
  ·
   rename_i hj
   exact Runs.front hc hi h fun k hk => hd k (List.mem_cons_of_mem _ hk)
  ·
   rename_i e' hj
   obtain ⟨S1, h1, h2, h3⟩ := h
   obtain ⟨S2, k1, k2, k3⟩ := Runs.front hc hi h3 fun k hk => hd k (List.mem_cons_of_mem _ hk)
   obtain ⟨S3, q1, q2, q3, q4⟩ := swap hc h1 k1 (hd j (by simp) e' hj)
   exact ⟨S3, q1, fun hw => by rw [q4 hw]; exact k2 hw, S2, q2, fun hw => by rw [q3 hw]; exact h2 hw, k3⟩
end Go.Proofs.YtcogjcplldpkaaaGreat

namespace Go.Proofs.YtcogjcplldpkaaaGreat
open Go.RowKit
set_option linter.unusedVariables false
set_option linter.unusedSimpArgs false

theorem okFP_get : ∀ {bs : List Bool} {fs : List FP} {x : FP}, okFP bs fs x = true → ∀ (d : Nat) (f : FP), fs[d]? = some f → ∃ b, bs[d]? = some b ∧ okPair b f x = true
 | [], [], x, h, d, f, hd => by simp at hd
 | b :: bs, [], x, h, d, f, hd => by simp at hd
 | [], _ :: _, x, h, d, f, hd => by simp [okFP] at h
 | b :: bs, f' :: fs, x, h, 0, f, hd => by
  simp only [okFP, Bool.and_eq_true] at h
  simp at hd
  subst hd
  exact ⟨b, rfl, h.1⟩
 | b :: bs, f' :: fs, x, h, d + 1, f, hd => by
  simp only [okFP, Bool.and_eq_true] at h
  exact okFP_get h.2 d f (by simpa using hd)
theorem doneFP_get : ∀ {bs : List Bool} {fs : List FP} {g : Nat}, g ∈ doneFP bs fs → ∃ (d : Nat) (f : FP), bs[d]? = some true ∧ fs[d]? = some f ∧ f.hoist = some g
 | [], fs, g, h => by simp [doneFP] at h
 | b :: bs, [], g, h => by simp [doneFP] at h
 | b :: bs, f :: fs, g, h => by
  unfold doneFP at h
  split at h
  ·
   rename_i g' hb hf
   rcases List.mem_cons.1 h with rfl | h
   ·
    exact ⟨0, f, rfl, rfl, hf⟩
   ·
    obtain ⟨d, f', h1, h2, h3⟩ := doneFP_get h
    exact ⟨d + 1, f', h1, h2, h3⟩
  ·
   obtain ⟨d, f', h1, h2, h3⟩ := doneFP_get h
   exact ⟨d + 1, f', h1, h2, h3⟩
theorem sameD_eq {a b : D} (h : sameD a b = true) : a = b := by
 unfold sameD at h
 split at h
 all_goals first | rfl | (simp at h; done) | skip
 ·
  simp only [Bool.and_eq_true, decide_eq_true_eq] at h; rw [h.1, h.2]
 ·
  simp only [beq_iff_eq] at h; rw [h]
 ·
  simp only [decide_eq_true_eq] at h; rw [h]
theorem sameDs_eq : ∀ {l m : List D}, sameDs l m = true → l = m
 | [], [], _ => rfl
 | a :: l, b :: m, h => by
  simp only [sameDs, Bool.and_eq_true] at h
  rw [sameD_eq h.1, sameDs_eq h.2]
 | [], _ :: _, h => by simp [sameDs] at h
 | _ :: _, [], h => by simp [sameDs] at h
theorem sameNew_eq {p : TypeId × List D} {x : Option AObj} (h : sameNew p x = true) : x = some (newsObj p) := by
 unfold sameNew at h
 split at h
 ·
  simp only [Bool.and_eq_true, decide_eq_true_eq] at h
  obtain ⟨⟨rfl, rfl⟩, h3⟩ := h
  rw [sameDs_eq h3]
  rfl
 ·
  simp at h
theorem sparesFP_get {n : Nat} {dn : List Nat} {H : List AObj} : ∀ {l : List (TypeId × List D)} {r0 : Nat}, sparesFP n dn H l r0 = true → ∀ r p, l[r]? = some p → n + (r0 + r) ∉ dn → H[n + (r0 + r)]? = some (newsObj p)
  | [], r0, h, r, p, hr, _ => by simp at hr
  | q :: l, r0, h, 0, p, hr, hn => by
    simp only [sparesFP, Bool.and_eq_true, Bool.or_eq_true] at h
    simp at hr
    subst hr
    rcases h.1 with h1 | h1
    · exact absurd (by simpa using h1) hn
    · exact sameNew_eq h1
  | q :: l, r0, h, r + 1, p, hr, hn => by
    simp only [sparesFP, Bool.and_eq_true] at h
    have e : r0 + (r + 1) = r0 + 1 + r := by omega
    rw [e] at hn ⊢
    exact sparesFP_get h.2 r p (by simpa using hr) hn
theorem fpApp_hoist (s x r : D) (wr : Bool) : (fpApp s x r wr).hoist = none := by
 unfold fpApp
 cases wr
 ·
  rfl
 ·
  simp only [if_true]
  split
  ·
   split <;> rfl
  ·
   rfl
theorem fpMk_hoist (r : D) (wr : Bool) : (fpMk r wr).hoist = none := by
 unfold fpMk
 split <;> cases wr <;> rfl
theorem fpOf_hoist (l : LOp) (ds : List D) (r : D) (wr : Bool) : (fpOf l ds r wr).hoist = none := by
 unfold fpOf
 repeat' split
 all_goals first | rfl | (cases wr <;> rfl) | exact fpApp_hoist .. | exact fpMk_hoist ..

def rk (P : Program) (ops : Array Oper) (j : Nat) : Nat := (newsOf P (ops.toList.take j)).length
theorem rk_get {P : Program} {ops : Array Oper} {j : Nat} {o : Oper} {p : TypeId × List D} (ho : ops[j]? = some o) (hp : newOf P o = some p) : (newsOf P ops.toList)[rk P ops j]? = some p := by
 have hl : ops.toList[j]? = some o := by simpa using ho
 have hlt := lt_of_some hl
 have e : ops.toList = ops.toList.take j ++ o :: ops.toList.drop (j + 1) := by
  conv => lhs; rw [← List.take_append_drop j ops.toList]
  rw [List.drop_eq_getElem_cons hlt]
  rw [List.getElem?_eq_getElem hlt] at hl
  injection hl with hl
  rw [hl]
 unfold rk
 conv => lhs; arg 1; rw [e]
 unfold newsOf
 rw [List.filterMap_append, List.getElem?_append_right (Nat.le_refl _), Nat.sub_self, List.filterMap_cons_some hp]
 rfl
theorem rk_lt {P : Program} {ops : Array Oper} {i j : Nat} {o : Oper} {p : TypeId × List D} (ho : ops[i]? = some o) (hp : newOf P o = some p) (hij : i < j) : rk P ops i < rk P ops j := by
 have hl : ops.toList[i]? = some o := by simpa using ho
 have hlt := lt_of_some hl
 have e : ops.toList.take j = ops.toList.take i ++ o :: (ops.toList.take j).drop (i + 1) := by
  conv => lhs; rw [← List.take_append_drop i (ops.toList.take j)]
  have hlt' : i < (ops.toList.take j).length := by rw [List.length_take]; omega
  rw [List.drop_eq_getElem_cons hlt', List.take_take, Nat.min_eq_left (Nat.le_of_lt hij)]
  rw [List.getElem?_eq_getElem hlt] at hl
  injection hl with hl
  rw [List.getElem_take, hl]
 unfold rk
 conv => rhs; rw [e]
 unfold newsOf
 rw [List.filterMap_append, List.length_append, List.filterMap_cons_some hp, List.length_cons]
 omega
theorem rk_inj {P : Program} {ops : Array Oper} {i j : Nat} {o o' : Oper} {p p' : TypeId × List D} (ho : ops[i]? = some o) (hp : newOf P o = some p) (ho' : ops[j]? = some o') (hp' : newOf P o' = some p') (h : rk P ops i = rk P ops j) : i = j := by
 rcases Nat.lt_trichotomy i j with h1 | h1 | h1
 ·
  have := rk_lt ho hp h1; omega
 ·
  exact h1
 ·
  have := rk_lt ho' hp' h1; omega
theorem newOf_some {P : Program} {o : Oper} {p : TypeId × List D} (h : newOf P o = some p) : ∃ n, o.op = .alloc p.1 ∧ o.guard = none ∧ zeroT P p.1 = some p.2 ∧ sizeT P p.1 = some n ∧ p.2.length = n := by
 unfold newOf at h
 split at h
 ·
  rename_i e ho hg
  split at h
  ·
   rename_i z n hz hn
   split at h
   ·
    rename_i hl
    simp only [Option.some.injEq] at h
    subst h
    exact ⟨n, ho, hg, hz, hn, hl⟩
   ·
    simp at h
  ·
   simp at h
 ·
  simp at h
theorem dstTo_len {ops : Array Oper} {i : Nat} (h : i ≤ ops.size) : (dstTo ops i).length = i := by
 unfold dstTo
 rw [List.length_reverse, List.length_map, List.length_take, Array.length_toList]
 omega
theorem sig_tl {slots : List Nat} {prev : List (Option Tmp)} {vals tl env : List D} {t i : Nat} (hp : prev.length = i) (hv : vals.length = i) : sig slots prev (vals ++ tl) env t = sig slots prev vals env t := by
  unfold sig
  split
  · rename_i d hd
    have := lt_of_some (locOf_mem hd)
    simp only [List.getD_eq_getElem?_getD]
    rw [List.getElem?_append_left (by omega)]
  · rfl
theorem newsVals_get {n k r : Nat} (h : r < k) : (newsVals n k)[k - 1 - r]? = some (.ptr (n + r) 0 0 0) := by
 have := hist_get (fun r => D.ptr (n + r) 0 0 0) k (k - 1 - r) (by omega)
 rw [show k - 1 - (k - 1 - r) = r by omega] at this
 exact this

noncomputable def notB (p : Prop) : Bool := @decide (¬ p) (Classical.propDecidable _)
theorem notB_iff {p : Prop} : notB p = true ↔ ¬ p := by unfold notB; exact @decide_eq_true_iff _ (Classical.propDecidable _)
theorem notB_congr {p q : Prop} (h : p ↔ q) : notB p = notB q := by rw [propext h]
noncomputable def left (n : Nat) (L : Nat → Prop) : List Nat := (List.range n).filter (fun i => notB (L i))
theorem left_split {n i : Nat} {L : Nat → Prop} (hi : i < n) (hL : ¬ L i) : ∃ pre post, left n L = pre ++ i :: post ∧ left n (fun k => L k ∨ k = i) = pre ++ post ∧ ∀ j ∈ pre, j < i ∧ ¬ L j := by
  have e : List.range n = List.range i ++ i :: List.range' (i + 1) (n - i - 1) := by
    rw [List.range_eq_range', List.range_eq_range', ← List.range'_succ, show n - i - 1 + 1 = n - i by omega]
    have := List.range'_append (s := 0) (m := i) (n := n - i) (step := 1)
    simp only [Nat.one_mul, Nat.zero_add] at this
    rw [this]
    congr 1
    omega
  refine ⟨(List.range i).filter (fun k => notB (L k)), (List.range' (i + 1) (n - i - 1)).filter (fun k => notB (L k)), ?_, ?_, ?_⟩
  · unfold left
    rw [e, List.filter_append, List.filter_cons_of_pos (by rw [notB_iff]; exact hL)]
  · unfold left
    rw [e, List.filter_append, List.filter_cons_of_neg (by rw [notB_iff]; simp)]
    congr 1
    · apply List.filter_congr
      intro k hk
      have : k ≠ i := by have := List.mem_range.1 hk; omega
      exact notB_congr (by simp [this])
    · apply List.filter_congr
      intro k hk
      have : k ≠ i := by have := List.mem_range'_1.1 hk; omega
      exact notB_congr (by simp [this])
  · intro j hj
    rw [List.mem_filter] at hj
    exact ⟨List.mem_range.1 hj.1, notB_iff.1 hj.2⟩

section
variable {P : Program} {call : CallF} {kd : Kd} {nt : Nat} {slots : List Nat} {ops : Array Oper} {env : List D} {Q : Exit → Act → World → Prop}

structure DInv (P : Program) (call : CallF) (ops : Array Oper) (slots : List Nat) (nt : Nat) (env : List D) (V : Nat → D) (E : Nat → Option Ev) (Z : Nat → List AObj → Prop) (S SF : St) (w0 : World) (ρ0 : RMap) (df : List Deferred) (L : Nat → Prop) (a : Act) (w : World) (ρ : RMap) (S1 : St) : Prop where
 rel : Rel w ρ S1.heap
 stp : Stp w0 ρ0 S w ρ S1
 size : a.tmps.size = nt
 defers : a.defers = df
 slot : ∀ t, t < nt → (∃ k o, ops[k]? = some o ∧ L k ∧ o.dst = some t ∧ VR w ρ S1.heap (V k) (a.tmps.getD t undef)) ∨ ((∀ k o, ops[k]? = some o → L k → o.dst ≠ some t) ∧ VR w ρ S1.heap (sig slots [] [] env t) (a.tmps.getD t undef))
 runs : Runs call E Z (left ops.size L) S1 SF
 pend : ∀ j o p, ops[j]? = some o → ¬ L j → newOf P o = some p → S1.heap[S.heap.length + rk P ops j]? = some (newsObj p) ∧ ρ (S.heap.length + rk P ops j) = none

theorem draw_ok {G : Nat → Option (List D)} (hkG : ∀ g row, kd.glob g = some row → G g = some row) (hm : P.follows .mixedOrders = true) (hcall : CallOK P G call) (hclean : CallClean call) {S S' : St} {vals' : List D} {los : List LOper} {w : World} {ρ : RMap} {a : Act} {id : Nat} (hs : slots.all (· < nt) = true) (hdraw : drawOk P kd ops (Region.before ops).toList = true)
    (hlow : lowDrw P kd nt slots (Region.before ops).toList (newsOf P ops.toList).length ops.toList [] 0 = some los) (hex : exDrw call S.heap.length (newsOf P ops.toList) los [] (newsVals S.heap.length (newsOf P ops.toList).length) env ⟨S.heap ++ (newsOf P ops.toList).map newsObj, S.low⟩ = some (vals', S')) (hr : Rel w ρ S.heap) (hG : ρ.X.G = G) (hf : FR w ρ S.heap nt (sig slots [] [] env) a)
    (hQ : ∀ a' w' ρ', Rel w' ρ' S'.heap → Stp w ρ S w' ρ' S' → FR w' ρ' S'.heap nt (sig slots (dstsOf ops.toList) vals' env) a' → a'.defers = a.defers → Q .normal a' w') : (Code.region id ops true).wp P Q a w := by
  obtain ⟨hll, hdin, hget⟩ := lowDrw_get hlow
  generalize htl : newsVals S.heap.length (newsOf P ops.toList).length = tl at hex
  obtain ⟨V, ST, W, F, _, _, t2, t3, t4, t5⟩ := trace_ex los 0 (fun _ => .undef) (fun _ => fpQuiet) _ vals' S' hex
  simp only [Nat.zero_add, List.length_nil] at t3 t4 t5 hget
  have hsz : los.length = ops.size := by rw [hll]; simp
  rw [hsz] at t3 t4
  -- the checks
  have hdr : ∀ i o, ops[i]? = some o → (∀ e ∈ o.after, Region.binds .any e = true → e.on < i) ∧ ∀ k o' d, ops[k]? = some o' → o'.dst = some d → k ≠ i → o.dst ≠ some d ∧
      (ordered (Region.before ops).toList i k = true ∨ ((∀ (mt : Bool) l xs, lowOpF P (kd.lit mt) o = some (l, xs) → .tmp d ∉ xs) ∧ ∀ j b oj, o.guard = some (j, b) → ops[j]? = some oj → oj.dst ≠ some d)) := by
    intro i o ho
    have hil := (Array.getElem?_eq_some_iff.1 ho).1
    have h := List.all_eq_true.1 hdraw i (List.mem_range.2 hil)
    rw [ho] at h
    simp only [Bool.and_eq_true] at h
    obtain ⟨h1, h2⟩ := h
    refine ⟨fun e he hb => ?_, fun k o' d hk hd hne => ?_⟩
    · have := List.all_eq_true.1 h1 e (Array.mem_toList_iff.2 he)
      simpa [hb] using this
    · have hkl := (Array.getElem?_eq_some_iff.1 hk).1
      have h3 := List.all_eq_true.1 h2 k (List.mem_range.2 hkl)
      rw [hk] at h3
      simp only [hd, Bool.or_eq_true, beq_iff_eq, hne, false_or, Bool.and_eq_true, bne_iff_ne, ne_eq] at h3
      refine ⟨h3.1, ?_⟩
      rcases h3.2 with h4 | ⟨h4, h5⟩
      · exact .inl h4
      · refine .inr ⟨fun mt l xs hl hmem => ?_, fun j b oj hg hj he => ?_⟩
        · cases mt with
          | true =>
            rw [hl] at h4
            have := List.all_eq_true.1 h4.1 _ hmem
            simp at this
          | false =>
            have h4 := h4.2
            rw [hl] at h4
            have := List.all_eq_true.1 h4 _ hmem
            simp at this
        · rw [hg] at h5
          simp only [hj] at h5
          simp [he] at h5
  have hu : ∀ (t k k' : Nat) (o o' : Oper), ops[k]? = some o → ops[k']? = some o' → o.dst = some t → o'.dst = some t → k = k' := by
    intro t k k' o o' hk hk' hd hd'
    by_cases e : k' = k
    · exact e.symm
    · exact absurd hd ((hdr k o hk).2 k' o' t hk' hd' e).1
  have hT : ∀ i, i < ops.size → ∃ lo, los[i]? = some lo ∧ TStep call S.heap.length (newsOf P ops.toList) tl env V ST W F i lo := fun i hi => ⟨los[i]'(by omega), List.getElem?_eq_getElem (by omega), t5 i _ (List.getElem?_eq_getElem (by omega))⟩
  -- the operations as they were run
  let E : Nat → Option Ev := fun i => match los[i]? with
    | some lo => if onG (hist V i ++ tl) lo.guard = some true ∧ lo.hoist = none then some ⟨lo.op, lo.args.map (opd (hist V i ++ tl) env), V i, W i⟩ else none
    | none => none
  let Z : Nat → List AObj → Prop := fun i H => ∀ r p, (newsOf P ops.toList)[r]? = some p → S.heap.length + r ∉ doneFP (ordOf (Region.before ops).toList i) (hist F i) → H[S.heap.length + r]? = some (newsObj p)
  have hordo : ∀ i lo, los[i]? = some lo → lo.ord = ordOf (Region.before ops).toList i := by
    intro i lo hlo
    have hil : i < ops.size := by have := lt_of_some hlo; omega
    rcases hget i ops[i] (by simp [hil]) with ⟨p, _, q2⟩ | ⟨_, l, xs, args, g, _, _, _, q4⟩
    · rw [hlo] at q2; injection q2 with q2; rw [q2]
    · rw [hlo] at q4; injection q4 with q4; rw [q4]
  -- hoisted operations
  have hhoist : ∀ i o p, ops[i]? = some o → newOf P o = some p → (∃ lo, los[i]? = some lo ∧ lo.hoist = some (rk P ops i)) ∧ E i = none ∧ V i = .ptr (S.heap.length + rk P ops i) 0 0 0 ∧ (F i).hoist = some (S.heap.length + rk P ops i) ∧ okFP (ordOf (Region.before ops).toList i) (hist F i) (F i) = true := by
    intro i o p ho hp
    have hil := (Array.getElem?_eq_some_iff.1 ho).1
    rcases hget i o (by simpa using ho) with ⟨p', q1, q2⟩ | ⟨q0, _⟩
    · obtain ⟨lo, hlo, ht⟩ := hT i hil
      rw [hlo] at q2
      injection q2 with q2
      have hho : lo.hoist = some (rk P ops i) := by rw [q2]; rfl
      have hE : E i = none := by simp only [E, hlo, hho]; simp
      have hrl : rk P ops i < (newsOf P ops.toList).length := lt_of_some (rk_get ho hp)
      cases ht with
      | skip hg => rw [q2] at hg; simp [onG] at hg
      | run hg hh hF hok =>
        refine ⟨⟨lo, hlo, hho⟩, hE, ?_, ?_, ?_⟩
        · rw [q2] at hh
          simp only [exOp, aop, LOp.loud, pop, List.map_cons, List.map_nil, opd, Bool.false_eq_true, if_false, Option.map_some, Option.some.injEq, Prod.mk.injEq] at hh
          rw [← hh.1]
          have h1 := newsVals_get (n := S.heap.length) hrl
          rw [htl] at h1
          simp only [List.getD_eq_getElem?_getD]
          rw [List.getElem?_append_right (by rw [hist_len]; omega), hist_len, Nat.add_sub_cancel_left]
          show (tl[(newsOf P ops.toList).length - 1 - rk P ops i]?).getD _ = _
          rw [h1]
          rfl
        · rw [hF]; simp [fpHere, hho]
        · have h1 := hok
          simp only [okHere, Bool.and_eq_true] at h1
          rw [← hordo i lo hlo]
          exact h1.1
    · rw [hp] at q0; cases q0
  -- the others
  have hother : ∀ i lo e, los[i]? = some lo → E i = some e → e = ⟨lo.op, lo.args.map (opd (hist V i ++ tl) env), V i, W i⟩ ∧ F i = e.fp ∧ exOp call e.op e.ds (ST i) = some (e.r, ST (i + 1), e.wr) ∧ okFP (ordOf (Region.before ops).toList i) (hist F i) (F i) = true ∧ (e.fp.writes = none → Z i (ST (i + 1)).heap) := by
    intro i lo e hlo he
    simp only [E, hlo] at he
    split at he
    · rename_i hc
      simp only [Option.some.injEq] at he
      subst he
      have hil : i < ops.size := by have := lt_of_some hlo; omega
      obtain ⟨lo', hlo', ht⟩ := hT i hil
      rw [hlo] at hlo'
      injection hlo' with hlo'
      subst hlo'
      cases ht with
      | skip hg => rw [hc.1] at hg; cases hg
      | run hg hh hF hok =>
        simp only [okHere, Bool.and_eq_true, Bool.or_eq_true] at hok
        have hFe : F i = (⟨lo.op, lo.args.map (opd (hist V i ++ tl) env), V i, W i⟩ : Ev).fp := by rw [hF]; simp [fpHere, hc.2, Ev.fp]
        refine ⟨rfl, hFe, hh, by rw [← hordo i lo hlo]; exact hok.1, fun hw r p hr hn => ?_⟩
        rcases hok.2 with h1 | h1
        · rw [hFe, hw] at h1; cases h1
        · have := sparesFP_get h1 r p hr (by rw [hordo i lo hlo, Nat.zero_add]; exact hn)
          rwa [Nat.zero_add] at this
    · cases he
  have hruns0 : ∀ m k, k + m = ops.size → Runs call E Z (List.range' k m) (ST k) S' := by
    intro m
    induction m with
    | zero => intro k hk; rw [show k = ops.size by omega, t3]; rfl
    | succ m ih =>
      intro k hk
      obtain ⟨lo, hlo, ht⟩ := hT k (by omega)
      rw [List.range'_succ]
      have ihk := ih (k + 1) (by omega)
      simp only [Runs]
      cases hE : E k with
      | none =>
        have hst : ST (k + 1) = ST k := by
          cases ht with
          | skip hg h1 h2 h3 => exact h2
          | run hg hh hF hok =>
            have hho : lo.hoist ≠ none := by
              intro hn
              simp [E, hlo, hg, hn] at hE
            rcases hget k ops[k] (by simp) with ⟨p, _, q2⟩ | ⟨_, l, xs, args, g, _, _, _, q4⟩
            · rw [hlo] at q2
              injection q2 with q2
              rw [q2] at hh
              simp only [exOp, aop, LOp.loud, pop, List.map_cons, List.map_nil, opd, Bool.false_eq_true, if_false, Option.map_some, Option.some.injEq, Prod.mk.injEq] at hh
              exact hh.2.1.symm
            · rw [hlo] at q4
              injection q4 with q4
              rw [q4] at hho
              exact absurd rfl hho
        rw [hst] at ihk
        exact ihk
      | some e =>
        obtain ⟨_, _, h3, _, h5⟩ := hother k lo e hlo hE
        exact ⟨ST (k + 1), h3, h5, ihk⟩
  refine wp_region_inv hm (fun i o ho => (hdr i o ho).1) (fun L a' w' => ∃ ρ' S1, DInv P call ops slots nt env V E Z S S' w ρ a.defers L a' w' ρ' S1) ⟨ρ, ST 0, ?_⟩ ?_ ?_
  · rw [t2]
    have hst : Stp w ρ S w.drew ρ ⟨S.heap ++ (newsOf P ops.toList).map newsObj, S.low⟩ := (stp_news hr _).trans (stp_drew w ρ _)
    refine ⟨?_, hst, hf.1, rfl, fun t ht => .inr ⟨fun k o _ h => h.elim, (hf.2 t ht).mono hst⟩, ?_, fun j o p hj _ hp => ?_⟩
    · exact ⟨hr.inj, fun g b hb => by
        obtain ⟨o, ho, hk⟩ := hr.obj g b hb
        exact ⟨o, by rw [List.getElem?_append_left (lt_of_some ho)]; exact ho, hk.mono hst rfl⟩, hr.hids hst, hr.globs hst⟩
    · have h0 := hruns0 ops.size 0 (by omega)
      rw [t2] at h0
      have : left ops.size (fun _ => False) = List.range' 0 ops.size := by
        unfold left
        rw [List.filter_eq_self.2 (fun k _ => notB_iff.2 (fun h => h)), List.range_eq_range']
      rw [this]
      exact h0
    · have hg := rk_get hj hp
      refine ⟨?_, ?_⟩
      · show (S.heap ++ (newsOf P ops.toList).map newsObj)[S.heap.length + rk P ops j]? = _
        rw [List.getElem?_append_right (by omega), Nat.add_sub_cancel_left, List.getElem?_map, hg]
        rfl
      · cases hρ : ρ (S.heap.length + rk P ops j) with
        | none => rfl
        | some b => have := hr.in hρ; omega
  · -- one operation
    rintro L i o a1 w1 ho hni hdown hdep ⟨ρ1, S1, hI⟩
    have hil := (Array.getElem?_eq_some_iff.1 ho).1
    obtain ⟨lo, hlo, ht⟩ := hT i hil
    have hdst : dstIn nt o.dst = true := hdin o (by rw [Array.mem_toList_iff]; exact Array.mem_of_getElem? ho)
    have hprev : ∀ d ∈ dstTo ops i, dstIn nt d = true := by
      intro d hd
      unfold dstTo at hd
      rw [List.mem_reverse, List.mem_map] at hd
      obtain ⟨o', ho', rfl⟩ := hd
      exact hdin o' (List.mem_of_mem_take ho')
    obtain ⟨pre, post, hl1, hl2, hpre⟩ := left_split hil hni
    have hruns := hI.runs
    rw [hl1] at hruns
    -- what the operation sees
    have hdown' : Down ops (fun k => L k ∨ k = i) := by
      intro k ok hk hLk e he hb
      rcases hLk with hLk | rfl
      · exact .inl (hdown k ok hk hLk e he hb)
      · rw [ho] at hk
        injection hk with hk
        subst hk
        exact .inl (hdep e he hb)
    have hanc : ∀ k, k < i → ordered (Region.before ops).toList i k = true → L k := fun k hk h => ((ordered_down hdown' h).1 hk (.inr rfl)).resolve_right (by omega)
    have hdesc : ∀ k, i < k → ordered (Region.before ops).toList i k = true → ¬ L k := fun k hk h hLk => hni ((ordered_down hdown h).2 hk hLk)
    have hbit : ∀ k, k < i → ((Region.before ops).toList.getD i 0).testBit k = true → L k := fun k hk h => (before_down hdown' h (.inr rfl)).resolve_right (by omega)
    -- behind it
    have hput : ∀ (v : Value) (w2 : World) (ρ2 : RMap) (S2 : St), Rel w2 ρ2 S2.heap → Stp w ρ S w2 ρ2 S2 → Fwd w1 ρ1 S1.heap w2 ρ2 S2.heap → VR w2 ρ2 S2.heap (V i) v → Runs call E Z (pre ++ post) S2 S' →
        (∀ j o p, ops[j]? = some o → ¬ L j → j ≠ i → newOf P o = some p → S2.heap[S.heap.length + rk P ops j]? = some (newsObj p) ∧ ρ2 (S.heap.length + rk P ops j) = none) →
        ∃ ρ' S2, DInv P call ops slots nt env V E Z S S' w ρ a.defers (fun k => L k ∨ k = i) (a1.put o.dst v) w2 ρ' S2 := by
      intro v w2 ρ2 S2 hrel hst hfw hvr hrun hpend
      refine ⟨ρ2, S2, ⟨hrel, hst, ?_, ?_, fun t ht => ?_, by rw [hl2]; exact hrun, fun j oj p hj hLj hp => hpend j oj p hj (fun h => hLj (.inl h)) (fun h => hLj (.inr h)) hp⟩⟩
      · cases o.dst with
        | none => exact hI.size
        | some d => simpa [Act.put] using hI.size
      · cases o.dst with
        | none => exact hI.defers
        | some d => exact hI.defers
      · by_cases e : o.dst = some t
        · refine .inl ⟨i, o, ho, .inr rfl, e, ?_⟩
          have htl : t < a1.tmps.size := by rw [hI.size]; exact ht
          rw [e]
          simpa [Act.put, htl] using hvr
        · have hsame : (a1.put o.dst v).tmps.getD t undef = a1.tmps.getD t undef := by
            cases hd : o.dst with
            | none => rfl
            | some d =>
              have hne : d ≠ t := fun h => e (by rw [hd, h])
              simp only [Act.put, Array.getD_eq_getD_getElem?, Array.getElem?_setIfInBounds, if_neg hne]
          rw [hsame]
          rcases hI.slot t ht with ⟨k', o', hk', hLk', hd', hvr'⟩ | ⟨hno, hvr'⟩
          · exact .inl ⟨k', o', hk', .inl hLk', hd', hvr'.fwd hfw⟩
          · refine .inr ⟨fun k o' hk hLk => ?_, hvr'.fwd hfw⟩
            rcases hLk with hLk | rfl
            · exact hno k o' hk hLk
            · rw [ho] at hk
              injection hk with hk
              subst hk
              exact e
    rcases hget i o (by simpa using ho) with ⟨p, hp, k4⟩ | ⟨hnn, l, xs, args, g, k1, k2, k3, k4⟩
    · -- a new variable
      obtain ⟨⟨lo', hlo', _⟩, hE, hV, _, _⟩ := hhoist i o p ho hp
      obtain ⟨n, hop, hgd, hz, hn, hlen⟩ := newOf_some hp
      obtain ⟨hobj, hnone⟩ := hI.pend i o p ho hni hp
      obtain ⟨v, w2, ob, hrun, hadd, hrel, hvr⟩ := alloc_fill (P := P) (S := S1) (g := S.heap.length + rk P ops i) hI.rel hz hn hlen hobj hnone
      unfold wpOp
      rw [ho]
      have hw : Region.wanted o (yielded ops a1.tmps) = true := by simp [Region.wanted, hgd]
      simp only [hw, if_true]
      left
      have hx : (execOp a1.eval o).run P w1 = .ok (.value v) w2 := by
        have he : execOp a1.eval o = (do pure (.value (← Instr.alloc p.1 true (.tuple #[])))) := by simp [execOp, hop]
        rw [he, run_ok_bind hrun]
        rfl
      unfold Oper.wp
      rw [hx]
      refine hput v w2 _ S1 hrel (stp_fill hI.stp hI.rel hadd hnone (by omega)) (fwd_fill hI.rel hadd hnone) (by rw [hV]; exact hvr) (Runs.drop hE hruns) fun j oj p' hj hLj hne hp' => ?_
      obtain ⟨q1, q2⟩ := hI.pend j oj p' hj hLj hp'
      refine ⟨q1, ?_⟩
      simp only [upd]
      rw [if_neg (fun h => hne (rk_inj hj hp' ho hp (by omega)))]
      exact q2
    · rw [hlo] at k4
      injection k4 with k4
      subst k4
      simp only [List.append_nil] at k2 k3
      have hsee : ∀ t, t < nt → (∀ k o', ops[k]? = some o' → o'.dst = some t → k ≠ i → ordered (Region.before ops).toList i k = true) → VR w1 ρ1 S1.heap (sig slots (dstTo ops i) (hist V i ++ tl) env t) (a1.tmps.getD t undef) := by
        intro t ht hord
        rw [sig_tl (dstTo_len (Nat.le_of_lt hil)) (hist_len V i)]
        rcases sig_to (slots := slots) (V := V) (env := env) (hu t) i (Nat.le_of_lt hil) with ⟨k, ok, hk, hok, hd, hsg⟩ | ⟨hn, hsg⟩
        · rw [hsg]
          have hLk := hanc k hk (hord k ok hok hd (by omega))
          rcases hI.slot t ht with ⟨k', o', hk', hLk', hd', hvr⟩ | ⟨hno, _⟩
          · have := hu t k k' ok o' hok hk' hd hd'
            subst this
            exact hvr
          · exact absurd hd (hno k ok hok hLk)
        · rw [hsg]
          rcases hI.slot t ht with ⟨k', o', hk', hLk', hd', hvr⟩ | ⟨hno, hvr⟩
          · exfalso
            have hki : ¬ k' < i := fun h => hn k' o' h hk' hd'
            have hne : k' ≠ i := fun e => hni (e ▸ hLk')
            exact hdesc k' (by omega) (hord k' o' hk' hd' hne) hLk'
          · exact hvr
      have hops : VL w1 ρ1 S1.heap (args.map (opd (hist V i ++ tl) env)) (xs.map a1.eval) := by
        refine opds_ok (fun g row hg => hI.rel.glob g row (by rw [hI.stp.hid, hG]; exact hkG g row hg)) hs hprev k2 fun t hmem ht => hsee t ht fun k o' hk hd hne => ?_
        rcases ((hdr i o ho).2 k o' t hk hd hne).2 with h | ⟨h, _⟩
        · exact h
        · obtain ⟨mt', k1⟩ := k1
          exact absurd hmem (h mt' l xs k1)
      have hguard : ∀ j b d b0, o.guard = some (j, b) → g = some (d, b0) → (∀ b', (hist V i ++ tl).getD d .undef = .bool b' → yielded ops a1.tmps j = some b') ∧ ((hist V i ++ tl).getD d .undef = .skip → yielded ops a1.tmps j = none) ∧ b0 = b := by
        intro j b d b0 hgd hg
        rw [hgd] at k3
        unfold lowGuard at k3
        simp only at k3
        split at k3
        · rename_i hj
          split at k3
          · rename_i t htt
            split at k3
            · rename_i hloc
              simp only [Option.some.injEq] at k3
              subst k3
              simp only [Option.some.injEq, Prod.mk.injEq] at hg
              obtain ⟨rfl, rfl⟩ := hg
              have hlen : ((ops.toList.take i).map (·.dst)).reverse.length = i := by
                rw [List.length_reverse, List.length_map, List.length_take, Array.length_toList]; omega
              rw [hlen] at hj htt hloc
              have hjl : j < ops.toList.length := by rw [Array.length_toList]; omega
              have hjd : (ops[j]?).bind (·.dst) = some t := by
                have h1 : ((ops.toList.take i).map (·.dst)).length = i := by rw [List.length_map, List.length_take, Array.length_toList]; omega
                rw [List.getD_eq_getElem?_getD, List.getElem?_reverse (by rw [h1]; omega), h1, show i - 1 - (i - 1 - j) = j by omega] at htt
                simp only [List.getElem?_map, List.getElem?_take] at htt
                rw [if_pos hj, List.getElem?_eq_getElem hjl] at htt
                have h2 : ops[j]? = some ops.toList[j] := by simp
                rw [h2]
                simpa using htt
              have htn : t < nt := by
                have := hprev _ (List.mem_of_getElem? (locOf_mem hloc))
                simpa [dstIn] using this
              have hvis := hsee t htn fun k o' hk hd hne => by
                obtain ⟨oj, hoj, hdj⟩ : ∃ oj, ops[j]? = some oj ∧ oj.dst = some t := by
                  cases hx : ops[j]? with
                  | none => simp [hx] at hjd
                  | some oj => exact ⟨oj, rfl, by simpa [hx] using hjd⟩
                rcases ((hdr i o ho).2 k o' t hk hd hne).2 with h | ⟨_, h⟩
                · exact h
                · exact absurd hdj (h j _ oj hgd hoj)
              refine ⟨fun b' hb' => ?_, fun hb' => ?_, rfl⟩
              · rw [hlen] at hb'
                exact guard_ok (b := b) hjd hloc hprev hvis hI.size hb'
              · rw [hlen] at hb'
                exact guard_skip hjd hloc hprev hvis hI.size hb'
            · simp at k3
          · simp at k3
        · simp at k3
      cases ht with
      | skip hg h1 h2 h3 =>
        have hE : E i = none := by simp only [E, hlo, hg]; simp
        have hw : Region.wanted o (yielded ops a1.tmps) = false := by
          cases hgd : o.guard with
          | none => rw [hgd] at k3; simp only [lowGuard, Option.some.injEq] at k3; subst k3; simp [onG] at hg
          | some jb =>
            obtain ⟨j, b2⟩ := jb
            cases hgg : g with
            | none => simp [hgg, onG] at hg
            | some db =>
              obtain ⟨d, b⟩ := db
              simp only [hgg, onG] at hg
              split at hg
              · rename_i b' hb'
                simp only [Option.some.injEq] at hg
                obtain ⟨hy, _, rfl⟩ := hguard j b2 d b hgd hgg
                have hy := hy b' hb'
                simp only [Region.wanted, hgd, hy]
                simpa using hg
              · rename_i hb'
                obtain ⟨_, hy, rfl⟩ := hguard j b2 d b hgd hgg
                have hy := hy hb'
                simp only [Region.wanted, hgd, hy]
                rfl
              · simp at hg
        unfold wpOp
        rw [ho]
        simp only [hw, Bool.false_eq_true, if_false]
        exact hput undef w1 ρ1 S1 hI.rel hI.stp (Stp.refl w1 ρ1 S1).fwd (by rw [h1]; exact .skip) (Runs.drop hE hruns) fun j oj p hj hLj _ hp => hI.pend j oj p hj hLj hp
      | run hg hh hF hok =>
        have hw : Region.wanted o (yielded ops a1.tmps) = true := by
          cases hgd : o.guard with
          | none => simp [Region.wanted, hgd]
          | some jb =>
            obtain ⟨j, b2⟩ := jb
            cases hgg : g with
            | none =>
              rw [hgd, hgg] at k3
              unfold lowGuard at k3
              simp only at k3
              split at k3
              · split at k3
                · split at k3 <;> simp at k3
                · simp at k3
              · simp at k3
            | some db =>
              obtain ⟨d, b⟩ := db
              simp only [hgg, onG] at hg
              split at hg
              · rename_i b' hb'
                simp only [Option.some.injEq] at hg
                obtain ⟨hy, _, rfl⟩ := hguard j b2 d b hgd hgg
                have hy := hy b' hb'
                simp only [Region.wanted, hgd, hy]
                simpa using hg
              · simp at hg
              · simp at hg
        have hE : E i = some ⟨l, args.map (opd (hist V i ++ tl) env), V i, W i⟩ := by simp only [E, hlo]; rw [if_pos ⟨hg, trivial⟩]
        obtain ⟨_, hFe, _, hokF, _⟩ := hother i _ _ hlo hE
        have hFh : (F i).hoist = none := by rw [hFe]; exact fpOf_hoist _ _ _ _
        have hpair : ∀ j, j < i → ∃ b, (b = true → L j) ∧ okPair b (F j) (F i) = true := by
          intro j hj
          obtain ⟨b, h1, h2⟩ := okFP_get hokF (i - 1 - j) (F j) (by rw [hist_get F i _ (by omega)]; congr 2; omega)
          refine ⟨b, fun hb => hbit j hj ?_, h2⟩
          have h3 := hist_get (fun k => ((Region.before ops).toList.getD i 0).testBit k) i (i - 1 - j) (by omega)
          have h4 : (ordOf (Region.before ops).toList i)[i - 1 - j]? = some (((Region.before ops).toList.getD i 0).testBit (i - 1 - (i - 1 - j))) := h3
          rw [h4, show i - 1 - (i - 1 - j) = j by omega] at h1
          injection h1 with h1
          rw [h1]; exact hb
        obtain ⟨S2, r1, r2, r3⟩ := Runs.front hclean hE hruns (fun j hj e' he' => by
          obtain ⟨hji, hnL⟩ := hpre j hj
          obtain ⟨lo', hlo', _⟩ := hT j (by omega)
          obtain ⟨_, hFj, _, _, _⟩ := hother j lo' e' hlo' he'
          obtain ⟨b, h1, h2⟩ := hpair j hji
          have hFjh : (F j).hoist = none := by rw [hFj]; exact fpOf_hoist _ _ _ _
          simp only [okPair, hFh, hFjh, Bool.or_eq_true] at h2
          rcases h2 with h2 | h2
          · exact absurd (h1 h2) hnL
          · rw [hFj, hFe] at h2; exact h2)
        unfold wpOp
        rw [ho]
        simp only [hw, if_true]
        left
        refine exOp_ok hcall (by rw [hI.stp.hid]; exact hG) k1.choose_spec hops hI.rel r1 ?_
        rintro v w2 ⟨ρ2, q1, q2, q3, _⟩
        refine hput v w2 ρ2 S2 q1 (hI.stp.trans q2) q2.fwd q3 r3 fun j oj p hj hLj hne hp => ?_
        obtain ⟨p1, p2⟩ := hI.pend j oj p hj hLj hp
        obtain ⟨_, _, _, hFjh, hokj⟩ := hhoist j oj p hj hp
        have hsame : S2.heap[S.heap.length + rk P ops j]? = some (newsObj p) := by
          cases hwr : (F i).writes with
          | none =>
            rw [hFe] at hwr
            refine r2 hwr _ p (rk_get hj hp) fun hd => ?_
            obtain ⟨d, f, d1, d2, d3⟩ := doneFP_get hd
            have hdl : d < i := by have := lt_of_some d2; rw [hist_len] at this; exact this
            rw [hist_get F i d hdl] at d2
            injection d2 with d2
            subst d2
            have d4 : (ordOf (Region.before ops).toList i)[d]? = some (((Region.before ops).toList.getD i 0).testBit (i - 1 - d)) := hist_get (fun k => ((Region.before ops).toList.getD i 0).testBit k) i d hdl
            rw [d4] at d1
            injection d1 with d1
            have hLd := hbit (i - 1 - d) (by omega) d1
            obtain ⟨lo', hlo', ht'⟩ := hT (i - 1 - d) (by omega)
            have hod : ops[i - 1 - d]? = some ops[i - 1 - d] := Array.getElem?_eq_getElem (by omega)
            cases hpd : newOf P ops[i - 1 - d] with
            | some p' =>
              obtain ⟨_, _, _, hh', _⟩ := hhoist (i - 1 - d) _ p' hod hpd
              rw [hh'] at d3
              injection d3 with d3
              have := rk_inj hod hpd hj hp (by omega)
              exact hLj (this ▸ hLd)
            | none =>
              have hnh : (F (i - 1 - d)).hoist = none := by
                rcases hget (i - 1 - d) ops[i - 1 - d] (by simp) with ⟨p', q1', _⟩ | ⟨_, l', xs', args', g', _, _, _, q4'⟩
                · rw [hpd] at q1'; cases q1'
                · rw [hlo'] at q4'
                  injection q4' with q4'
                  cases ht' with
                  | skip hg' h1' h2' h3' => rw [h3']; rfl
                  | run hg' hh' hF' hok' => rw [hF', q4']; exact fpOf_hoist _ _ _ _
              rw [hnh] at d3
              cases d3
          | some Wr =>
            have hap : apartW (S.heap.length + rk P ops j) (F i).writes = true := by
              rcases Nat.lt_trichotomy j i with h | h | h
              · obtain ⟨b, h1, h2⟩ := hpair j h
                simp only [okPair, hFjh, hFh, Bool.or_eq_true] at h2
                rcases h2 with h2 | h2
                · exact absurd (h1 h2) hLj
                · exact h2
              · exact absurd h hne
              · obtain ⟨b, h1, h2⟩ := okFP_get hokj (j - 1 - i) (F i) (by rw [hist_get F j _ (by omega)]; congr 2; omega)
                simp only [okPair, hFjh, hFh] at h2
                exact h2
            rw [hwr] at hap
            have hap : S.heap.length + rk P ops j ∉ Wr := by simpa [apartW] using hap
            rw [← p1]
            rcases fp_cases r1 with ⟨R, W', eff, _, hw', rfl, hin, _⟩ | hall
            · have : W' = Wr := by
                rw [hFe] at hwr
                have hw2 : (Ev.fp ⟨l, args.map (opd (hist V i ++ tl) env), V i, W i⟩).writes = some W' := hw'
                rw [hw2] at hwr
                injection hwr
              subst this
              exact app_get hin hap
            · rw [hFe] at hwr
              have hall' : Ev.fp ⟨l, args.map (opd (hist V i ++ tl) env), V i, W i⟩ = fpAll (W i) := hall
              rw [hall'] at hwr
              cases hWi : W i with
              | true => rw [hWi] at hwr; cases hwr
              | false =>
                simp only [hWi] at r1
                rw [exOp_clean hclean r1]
        refine ⟨hsame, ?_⟩
        obtain ⟨o', ho', _, _, hv'⟩ := q2.obj _ _ p1
        rw [hsame] at ho'
        injection ho' with ho'
        subst ho'
        rw [(hv' rfl).1]
        exact p2
  · -- the end
    rintro L a1 w1 hall ⟨ρ1, S1, hI⟩
    have hSt : S' = S1 := by
      have h := hI.runs
      have : left ops.size L = [] := by
        unfold left
        rw [List.filter_eq_nil_iff]
        intro k hk
        rw [notB_iff]
        exact fun h => h (hall k (List.mem_range.1 hk))
      rw [this] at h
      exact h
    subst hSt
    have hslot := hI.slot
    refine hQ a1 w1 ρ1 hI.rel hI.stp ⟨hI.size, fun t ht => ?_⟩ hI.defers
    have hde : dstsOf ops.toList = dstTo ops ops.size := by unfold dstsOf dstTo; rw [List.take_of_length_le (by simp)]
    rw [hde, t4, sig_tl (dstTo_len (Nat.le_refl _)) (hist_len V _)]
    rcases sig_to (slots := slots) (V := V) (env := env) (hu t) ops.size (Nat.le_refl _) with ⟨k, ok, hk, hok, hd, hsg⟩ | ⟨hn, hsg⟩
    · rw [hsg]
      rcases hslot t ht with ⟨k', o', hk', hLk', hd', hvr⟩ | ⟨hno, _⟩
      · have := hu t k k' ok o' hok hk' hd hd'
        subst this
        exact hvr
      · exact absurd hd (hno k ok hok (hall k hk))
    · rw [hsg]
      rcases hslot t ht with ⟨k', o', hk', hLk', hd', hvr⟩ | ⟨hno, hvr⟩
      · exact absurd hd' (hn k' o' (Array.getElem?_eq_some_iff.1 hk').1 hk')
      · exact hvr
end
end Go.Proofs.YtcogjcplldpkaaaGreat

namespace Go.Proofs.YtcogjcplldpkaaaGreat
open Go.RowKit
set_option linter.unusedVariables false
set_option linter.unusedSimpArgs false

def exOf : LExit → Exit
 | .normal => .normal
 | .ret => .ret
 | .exit i => .exit i

def CQ (w : World) (ρ : RMap) (S : St) (slots : List Nat) (nt : Nat) (df : List Deferred) (e : LExit) (env' : List D) (S' : St) (ex : Exit) (a' : Act) (w' : World) : Prop :=
 ∃ ρ', exOf e = ex ∧ Rel w' ρ' S'.heap ∧ Stp w ρ S w' ρ' S' ∧ FR w' ρ' S'.heap nt (sig slots [] [] env') a' ∧ a'.defers = df ∧ env'.length = slots.length

section
variable {P : Program} {call : CallF} {kd : Kd} {nt : Nat} {slots : List Nat} {N : Nat}

theorem code_ok {G : Nat → Option (List D)} (hkG : ∀ g row, kd.glob g = some row → G g = some row) (hm : P.follows .mixedOrders = true) (hcall : CallOK P G call) (hclean : CallClean call) (hs : slots.all (· < nt) = true) :
    ∀ (c : Code) (lc : LCode) (env : List D) (S : St) (e : LExit) (env' : List D) (S' : St) (a : Act) (w : World) (ρ : RMap) (Q : Exit → Act → World → Prop), lowCode P kd nt slots c = some lc → exCode call N lc env S = some (e, env', S') → env.length = slots.length → Rel w ρ S.heap → ρ.X.G = G → FR w ρ S.heap nt (sig slots [] [] env) a →
      (∀ ex a' w', CQ w ρ S slots nt a.defers e env' S' ex a' w' → Q ex a' w') → c.wp P Q a w := by
  intro c
  induction c with
  | skip =>
    intro lc env S e env' S' a w ρ Q hl hx hlen hr hG hf hQ
    simp only [lowCode, Option.some.injEq] at hl
    subst hl
    simp only [exCode, Option.some.injEq, Prod.mk.injEq] at hx
    obtain ⟨rfl, rfl, rfl⟩ := hx
    exact wp_skip (hQ _ _ _ ⟨ρ, rfl, hr, Stp.refl _ _ _, hf, rfl, hlen⟩)
  | ret =>
    intro lc env S e env' S' a w ρ Q hl hx hlen hr hG hf hQ
    simp only [lowCode, Option.some.injEq] at hl
    subst hl
    simp only [exCode, Option.some.injEq, Prod.mk.injEq] at hx
    obtain ⟨rfl, rfl, rfl⟩ := hx
    exact wp_ret (hQ _ _ _ ⟨ρ, rfl, hr, Stp.refl _ _ _, hf, rfl, hlen⟩)
  | exit i =>
    intro lc env S e env' S' a w ρ Q hl hx hlen hr hG hf hQ
    simp only [lowCode, Option.some.injEq] at hl
    subst hl
    simp only [exCode, Option.some.injEq, Prod.mk.injEq] at hx
    obtain ⟨rfl, rfl, rfl⟩ := hx
    exact wp_exit (hQ _ _ _ ⟨ρ, rfl, hr, Stp.refl _ _ _, hf, rfl, hlen⟩)
  | region id ops draw =>
    intro lc env S e env' S' a w ρ Q hl hx hlen hr hG hf hQ
    simp only [lowCode, lowRegion] at hl
    cases draw with
    | false =>
      simp only [Bool.false_eq_true, if_false, Option.map_eq_some_iff] at hl
      obtain ⟨los, hlos, rfl⟩ := hl
      simp only [exCode] at hx
      split at hx
      · rename_i vals S1 hops
        simp only [Option.some.injEq, Prod.mk.injEq] at hx
        obtain ⟨rfl, rfl, rfl⟩ := hx
        refine wp_region ?_
        rw [List.range_eq_range', ← Array.length_toList]
        exact seq_ok hcall hkG hs ops.toList 0 [] [] los S vals S1 a w ρ (by simp) (by simp) (by simp) hlos hops hr hG hf fun a' w' ρ' h1 h2 h3 h4 => hQ _ _ _ ⟨ρ', rfl, h1, h2, h3.end_ hlen, h4, by rw [exports_len]; exact hlen⟩
      · simp at hx
    | true =>
      simp only [if_true] at hl
      split at hl
      · rename_i hdr
        simp only [Option.map_eq_some_iff] at hl
        obtain ⟨los, hlos, rfl⟩ := hl
        simp only [exCode] at hx
        split at hx
        · rename_i vals S1 hops
          simp only [Option.some.injEq, Prod.mk.injEq] at hx
          obtain ⟨rfl, rfl, rfl⟩ := hx
          exact draw_ok hkG hm hcall hclean hs hdr hlos hops hr hG hf fun a' w' ρ' h1 h2 h3 h4 => hQ _ _ _ ⟨ρ', rfl, h1, h2, h3.end_ hlen, h4, by rw [exports_len]; exact hlen⟩
        · simp at hx
      · simp at hl
  | seq x y ihx ihy =>
    intro lc env S e env' S' a w ρ Q hl hx hlen hr hG hf hQ
    simp only [lowCode] at hl
    split at hl
    · rename_i lx ly hlx hly
      simp only [Option.some.injEq] at hl
      subst hl
      simp only [exCode] at hx
      refine wp_seq ?_
      cases hex : exCode call N lx env S with
      | none => simp [hex] at hx
      | some q =>
        obtain ⟨e1, env1, S1⟩ := q
        rw [hex] at hx
        refine ihx lx env S e1 env1 S1 a w ρ _ hlx hex hlen hr hG hf ?_
        rintro ex a' w' ⟨ρ', h1, h2, h3, h4, h5, h6⟩
        cases e1 with
        | normal =>
          simp only at hx
          simp only [exOf] at h1
          subst h1
          refine ihy ly env1 S1 e env' S' a' w' ρ' Q hly hx h6 h2 (by rw [h3.hid]; exact hG) h4 ?_
          rintro ex a2 w2 ⟨ρ2, k1, k2, k3, k4, k5, k6⟩
          exact hQ _ _ _ ⟨ρ2, k1, k2, h3.trans k3, k4, k5.trans h5, k6⟩
        | ret =>
          simp only [Option.some.injEq, Prod.mk.injEq] at hx
          obtain ⟨rfl, rfl, rfl⟩ := hx
          simp only [exOf] at h1
          subst h1
          exact hQ _ _ _ ⟨ρ', rfl, h2, h3, h4, h5, h6⟩
        | exit i =>
          simp only [Option.some.injEq, Prod.mk.injEq] at hx
          obtain ⟨rfl, rfl, rfl⟩ := hx
          simp only [exOf] at h1
          subst h1
          exact hQ _ _ _ ⟨ρ', rfl, h2, h3, h4, h5, h6⟩
    · simp at hl
  | cond c x y ihx ihy =>
    intro lc env S e env' S' a w ρ Q hl hx hlen hr hG hf hQ
    simp only [lowCode] at hl
    split at hl
    · rename_i z lx ly hz hlx hly
      simp only [Option.some.injEq] at hl
      subst hl
      have hc : VR w ρ S.heap (opd [] env z) (a.eval c) := opd_ok (fun g row hg => hr.glob g row (by rw [hG]; exact hkG g row hg)) hz hs (by simp) fun t ht => hf.2 t (tmp_in (ht ▸ hz) hs (by simp))
      simp only [exCode] at hx
      split at hx
      · rename_i hb
        rw [hb] at hc
        generalize hv : a.eval c = v at hc
        cases hc
        exact wp_cond_true hv (ihx lx env S e env' S' a w ρ Q hlx hx hlen hr hG hf hQ)
      · rename_i hb
        rw [hb] at hc
        generalize hv : a.eval c = v at hc
        cases hc
        exact wp_cond_false hv (ihy ly env S e env' S' a w ρ Q hly hx hlen hr hG hf hQ)
      · simp at hx
    · simp at hl
  | block i c ih =>
    intro lc env S e env' S' a w ρ Q hl hx hlen hr hG hf hQ
    simp only [lowCode, Option.map_eq_some_iff] at hl
    obtain ⟨lc, hlc, rfl⟩ := hl
    simp only [exCode] at hx
    refine wp_block ?_
    cases hex : exCode call N lc env S with
    | none => simp [hex] at hx
    | some q =>
      obtain ⟨e1, env1, S1⟩ := q
      rw [hex] at hx
      refine ih lc env S e1 env1 S1 a w ρ _ hlc hex hlen hr hG hf ?_
      rintro ex a' w' ⟨ρ', h1, h2, h3, h4, h5, h6⟩
      cases e1 with
      | normal =>
        simp only [Option.some.injEq, Prod.mk.injEq] at hx
        obtain ⟨rfl, rfl, rfl⟩ := hx
        simp only [exOf] at h1
        subst h1
        exact hQ _ _ _ ⟨ρ', rfl, h2, h3, h4, h5, h6⟩
      | ret =>
        simp only [Option.some.injEq, Prod.mk.injEq] at hx
        obtain ⟨rfl, rfl, rfl⟩ := hx
        simp only [exOf] at h1
        subst h1
        exact hQ _ _ _ ⟨ρ', rfl, h2, h3, h4, h5, h6⟩
      | exit j =>
        simp only [exOf] at h1
        subst h1
        simp only at hx
        simp only [Exit.inBlock]
        split at hx
        · rename_i hj
          rw [if_pos hj]
          simp only [Option.some.injEq, Prod.mk.injEq] at hx
          obtain ⟨rfl, rfl, rfl⟩ := hx
          exact hQ _ _ _ ⟨ρ', rfl, h2, h3, h4, h5, h6⟩
        · rename_i hj
          rw [if_neg hj]
          simp only [Option.some.injEq, Prod.mk.injEq] at hx
          obtain ⟨rfl, rfl, rfl⟩ := hx
          exact hQ _ _ _ ⟨ρ', rfl, h2, h3, h4, h5, h6⟩
  | loop c ih =>
    intro lc env S e env' S' a w ρ Q hl hx hlen hr hG hf hQ
    simp only [lowCode, Option.map_eq_some_iff] at hl
    obtain ⟨lc, hlc, rfl⟩ := hl
    simp only [exCode] at hx
    have key : ∀ (n : Nat) (env : List D) (S : St) (a : Act) (w : World) (ρ : RMap), loopN (exCode call N lc) n env S = some (e, env', S') → env.length = slots.length → Rel w ρ S.heap → ρ.X.G = G → FR w ρ S.heap nt (sig slots [] [] env) a → (∀ ex a' w', CQ w ρ S slots nt a.defers e env' S' ex a' w' → Q ex a' w') → Code.rounds P c Q n a w := by
      intro n
      induction n with
      | zero => intro env S a w ρ hx; simp [loopN] at hx
      | succ n ihn =>
        intro env S a w ρ hx hlen hr hG hf hQ
        rw [rounds_succ]
        simp only [loopN] at hx
        cases hex : exCode call N lc env S with
        | none => simp [hex] at hx
        | some q =>
          obtain ⟨e1, env1, S1⟩ := q
          rw [hex] at hx
          refine ih lc env S e1 env1 S1 a w ρ _ hlc hex hlen hr hG hf ?_
          rintro ex a' w' ⟨ρ', h1, h2, h3, h4, h5, h6⟩
          cases e1 with
          | normal =>
            simp only at hx
            simp only [exOf] at h1
            subst h1
            refine ihn env1 S1 a' w' ρ' hx h6 h2 (by rw [h3.hid]; exact hG) h4 ?_
            rintro ex a2 w2 ⟨ρ2, k1, k2, k3, k4, k5, k6⟩
            exact hQ _ _ _ ⟨ρ2, k1, k2, h3.trans k3, k4, k5.trans h5, k6⟩
          | ret =>
            simp only [Option.some.injEq, Prod.mk.injEq] at hx
            obtain ⟨rfl, rfl, rfl⟩ := hx
            simp only [exOf] at h1
            subst h1
            exact hQ _ _ _ ⟨ρ', rfl, h2, h3, h4, h5, h6⟩
          | exit i =>
            simp only [Option.some.injEq, Prod.mk.injEq] at hx
            obtain ⟨rfl, rfl, rfl⟩ := hx
            simp only [exOf] at h1
            subst h1
            exact hQ _ _ _ ⟨ρ', rfl, h2, h3, h4, h5, h6⟩
    exact wp_loop_rounds N (key N env S a w ρ hx hlen hr hG hf hQ)
  | rangeFunc => intro lc env S e env' S' a w ρ Q hl hx; simp only [lowCode, Option.some.injEq] at hl; subst hl; simp [exCode] at hx
  | scope c ih =>
    intro lc env S e env' S' a w ρ Q hl hx hlen hr hG hf hQ
    simp only [lowCode] at hl
    refine wp_scope_straight (ih lc env S e env' S' a w ρ _ hl hx hlen hr hG hf ?_)
    intro ex a' w' hc
    have hq := hQ ex a' w' hc
    obtain ⟨ρ', h1, _⟩ := hc
    cases e <;> simp only [exOf] at h1 <;> subst h1 <;> exact hq
  | label =>
    intro lc env S e env' S' a w ρ Q hl hx hlen hr hG hf hQ
    simp only [lowCode, Option.some.injEq] at hl
    subst hl
    simp only [exCode, Option.some.injEq, Prod.mk.injEq] at hx
    obtain ⟨rfl, rfl, rfl⟩ := hx
    exact wp_label (hQ _ _ _ ⟨ρ, rfl, hr, Stp.refl _ _ _, hf, rfl, hlen⟩)
  | goto => intro lc env S e env' S' a w ρ Q hl hx; simp only [lowCode, Option.some.injEq] at hl; subst hl; simp [exCode] at hx
  | refuse => intro lc env S e env' S' a w ρ Q hl hx; simp only [lowCode, Option.some.injEq] at hl; subst hl; simp [exCode] at hx
end

/-! results -/
theorem mapM_get {α β : Type} {f : α → Option β} : ∀ {l : List α} {l' : List β}, l.mapM f = some l' → l'.length = l.length ∧ ∀ (i : Nat) (x : α), l[i]? = some x → ∃ y, l'[i]? = some y ∧ f x = some y
 | [], l', h => by
  simp only [List.mapM_nil, Option.pure_def, Option.some.injEq] at h
  subst h
  exact ⟨rfl, fun i x hx => by simp at hx⟩
 | a :: l, l', h => by
  simp only [List.mapM_cons, Option.pure_def, Option.bind_eq_bind, Option.bind_eq_some_iff, Option.some.injEq] at h
  obtain ⟨y, hy, ys, hys, rfl⟩ := h
  obtain ⟨h1, h2⟩ := mapM_get hys
  refine ⟨by simp [h1], fun i x hx => ?_⟩
  cases i with
  | zero => simp at hx; subst hx; exact ⟨y, rfl, hy⟩
  | succ i => simpa using h2 i x (by simpa using hx)
theorem snapD_msl (m : Nat) (H : List AObj) (k g v lo n : Nat) (cap : Option Nat) : snapD m H (k + 1) (.msl g v lo n cap) = match H[g]? with
  | some o => if o.ver = v ∧ m ≤ g ∧ o.kind = 0 then (match ((o.rows.drop lo).take n).mapM (fun r => r.mapM (snapD m H k)) with
    | some rows => if rows.all (fun r => r.all D.free) then some (.sl o.sz rows (match cap with | some c => some c | none => if o.grow then none else some (o.rows.length - lo))) else none
    | none => none) else snap m H (.msl g v lo n cap)
  | none => none := rfl
theorem snapD_other (m : Nat) (H : List AObj) (k : Nat) {d : D} (h : ∀ g v lo n cap, d ≠ .msl g v lo n cap) : snapD m H k d = snap m H d := by
 cases k with
 | zero => rfl
 | succ k => cases d <;> first | rfl | exact absurd rfl (h _ _ _ _ _)
theorem snap_cell {m : Nat} {H : List AObj} {d r : D} (h : snap m H d = some r) : ((∀ cs, d ≠ .agg cs) → ∀ cs, r ≠ .agg cs) ∧ ((∀ cs, d ≠ .tup cs) → ∀ cs, r ≠ .tup cs) := by
 unfold snap at h
 repeat' (first | (simp at h; done) | (split at h))
 all_goals
  simp only [Option.some.injEq] at h
  subst h
  first
   | exact ⟨fun h => h, fun h => h⟩
   | exact ⟨fun _ cs h => (by cases h), fun _ cs h => (by cases h)⟩
theorem snapD_cell {m : Nat} {H : List AObj} {k : Nat} {d r : D} (h : snapD m H k d = some r) : ((∀ cs, d ≠ .agg cs) → ∀ cs, r ≠ .agg cs) ∧ ((∀ cs, d ≠ .tup cs) → ∀ cs, r ≠ .tup cs) := by
  by_cases hm : ∃ g v lo n cap, d = .msl g v lo n cap
  · obtain ⟨g, v, lo, n, cap, rfl⟩ := hm
    cases k with
    | zero => exact snap_cell h
    | succ k =>
      rw [snapD_msl] at h
      cases hg : H[g]? with
      | none => rw [hg] at h; simp at h
      | some o =>
        rw [hg] at h
        simp only at h
        by_cases hc : o.ver = v ∧ m ≤ g ∧ o.kind = 0
        · rw [if_pos hc] at h
          cases hr : ((o.rows.drop lo).take n).mapM (fun r => r.mapM (snapD m H k)) with
          | none => rw [hr] at h; simp at h
          | some rows =>
            rw [hr] at h
            simp only at h
            rw [Option.ite_none_right_eq_some] at h
            obtain ⟨_, h⟩ := h
            simp only [Option.some.injEq] at h
            subst h
            exact ⟨fun _ cs h => (by cases h), fun _ cs h => (by cases h)⟩
        · rw [if_neg hc] at h
          exact snap_cell h
  · rw [snapD_other m H k (fun g v lo n cap he => hm ⟨g, v, lo, n, cap, he⟩)] at h
    exact snap_cell h
theorem freeV_cell {r : D} (h : ∀ cs, r ≠ .agg cs) (hf : r.freeV = true) : r.free = true := by
 cases r <;> first | exact hf | exact absurd rfl (h _)
theorem freeR_val {r : D} (h : ∀ cs, r ≠ .tup cs) (hf : r.freeR = true) : r.freeV = true := by
 cases r <;> first | exact hf | exact absurd rfl (h _)
def resSem (tmps : Array Value) : ResultVar → Sem Value
 | .tmp t => pure (tmps.getD t undef)
 | .cell a t => do loadVar t (← asAddr (tmps.getD a undef))
theorem results_eq (fn : Func) (tmps : Array Value) : results fn tmps = (do let vs ← fn.results.mapM (resSem tmps); pure (if h : vs.size = 1 then vs[0] else .tuple vs)) := by
 unfold results
 congr 1
section
variable {P : Program} {w : World} {ρ : RMap} {S : St}
theorem res_ok {nt : Nat} {slots : List Nat} {env : List D} {a : Act} (hr : Rel w ρ S.heap) (hs : slots.all (· < nt) = true) (hf : FR w ρ S.heap nt (sig slots [] [] env) a) : ∀ {rs : List ResultVar} {ls : List LRes} {ds : List D}, lowRes P slots rs = some ls → resDs env S ls = some ds →
    ∃ vs, (rs.mapM (resSem a.tmps)).run P w = .ok vs w ∧ VL w ρ S.heap ds vs
  | [], ls, ds, hl, hd => by
    simp only [lowRes, Option.some.injEq] at hl
    subst hl
    simp only [resDs, Option.some.injEq] at hd
    subst hd
    exact ⟨[], by simp, .nil⟩
  | .tmp t :: rs, ls, ds, hl, hd => by
    simp only [lowRes] at hl
    split at hl
    · rename_i j m hj hm
      simp only [Option.some.injEq] at hl
      subst hl
      simp only [resDs, resD] at hd
      split at hd
      · rename_i x y hx hy
        simp only [Option.some.injEq] at hd hx
        subst hd hx
        obtain ⟨vs, h1, h2⟩ := res_ok hr hs hf hm hy
        have ht : t < nt := by
          have := List.all_eq_true.1 hs t (List.mem_of_getElem? (idxOf_mem hj))
          simpa using this
        have h3 := hf.2 t ht
        unfold sig at h3
        simp only [locOf, hj] at h3
        exact ⟨a.tmps.getD t undef :: vs, by rw [List.mapM_cons, run_ok_bind (a := a.tmps.getD t undef) (w' := w) rfl, run_ok_bind h1]; rfl, .cons h3 h2⟩
      · simp at hd
    · simp at hl
  | .cell ad t :: rs, ls, ds, hl, hd => by
    simp only [lowRes] at hl
    split at hl
    · rename_i j n m hj hn hm
      simp only [Option.some.injEq] at hl
      subst hl
      simp only [resDs, resD] at hd
      split at hd
      · rename_i x y hx hy
        simp only [Option.some.injEq] at hd
        subst hd
        obtain ⟨vs, h1, h2⟩ := res_ok hr hs hf hm hy
        have ht : ad < nt := by
          have := List.all_eq_true.1 hs ad (List.mem_of_getElem? (idxOf_mem hj))
          simpa using this
        have h3 := hf.2 ad ht
        unfold sig at h3
        simp only [locOf, hj] at h3
        obtain ⟨v, h4, h5⟩ := load_ok (P := P) hr h3 hx hn rfl
        have h6 : (resSem a.tmps (.cell ad t)).run P w = .ok v w := by
          rw [← h4]
          show (do loadVar t (← asAddr (a.tmps.getD ad undef)) : Sem Value).run P w = _
          generalize a.tmps.getD ad undef = u at h3 ⊢
          generalize env.getD j .undef = du at h3 hx
          unfold loadD at hx
          split at hx
          · cases h3; simp [Instr.loadAt, Instr.sureAddr, asAddr]
          · cases h3; simp [Instr.loadAt, Instr.sureAddr, asAddr]
          · simp at hx
        exact ⟨v :: vs, by rw [List.mapM_cons, run_ok_bind h6, run_ok_bind h1]; rfl, .cons h5 h2⟩
      · simp at hd
    · simp at hl
theorem results_ok {nt : Nat} {slots : List Nat} {env : List D} {a : Act} {fn : Func} {ls : List LRes} {r : D} (hr : Rel w ρ S.heap) (hs : slots.all (· < nt) = true) (hf : FR w ρ S.heap nt (sig slots [] [] env) a) (hl : lowRes P slots fn.results.toList = some ls) (hd : resultD env S ls = some r) :
  ∃ v, (results fn a.tmps).run P w = .ok v w ∧ VR w ρ S.heap r v := by
 unfold resultD at hd
 cases hds : resDs env S ls with
 | none => simp [hds] at hd
 | some ds =>
  obtain ⟨vs, h1, h2⟩ := res_ok (P := P) hr hs hf hl hds
  have hrun : (results fn a.tmps).run P w = .ok (if h : vs.toArray.size = 1 then vs.toArray[0] else .tuple vs.toArray) w := by
   rw [results_eq]
   have e : fn.results = fn.results.toList.toArray := by simp
   rw [e, List.mapM_toArray]
   have : (List.toArray <$> fn.results.toList.mapM (resSem a.tmps)).run P w = .ok vs.toArray w := by
    rw [map_eq_pure_bind, run_ok_bind h1]
    rfl
   rw [run_ok_bind this]
   rfl
  refine ⟨_, hrun, ?_⟩
  have hlen := h2.len
  rw [hds] at hd
  split at hd
  ·
   rename_i x hx
   simp only [Option.some.injEq] at hd hx
   subst hd hx
   cases h2 with
   | cons h t => cases t with
    | nil => simpa using h
  ·
   rename_i xs hne hxs
   simp only [Option.some.injEq] at hd hxs
   subst hd hxs
   have h1 : ¬ vs.toArray.size = 1 := by
    intro h
    simp only [List.size_toArray] at h
    rw [hlen] at h
    obtain ⟨x, hx⟩ := List.length_eq_one_iff.1 h
    exact hne x (by rw [hx])
   rw [dif_neg h1]
   exact .tup ds vs hlen (fun j d v => h2.get)
  ·
   rename_i h; simp at h

/-! calls -/
theorem Stp.relow {w' : World} {ρ' : RMap} {n : Nat} {S2 : St} (h : Stp w ρ ⟨S.heap, n⟩ w' ρ' S2) : Stp w ρ S w' ρ' ⟨S2.heap, min S.low S2.low⟩ :=
 ⟨h.hid, h.os, h.tape, h.output, h.size, Nat.min_le_left _ _, h.out, h.imm, fun g b o ho hg hb => h.keep g b o ho (Nat.lt_of_lt_of_le hg (Nat.min_le_right _ _)) hb, fun g o ho => by
  obtain ⟨o', h1, h2, h3, h4⟩ := h.obj g o ho
  exact ⟨o', h1, h2, fun hg => h3 (Nat.lt_of_lt_of_le hg (Nat.min_le_right _ _)), h4⟩⟩
theorem Stp.clean {w' : World} {ρ' : RMap} {S2 : St} (hr : Rel w ρ S.heap) (h : Stp w ρ ⟨S.heap, S.heap.length⟩ w' ρ' S2) (hlow : S.heap.length ≤ S2.low) : Stp w ρ S w' ρ S :=
 ⟨rfl, h.os, h.tape, h.output, h.size, Nat.le_refl _, fun b hb hg => ⟨(h.out b hb hg).1, hg⟩, fun b q hi => ⟨(h.imm b q hi).1, Nat.lt_of_lt_of_le hi.1 h.size, hi.2⟩,
  fun g b o ho hg hb => h.keep g b o ho (Nat.lt_of_lt_of_le (lt_of_some ho) hlow) hb, fun g o ho => ⟨o, ho, ⟨Nat.le_refl _, rfl⟩, fun _ => rfl, fun _ => ⟨rfl, rfl, rfl, Nat.le_refl _, fun b cur hb hc => ⟨cur, (h.keep g b o ho (Nat.lt_of_lt_of_le (lt_of_some ho) hlow) hb).trans hc, rfl⟩⟩⟩⟩
section
variable {w' : World} {ρ' : RMap} {S2 : St} (hr : Rel w ρ S.heap) (hr2 : Rel w' ρ' S2.heap) (h : Stp w ρ ⟨S.heap, S.heap.length⟩ w' ρ' S2) (hlow : S.heap.length ≤ S2.low)
include hr h hlow
theorem leave_map {g b : Nat} (hb : ρ g = some b) : g < S.heap.length ∧ ρ' g = some b ∧ S2.heap[g]? = S.heap[g]? := by
 have hg := hr.in hb
 obtain ⟨o', h1, h2, h3, h4⟩ := h.obj g S.heap[g] (List.getElem?_eq_getElem hg)
 have := h3 (Nat.lt_of_lt_of_le hg hlow)
 subst this
 exact ⟨hg, by rw [(h4 rfl).1]; exact hb, by rw [h1, List.getElem?_eq_getElem hg]⟩
theorem leave_imm {b q : Nat} (hi : Imm w' ρ' S2.heap b q) : Imm w' ρ S.heap b q :=
 ⟨hi.1, by rw [← h.hid]; exact hi.2.1, fun g hg => by
  obtain ⟨_, h1, h2⟩ := leave_map hr h hlow hg
  rw [← h2]
  exact hi.2.2 g h1⟩
theorem leave_out : ∀ b es c, w'.heap[b]? = some (.map es c) → (∀ g, ρ' g ≠ some b) → ¬ ρ'.X b 0 → w'.heap[b]? = w'.heap[b]? ∧ (∀ g, ρ g ≠ some b) ∧ ¬ ρ.X b 0 :=
 fun b _ _ _ hg hx => ⟨rfl, fun g hb => hg g (leave_map hr h hlow hb).2.1, by rw [← h.hid]; exact hx⟩
include hr2
theorem snap_leave {d r : D} {v : Value} (hv : VR w' ρ' S2.heap d v) (hs : snap S.heap.length S2.heap d = some r) (hf : r.free = true) : VR w' ρ S.heap r v := by
  unfold snap at hs
  split at hs
  · rename_i g ver lo n cap
    cases hv with
    | msl _ _ _ _ _ A c ob hnc hcap hg hver hk3 hcur =>
      simp only [hg] at hs
      split at hs
      · rename_i hk
        simp only [Option.some.injEq] at hs
        subst hs
        obtain ⟨b, hρ, hlo, hA, hcp⟩ := hcur hk.1
        obtain ⟨o1, ho1, cur, hc, hz, ⟨cc, hcc, hcl, hcm, hcg⟩, hl, hkk, hh⟩ := hr2.cel hρ hg hk3
        rw [hg] at ho1
        injection ho1 with ho1
        subst ho1
        have hlen : ((ob.rows.drop lo).take n).length = n := by simp; omega
        have hcell : ∀ i r' j d, ((ob.rows.drop lo).take n)[i]? = some r' → r'[j]? = some d → w'.cell? ⟨b, lo * ob.sz + i * ob.sz + j, none⟩ = some (cur.getD ((lo + i) * ob.sz + j) undef) ∧ Imm w' ρ S.heap b (lo * ob.sz + i * ob.sz + j) ∧ d.free = true ∧ VR w' ρ' S2.heap d (cur.getD ((lo + i) * ob.sz + j) undef) := by
          intro i r' j d hi hj
          obtain ⟨h1, h2⟩ := drop_take_get hi
          obtain ⟨h3, h4, v, hv1, hv2⟩ := hh _ r' j d h1 hj
          obtain ⟨h5, h6⟩ := Array.getElem?_eq_some_iff.1 hv1
          have hg1 : cur.getD ((lo + i) * ob.sz + j) undef = v := by simp [Array.getD, h5, h6]
          rw [hg1]
          refine ⟨?_, ⟨lt_of_heap hc, fun hx => (hr2.hid _ _ (by rw [h.hid]; exact hx)).2 g hρ, fun g' hg' => ?_⟩, h4 (by omega), hv2⟩
          · rw [cell_of_row w' b _ cur ob.elem (0, 0) hc, ← hv1]
            congr 1
            rw [Nat.add_mul]
          · obtain ⟨q1, q2, q3⟩ := leave_map hr h hlow hg'
            have := hr2.inj g' g b q2 hρ
            subst this
            rcases hk.2 with hk1 | hk1
            · refine ⟨ob, by rw [← q3]; exact hg, hk1, ?_⟩
              have h7 : j < ob.sz := by rw [← hl r' (List.mem_of_getElem? h1)]; exact lt_of_some hj
              have h8 : lo + i < ob.rows.length := lt_of_some h1
              have := row_in h8 h7
              rwa [Nat.add_mul] at this
            · omega
        refine .sl ob.sz _ _ A n c hlen.symm hnc (fun k hk' => ?_) (fun r hr' => hl r (mem_drop_take hr')) b (lo * ob.sz) (fun i j => cur.getD ((lo + i) * ob.sz + j) undef) (fun hne => hA ?_) (fun i r' j d hi hj => ?_) (fun i r' j d hi hj => ?_)
        · cases cap with
          | some c' => simp only [Option.some.injEq] at hk'; subst hk'; exact hcap _ rfl
          | none =>
            simp only at hk'
            split at hk'
            · simp at hk'
            · rename_i hgr
              simp only [Option.some.injEq] at hk'
              obtain ⟨cur', hc1, hc2⟩ := hcp rfl
              rw [hc] at hc1
              injection hc1 with hc1
              injection hc1 with hc1
              subst hc1
              have h1 := hcg (by simpa using hgr)
              rw [hcc] at hc2
              have := Nat.eq_of_mul_eq_mul_right hz hc2
              omega
        · left
          intro h0
          subst h0
          simp at hne
        · obtain ⟨q1, q2, q3, _⟩ := hcell i r' j d hi hj
          exact ⟨q1, q2, q3⟩
        · obtain ⟨_, _, q3, q4⟩ := hcell i r' j d hi hj
          exact q4.free_mono (fun b q hi => ⟨rfl, leave_imm hr h hlow hi⟩) (leave_out hr h hlow) q3
      · simp only [Option.some.injEq] at hs
        subst hs
        simp [D.free, D.free0] at hf
  · rename_i g ver
    split at hs
    · rename_i hmg
      cases hv with
      | mref _ _ b ob hg hver hcur =>
        simp only [hg] at hs
        split at hs
        · rename_i hk
          simp only [Option.some.injEq] at hs
          subst hs
          have hρ := hcur hk.1
          obtain ⟨es, clock, hc, hsz, hl, hall⟩ := hr2.map hρ hg hk.2.1 hk.2.2
          have hval : ∀ i, i < ob.rows.length → ∃ e, es[i]? = some e ∧ e.key = ((es[i]?).map (·.key)).getD undef ∧ e.val = ((es[i]?).map (·.val)).getD undef := by
            intro i hi
            have hie : i < es.size := by omega
            exact ⟨es[i], Array.getElem?_eq_getElem hie, by simp [hie], by simp [hie]⟩
          refine .mp ob.rows b clock es (fun i j => if j = 0 then ((es[i]?).map (·.key)).getD undef else ((es[i]?).map (·.val)).getD undef) hc (fun hx => (hr2.hid _ _ (by rw [h.hid]; exact hx)).2 g hρ) (fun g' hg' => ?_) hsz hl (fun i hi => ?_) (fun i r' j d hi hj => ?_) (fun i r' j d hi hj => ?_)
          · obtain ⟨q1, q2, _⟩ := leave_map hr h hlow hg'
            have := hr2.inj g' g b q2 hρ
            omega
          · obtain ⟨e, h1, h2, h3⟩ := hval i hi
            exact ⟨e, h1, by simpa using h2, by simpa using h3⟩
          · obtain ⟨e, k, v, h1, h2, h3, h4, _, _⟩ := hall i r' hi
            subst h2
            match j, hj with
            | 0, hj => simp at hj; subst hj; exact h3
            | 1, hj => simp at hj; subst hj; exact h4
          · obtain ⟨e, k, v, h1, h2, h3, h4, h5, h6⟩ := hall i r' hi
            subst h2
            match j, hj with
            | 0, hj =>
              simp at hj
              subst hj
              simp only [if_true, h1, Option.map_some, Option.getD_some]
              exact h5.freeV_mono (fun b q hi => ⟨rfl, leave_imm hr h hlow hi⟩) (leave_out hr h hlow) h3.1
            | 1, hj =>
              simp at hj
              subst hj
              simp only [Nat.one_ne_zero, if_false, h1, Option.map_some, Option.getD_some]
              exact h6.freeV_mono (fun b q hi => ⟨rfl, leave_imm hr h hlow hi⟩) (leave_out hr h hlow) h4.1
        · simp only [Option.some.injEq] at hs
          subst hs
          simp [D.free, D.free0] at hf
    · simp only [Option.some.injEq] at hs
      subst hs
      simp [D.free, D.free0] at hf
  · simp only [Option.some.injEq] at hs
    subst hs
    exact hv.free_mono (fun b q hi => ⟨rfl, leave_imm hr h hlow hi⟩) (leave_out hr h hlow) hf
theorem snaps_leave : ∀ {ds rs : List D} {vs : List Value}, VL w' ρ' S2.heap ds vs → snaps S.heap.length S2.heap ds = some rs → rs.all D.free = true → VL w' ρ S.heap rs vs
 | [], rs, _, .nil, hs, _ => by simp only [snaps, Option.some.injEq] at hs; subst hs; exact .nil
 | d :: ds, rs, _, .cons hd ht, hs, hf => by
  unfold snaps at hs
  split at hs
  ·
   rename_i x y hx hy
   simp only [Option.some.injEq] at hs
   subst hs
   simp only [List.all_cons, Bool.and_eq_true] at hf
   exact .cons (snap_leave hr hr2 h hlow hd hx hf.1) (snaps_leave ht hy hf.2)
  ·
   simp at hs
theorem snapV_leave {d r : D} {v : Value} (hv : VR w' ρ' S2.heap d v) (hs : snapV S.heap.length S2.heap d = some r) (hf : r.freeV = true) : VR w' ρ S.heap r v := by
 unfold snapV at hs
 split at hs
 ·
  simp only [Option.map_eq_some_iff] at hs
  obtain ⟨rs, hrs, rfl⟩ := hs
  cases hv with
  | agg _ vs hl hc hh =>
   have h1 := snaps_leave hr hr2 h hlow (VL.of hl hh) hrs hf
   exact .agg rs vs h1.len (List.all_eq_true.2 fun x hx => free_cell (List.all_eq_true.1 hf x hx)) (fun j d v => h1.get)
 ·
  rename_i hna
  refine snap_leave hr hr2 h hlow hv hs ?_
  unfold D.freeV at hf
  split at hf
  ·
   rename_i cs
   unfold snap at hs
   repeat' (first | (simp at hs; done) | (split at hs))
   all_goals try (simp at hs; done)
   all_goals
    simp only [Option.some.injEq] at hs
    subst hs
    exact absurd rfl (hna cs)
  ·
   exact hf
theorem snapVs_leave : ∀ {ds rs : List D} {vs : List Value}, VL w' ρ' S2.heap ds vs → snapVs S.heap.length S2.heap ds = some rs → rs.all D.freeV = true → VL w' ρ S.heap rs vs
 | [], rs, _, .nil, hs, _ => by simp only [snapVs, Option.some.injEq] at hs; subst hs; exact .nil
 | d :: ds, rs, _, .cons hd ht, hs, hf => by
  unfold snapVs at hs
  split at hs
  ·
   rename_i x y hx hy
   simp only [Option.some.injEq] at hs
   subst hs
   simp only [List.all_cons, Bool.and_eq_true] at hf
   exact .cons (snapV_leave hr hr2 h hlow hd hx hf.1) (snapVs_leave ht hy hf.2)
  ·
   simp at hs
theorem snapR_leave {d r : D} {v : Value} (hv : VR w' ρ' S2.heap d v) (hs : snapR S.heap.length S2.heap d = some r) (hf : r.freeR = true) : VR w' ρ S.heap r v := by
 unfold snapR at hs
 split at hs
 ·
  simp only [Option.map_eq_some_iff] at hs
  obtain ⟨rs, hrs, rfl⟩ := hs
  cases hv with
  | tup _ vs hl hh =>
   have h1 := snapVs_leave hr hr2 h hlow (VL.of hl hh) hrs hf
   exact .tup rs vs h1.len (fun j d v => h1.get)
 ·
  rename_i hna
  refine snapV_leave hr hr2 h hlow hv hs ?_
  unfold D.freeR at hf
  split at hf
  ·
   rename_i cs
   unfold snapV at hs
   split at hs
   ·
    simp at hs
   ·
    unfold snap at hs
    repeat' (first | (simp at hs; done) | (split at hs))
    all_goals try (simp at hs; done)
    all_goals
     simp only [Option.some.injEq] at hs
     subst hs
     exact absurd rfl (hna cs)
  ·
   exact hf
theorem snapD_leave : ∀ (k : Nat) {d r : D} {v : Value}, VR w' ρ' S2.heap d v → snapD S.heap.length S2.heap k d = some r → r.free = true → VR w' ρ S.heap r v
  | 0, d, r, v, hv, hs, hf => snap_leave hr hr2 h hlow hv (by simpa only [snapD] using hs) hf
  | k + 1, d, r, v, hv, hs, hf => by
    by_cases hm : ∃ g v lo n cap, d = .msl g v lo n cap
    · obtain ⟨g, ver, lo, n, cap, rfl⟩ := hm
      rw [snapD_msl] at hs
      cases hv with
      | msl _ _ _ _ _ A c ob hnc hcap hg hver hk3 hcur =>
        simp only [hg] at hs
        by_cases hk : ob.ver = ver ∧ S.heap.length ≤ g ∧ ob.kind = 0
        · rw [if_pos hk] at hs
          cases hrows : ((ob.rows.drop lo).take n).mapM (fun r => r.mapM (snapD S.heap.length S2.heap k)) with
          | none => rw [hrows] at hs; simp at hs
          | some rows =>
              rw [hrows] at hs
              simp only at hs
              rw [Option.ite_none_right_eq_some] at hs
              obtain ⟨hall, hs⟩ := hs
              simp only [Option.some.injEq] at hs
              subst hs
              obtain ⟨b, hρ, hlo, hA, hcp⟩ := hcur hk.1
              obtain ⟨o1, ho1, cur, hc, hz, ⟨cc, hcc, hcl, hcm, hcg⟩, hl, hkk, hh⟩ := hr2.cel hρ hg hk3
              rw [hg] at ho1
              injection ho1 with ho1
              subst ho1
              obtain ⟨m1, m2⟩ := mapM_get hrows
              have hlen : ((ob.rows.drop lo).take n).length = n := by simp; omega
              have back : ∀ (i : Nat) (r' : List D), rows[i]? = some r' → ∃ r0, ((ob.rows.drop lo).take n)[i]? = some r0 ∧ r'.length = r0.length ∧ ∀ (j : Nat) (d' : D), r'[j]? = some d' → ∃ d0, r0[j]? = some d0 ∧ snapD S.heap.length S2.heap k d0 = some d' := by
                intro i r' hi
                have hil : i < ((ob.rows.drop lo).take n).length := by rw [← m1]; exact lt_of_some hi
                obtain ⟨r1, h1, h2⟩ := m2 i _ (List.getElem?_eq_getElem hil)
                rw [hi] at h1
                injection h1 with h1
                subst h1
                obtain ⟨m3, m4⟩ := mapM_get h2
                refine ⟨_, List.getElem?_eq_getElem hil, m3, fun j d' hj => ?_⟩
                have hjl : j < ((ob.rows.drop lo).take n)[i].length := by rw [← m3]; exact lt_of_some hj
                obtain ⟨d1, h3, h4⟩ := m4 j _ (List.getElem?_eq_getElem hjl)
                rw [hj] at h3
                injection h3 with h3
                subst h3
                exact ⟨_, List.getElem?_eq_getElem hjl, h4⟩
              have hfree : ∀ (i : Nat) (r' : List D) (j : Nat) (d' : D), rows[i]? = some r' → r'[j]? = some d' → d'.free = true := by
                intro i r' j d' hi hj
                have := List.all_eq_true.1 hall r' (List.mem_of_getElem? hi)
                exact List.all_eq_true.1 this d' (List.mem_of_getElem? hj)
              have hcell : ∀ (i : Nat) (r' : List D) (j : Nat) (d' : D), rows[i]? = some r' → r'[j]? = some d' → w'.cell? ⟨b, lo * ob.sz + i * ob.sz + j, none⟩ = some (cur.getD ((lo + i) * ob.sz + j) undef) ∧ Imm w' ρ S.heap b (lo * ob.sz + i * ob.sz + j) ∧ VR w' ρ S.heap d' (cur.getD ((lo + i) * ob.sz + j) undef) := by
                intro i r' j d' hi hj
                obtain ⟨r0, h1, h2, h3⟩ := back i r' hi
                obtain ⟨d0, h4, h5⟩ := h3 j d' hj
                obtain ⟨h6, h7⟩ := drop_take_get h1
                obtain ⟨q1, q2, v, hv1, hv2⟩ := hh _ r0 j d0 h6 h4
                obtain ⟨h8, h9⟩ := Array.getElem?_eq_some_iff.1 hv1
                have hg1 : cur.getD ((lo + i) * ob.sz + j) undef = v := by simp [Array.getD, h8, h9]
                rw [hg1]
                refine ⟨?_, ⟨lt_of_heap hc, fun hx => (hr2.hid _ _ (by rw [h.hid]; exact hx)).2 g hρ, fun g' hg' => ?_⟩, snapD_leave k hv2 h5 (hfree i r' j d' hi hj)⟩
                · rw [cell_of_row w' b _ cur ob.elem (0, 0) hc, ← hv1]
                  congr 1
                  rw [Nat.add_mul]
                · obtain ⟨q1, q2, q3⟩ := leave_map hr h hlow hg'
                  have := hr2.inj g' g b q2 hρ
                  omega
              refine .sl ob.sz _ _ A n c (by rw [m1, hlen]) hnc (fun k hk' => ?_) (fun r' hr' => ?_) b (lo * ob.sz) (fun i j => cur.getD ((lo + i) * ob.sz + j) undef) (fun hne => hA ?_) (fun i r' j d' hi hj => ?_) (fun i r' j d' hi hj => (hcell i r' j d' hi hj).2.2)
              · cases cap with
                | some c' => simp only [Option.some.injEq] at hk'; subst hk'; exact hcap _ rfl
                | none =>
                  simp only at hk'
                  split at hk'
                  · simp at hk'
                  · rename_i hgr
                    simp only [Option.some.injEq] at hk'
                    obtain ⟨cur', hc1, hc2⟩ := hcp rfl
                    rw [hc] at hc1
                    injection hc1 with hc1
                    injection hc1 with hc1
                    subst hc1
                    have h1 := hcg (by simpa using hgr)
                    rw [hcc] at hc2
                    have := Nat.eq_of_mul_eq_mul_right hz hc2
                    omega
              · obtain ⟨i, hi, rfl⟩ := List.mem_iff_getElem.1 hr'
                obtain ⟨r0, h1, h2, _⟩ := back i _ (List.getElem?_eq_getElem hi)
                rw [h2]
                exact hl r0 (mem_drop_take (List.mem_of_getElem? h1))
              · left
                intro h0
                apply hne
                apply List.eq_nil_of_length_eq_zero
                rw [m1, hlen, h0]
              · exact ⟨(hcell i r' j d' hi hj).1, (hcell i r' j d' hi hj).2.1, hfree i r' j d' hi hj⟩
        · rw [if_neg hk] at hs
          exact snap_leave hr hr2 h hlow (.msl _ _ _ _ _ A c ob hnc hcap hg hver hk3 hcur) hs hf
    · rw [snapD_other _ _ _ (fun g v lo n cap he => hm ⟨g, v, lo, n, cap, he⟩)] at hs
      exact snap_leave hr hr2 h hlow hv hs hf
theorem snapDV_leave {d r : D} {v : Value} (hv : VR w' ρ' S2.heap d v) (hs : snapDV S.heap.length S2.heap d = some r) (hf : r.freeV = true) : VR w' ρ S.heap r v := by
  unfold snapDV at hs
  split at hs
  · rename_i cs
    simp only [Option.map_eq_some_iff] at hs
    obtain ⟨cs', h1, rfl⟩ := hs
    obtain ⟨m1, m2⟩ := mapM_get h1
    cases hv with
    | agg _ vs hl hc hh =>
      simp only [D.freeV, List.all_eq_true] at hf
      have hx : ∀ (j : Nat) (d : D) (v : Value), cs'[j]? = some d → vs[j]? = some v → VR w' ρ S.heap d v := by
        intro j d v hj hvj
        have hjl : j < cs.length := by rw [← m1]; exact lt_of_some hj
        obtain ⟨y, h3, h4⟩ := m2 j _ (List.getElem?_eq_getElem hjl)
        rw [hj] at h3
        injection h3 with h3
        subst h3
        exact snapD_leave hr hr2 h hlow 6 (hh j _ v (List.getElem?_eq_getElem hjl) hvj) h4 (hf d (List.mem_of_getElem? hj))
      exact .agg cs' vs (by rw [hl, m1]) (List.all_eq_true.2 fun d hd => free_cell (hf d hd)) hx
  · rename_i hn
    exact snapD_leave hr hr2 h hlow 6 hv hs (freeV_cell ((snapD_cell hs).1 fun cs he => hn cs he) hf)
theorem snapDR_leave {d r : D} {v : Value} (hv : VR w' ρ' S2.heap d v) (hs : snapDR S.heap.length S2.heap d = some r) (hf : r.freeR = true) : VR w' ρ S.heap r v := by
 unfold snapDR at hs
 split at hs
 ·
  rename_i ds
  simp only [Option.map_eq_some_iff] at hs
  obtain ⟨ds', h1, rfl⟩ := hs
  obtain ⟨m1, m2⟩ := mapM_get h1
  cases hv with
  | tup _ vs hl hh =>
   simp only [D.freeR, List.all_eq_true] at hf
   refine .tup ds' vs (by rw [hl, m1]) fun j d v hj hvj => ?_
   have hjl : j < ds.length := by rw [← m1]; exact lt_of_some hj
   obtain ⟨y, h3, h4⟩ := m2 j _ (List.getElem?_eq_getElem hjl)
   rw [hj] at h3
   injection h3 with h3
   subst h3
   exact snapDV_leave hr hr2 h hlow (hh j _ v (List.getElem?_eq_getElem hjl) hvj) h4 (hf d (List.mem_of_getElem? hj))
 ·
  rename_i hn
  refine snapDV_leave hr hr2 h hlow hv hs (freeR_val (fun cs => ?_) hf)
  unfold snapDV at hs
  split at hs
  ·
   simp only [Option.map_eq_some_iff] at hs
   obtain ⟨_, _, rfl⟩ := hs
   intro he; cases he
  ·
   exact (snapD_cell hs).2 (fun cs he => hn cs he) cs
end
theorem leaveD_ok {w' : World} {ρ' : RMap} {S2 S' T : St} {r0 r : D} {v : Value} {wr : Bool} (hr : Rel w ρ S.heap) (hr2 : Rel w' ρ' S2.heap) (h : Stp w ρ ⟨S.heap, S.heap.length⟩ w' ρ' S2) (hv : VR w' ρ' S2.heap r0 v) (hl : leaveD S T r0 S2 = some (r, S', wr)) : S' = T ∧ wr = false ∧ r.freeR = true ∧ OpPost w ρ S r S false v w' := by
 unfold leaveD at hl
 split at hl
 ·
  rename_i hlow
  split at hl
  ·
   rename_i r1 hs
   split at hl
   ·
    rename_i hf
    simp only [Option.some.injEq, Prod.mk.injEq] at hl
    obtain ⟨rfl, rfl, rfl⟩ := hl
    have hst := h.clean hr hlow
    refine ⟨rfl, rfl, hf, ρ, ⟨hr.inj, fun g b hb => ?_, hr.hids hst, hr.globs hst⟩, hst, snapDR_leave hr hr2 h hlow hv hs hf, fun _ => ⟨⟨h.os, h.tape, h.output, h.size, fun b hb => ?_⟩, rfl, rfl⟩⟩
    ·
     obtain ⟨o, ho, hk⟩ := hr.obj g b hb
     exact ⟨o, ho, hk.mono hst (h.keep g b o ho (Nat.lt_of_lt_of_le (lt_of_some ho) hlow) hb)⟩
    ·
     by_cases hex : ∃ g, ρ g = some b
     ·
      obtain ⟨g, hg⟩ := hex
      obtain ⟨o, ho, _⟩ := hr.obj g b hg
      exact h.keep g b o ho (Nat.lt_of_lt_of_le (lt_of_some ho) hlow) hg
     ·
      exact (h.out b hb fun g hg => hex ⟨g, hg⟩).1
   ·
    simp at hl
  ·
   simp at hl
 ·
  simp at hl
theorem leave_ok {w' : World} {ρ' : RMap} {S2 S' : St} {raw : Bool} {r0 r : D} {v : Value} {wr : Bool} (hr : Rel w ρ S.heap) (hr2 : Rel w' ρ' S2.heap) (h : Stp w ρ ⟨S.heap, S.heap.length⟩ w' ρ' S2) (hv : VR w' ρ' S2.heap r0 v) (hl : leave raw S r0 S2 = some (r, S', wr)) : OpPost w ρ S r S' wr v w' := by
  unfold leave at hl
  split at hl
  · simp only [Option.some.injEq, Prod.mk.injEq] at hl
    obtain ⟨rfl, rfl, rfl⟩ := hl
    exact ⟨ρ', hr2, h.relow, hv, by simp⟩
  · split at hl
    · rename_i r' hc
      simp only [Option.some.injEq, Prod.mk.injEq] at hl
      obtain ⟨rfl, rfl, rfl⟩ := hl
      split at hc
      · rename_i hlow
        split at hc
        · rename_i r1 hs
          split at hc
          · rename_i hf
            simp only [Option.some.injEq] at hc
            subst hc
            have hst := h.clean hr hlow
            refine ⟨ρ, ⟨hr.inj, fun g b hb => ?_, hr.hids hst, hr.globs hst⟩, hst, snapR_leave hr hr2 h hlow hv hs hf, fun _ => ⟨⟨h.os, h.tape, h.output, h.size, fun b hb => ?_⟩, rfl, rfl⟩⟩
            · obtain ⟨o, ho, hk⟩ := hr.obj g b hb
              exact ⟨o, ho, hk.mono hst (h.keep g b o ho (Nat.lt_of_lt_of_le (lt_of_some ho) hlow) hb)⟩
            · by_cases hex : ∃ g, ρ g = some b
              · obtain ⟨g, hg⟩ := hex
                obtain ⟨o, ho, _⟩ := hr.obj g b hg
                exact h.keep g b o ho (Nat.lt_of_lt_of_le (lt_of_some ho) hlow) hg
              · exact (h.out b hb fun g hg => hex ⟨g, hg⟩).1
          · simp at hc
        · simp at hc
      · simp at hc
    · split at hl
      · rename_i r' hs
        simp only [Option.some.injEq, Prod.mk.injEq] at hl
        obtain ⟨rfl, rfl, rfl⟩ := hl
        exact ⟨ρ', hr2, h.relow, snapR_ok hr2 (Nat.le_refl _) hv hs, by simp⟩
      · simp at hl
end

def FnsOK (P : Program) (G : Nat → Option (List D)) (L : Prg) : Prop := ∀ f F, L.fns f = some F → ∃ fn kd slots, P.funcs[f]? = some fn ∧ lowFn P kd slots fn = some F ∧ ∀ g row, kd.glob g = some row → G g = some row
def ExtOK (P : Program) (G : Nat → Option (List D)) (ext : FuncId → List D → Option D) : Prop :=
 ∀ f ds r, ext f ds = some r → ∀ (S : St) w (ρ : RMap) vs, ρ.X.G = G → Rel w ρ S.heap → VL w ρ S.heap ds vs →
  (callFunc f vs.toArray).run P w = .ok (.enter f vs.toArray) w ∧ Calls P f vs.toArray w fun e w' => ∃ v, e = .returned v ∧ OpPost w ρ S r S false v w'
theorem ext_nil {P : Program} {G : Nat → Option (List D)} : ExtOK P G fun _ _ => none := fun f ds r h => by cases h
def PrgOK (P : Program) (G : Nat → Option (List D)) (L : Prg) : Prop := FnsOK P G L ∧ ExtOK P G L.ext

theorem run_clean (L : Prg) (N : Nat) : ∀ d, CallClean (runF L N d)
 | 0 => fun f ds S r S' h => by simp [runF] at h
 | d + 1 => fun f ds S r S' h => by
  simp only [runF] at h
  split at h
  ·
   simp only [Option.some.injEq, Prod.mk.injEq] at h
   exact h.2.1.symm
  repeat' (first | (simp at h; done) | (split at h))
  all_goals try (simp at h; done)
  all_goals
   first | unfold leaveD at h | unfold leaveP at h | unfold leave at h
   repeat' (first | (simp at h; done) | (split at h))
   all_goals first
    | (simp at h; done)
    | (simp only [Option.some.injEq, Prod.mk.injEq] at h; exact h.2.1.symm)

/-! a call on the empty heap -/
theorem VR.freeR_mono {w w' : World} {ρ ρ' : RMap} {H H' : List AObj} (hi : ∀ b q, Imm w ρ H b q → w'.cell? ⟨b, q, none⟩ = w.cell? ⟨b, q, none⟩ ∧ Imm w' ρ' H' b q) (ho : ∀ b es c, w.heap[b]? = some (.map es c) → (∀ g, ρ g ≠ some b) → ¬ ρ.X b 0 → w'.heap[b]? = w.heap[b]? ∧ (∀ g, ρ' g ≠ some b) ∧ ¬ ρ'.X b 0) {d : D} {v : Value} (h : VR w ρ H d v) (hf : d.freeR = true) : VR w' ρ' H' d v := by
 unfold D.freeR at hf
 split at hf
 ·
  cases h with
  | tup _ vs hl hh => exact .tup _ vs hl fun j d v h1 h2 => (hh j d v h1 h2).freeV_mono hi ho (List.all_eq_true.1 hf d (List.mem_of_getElem? h1))
 ·
  exact h.freeV_mono hi ho hf
def hide (ρ : RMap) (H : List AObj) : RMap := ⟨fun _ => none, ⟨fun b q => ρ.X b q ∨ ∃ g, ρ g = some b ∧ ¬ ∃ o, H[g]? = some o ∧ o.kind = 1 ∧ q < o.rows.length * o.sz, ρ.X.G⟩⟩
theorem hide_in {w : World} {ρ : RMap} {H : List AObj} {d : D} {v : Value} (h : VR w ρ H d v) (hf : d.freeV = true) : VR w (hide ρ H) [] d v := by
  refine h.freeV_mono (fun b q hi => ⟨rfl, hi.1, fun hx => ?_, fun g h => (by cases h)⟩) (fun b es c hb hg hx => ⟨rfl, fun g h => (by cases h), fun hx' => ?_⟩) hf
  · rcases hx with hx | ⟨g, hg, hn⟩
    · exact hi.2.1 hx
    · exact hn (hi.2.2 g hg)
  · rcases hx' with hx' | ⟨g, hg', _⟩
    · exact hx hx'
    · exact hg g hg'
theorem hide_rel {w : World} {ρ : RMap} {H : List AObj} (hr : Rel w ρ H) : Rel w (hide ρ H) [] :=
 ⟨fun g g' b h => (by cases h), fun g b h => (by cases h), fun b q hx => ⟨(by
  rcases hx with hx | ⟨g, hg, _⟩
  ·
   exact (hr.hid b q hx).1
  ·
   exact hr.lt hg), fun g h => (by cases h)⟩, fun g row hg => hide_in (hr.glob g row hg) rfl⟩
theorem hide_out {w : World} {ρ : RMap} {H : List AObj} (hr : Rel w ρ H) {d : D} {v : Value} (h : VR w (hide ρ H) [] d v) (hf : d.freeR = true) : VR w ρ H d v := by
 have key : ∀ b q, ¬ (hide ρ H).X b q → ¬ ρ.X b q ∧ ∀ g, ρ g = some b → ∃ o, H[g]? = some o ∧ o.kind = 1 ∧ q < o.rows.length * o.sz := by
  intro b q hx
  refine ⟨fun h => hx (.inl h), fun g hg => ?_⟩
  exact Classical.byContradiction fun hn => hx (.inr ⟨g, hg, hn⟩)
 refine h.freeR_mono (fun b q hi => ⟨rfl, hi.1, key b q hi.2.1⟩) (fun b es c hb hg hx => ⟨rfl, fun g hg' => ?_, (key b 0 hx).1⟩) hf
 obtain ⟨o, ho, hk, _⟩ := (key b 0 hx).2 g hg'
 obtain ⟨o', ho', hok⟩ := hr.obj g b hg'
 rw [ho] at ho'
 injection ho' with ho'
 subst ho'
 obtain ⟨cur, hc, _⟩ := hok.1 (by omega)
 rw [hb] at hc
 cases hc

theorem run_ok {P : Program} {G : Nat → Option (List D)} {L : Prg} (hm : P.follows .mixedOrders = true) (hL : PrgOK P G L) (N : Nat) : ∀ d, CallOK P G (runF L N d)
 | 0 => fun f ds S r S' wr h => by simp [runF] at h
 | d + 1 => by
  have ih := run_ok hm hL N d
  intro f ds S r S' wr h w ρ vs hG hr hv
  simp only [runF] at h
  by_cases hE : (L.ext f ds).isSome = true
  ·
   obtain ⟨r0, hE⟩ := Option.isSome_iff_exists.1 hE
   simp only [hE, Option.some.injEq, Prod.mk.injEq] at h
   obtain ⟨rfl, rfl, rfl⟩ := h
   exact hL.2 f ds _ hE _ w ρ vs hG hr hv
  replace hE : L.ext f ds = none := by simpa using hE
  simp only [hE] at h
  cases hF : L.fns f with
  | none => simp [hF] at h
  | some F =>
   simp only [hF] at h
   obtain ⟨fn, kd, slots, hfn, hlow, hkG⟩ := hL.1 f F hF
   unfold lowFn at hlow
   cases hb : fn.body with
   | none => simp [hb] at hlow
   | some c =>
    simp only [hb] at hlow
    split at hlow
    ·
     rename_i lc ls hlc hls
     split at hlow
     ·
      simp at hlow
     ·
      rename_i hname
      split at hlow
      ·
       rename_i hsl
       simp only [Bool.and_eq_true, decide_eq_true_eq] at hsl
       obtain ⟨hsl, hle⟩ := hsl
       simp only [Option.some.injEq] at hlow
       subst hlow
       split at h
       ·
        simp at h
       ·
        rename_i args' hargs
        have hva : VL w ρ S.heap args' vs := by
         split at hargs
         ·
          simp only [Option.some.injEq] at hargs; subst hargs; exact hv
         ·
          exact snapVs_ok hr (Nat.le_refl _) hv hargs
        simp only [ne_eq, ite_not] at h
        split at h
        ·
         rename_i hlen
         have body : ∀ (ρ0 : RMap) (S0 S2 : St) (e : LExit) (env' : List D) (r0 : D) (Post : Value → World → Prop), ρ0.X.G = G → Rel w ρ0 S0.heap → VL w ρ0 S0.heap args' vs → exCode (runF L N d) N lc (slots.map fun s => args'.getD s .undef) ⟨S0.heap, S0.heap.length⟩ = some (e, env', S2) → (e = .normal ∨ e = .ret) → resultD env' S2 ls = some r0 →
           (∀ w' ρ' v, Rel w' ρ' S2.heap → Stp w ρ0 ⟨S0.heap, S0.heap.length⟩ w' ρ' S2 → VR w' ρ' S2.heap r0 v → Post v w') → (callFunc f vs.toArray).run P w = .ok (.enter f vs.toArray) w ∧ Calls P f vs.toArray w fun e w' => ∃ v, e = .returned v ∧ Post v w' := by
          intro ρ0 S0 S2 e env' r0 Post hG0 hr hva hex he hr0 hpost
          have hnm : (fn.name == "runtime.NumGoroutine") = false := by simpa using hname
          refine ⟨by simp [callFunc, hfn, hname, hb], ?_⟩
          refine calls_of_wp hfn hb ?_
          have hvl := hva.len
          have hnt : fn.params.size + fn.nfree = vs.length := by rw [hvl, hlen]
          have hfr : FR w ρ0 S0.heap fn.ntmps (sig slots [] [] (slots.map fun s => args'.getD s .undef)) { tmps := vs.toArray ++ Array.replicate (fn.ntmps - vs.toArray.size) undef, defers := [] } := by
           refine ⟨by simp; omega, fun t ht => ?_⟩
           unfold sig
           simp only [locOf]
           cases hj : idxOf slots t with
           | none => exact .undef _
           | some j =>
            have hm := idxOf_mem hj
            simp only [List.getD, List.getElem?_map, hm, Option.map_some, Option.getD_some]
            by_cases htl : t < vs.length
            ·
             have h1 : args'[t]? = some (args'[t]'(by omega)) := List.getElem?_eq_getElem (by omega)
             have h2 : (vs.toArray ++ Array.replicate (fn.ntmps - vs.toArray.size) undef).getD t undef = vs[t] := by
              rw [Array.getD_eq_getD_getElem?, Array.getElem?_append_left (by simpa using htl)]
              simp [htl]
             rw [h1, h2]
             exact hva.get h1 (List.getElem?_eq_getElem htl)
            ·
             rw [List.getElem?_eq_none (by omega)]
             exact .undef _
          refine code_ok hkG hm ih (run_clean L N d) hsl c lc _ ⟨S0.heap, S0.heap.length⟩ e env' S2 _ w ρ0 _ hlc hex (by simp) hr hG0 hfr ?_
          rintro ex a' w' ⟨ρ', h1, h2, h3, h4, h5, h6⟩
          obtain ⟨v, h7, h8⟩ := results_ok (P := P) h2 hsl h4 hls hr0
          have hp := hpost w' ρ' v h2 h3 h8
          rcases he with rfl | rfl
          ·
           simp only [exOf] at h1
           subst h1
           exact ⟨h5, v, h7, v, rfl, hp⟩
          ·
           simp only [exOf] at h1
           subst h1
           exact ⟨h5, v, h7, v, rfl, hp⟩
         split at h
         ·
          rename_i hpure
          simp only [Bool.and_eq_true] at hpure
          cases hex : exCode (runF L N d) N lc (slots.map fun s => args'.getD s .undef) ⟨[], 0⟩ with
          | none => rw [hex] at h; simp at h
          | some q =>
           obtain ⟨e, env', S2⟩ := q
           simp only [hex] at h
           have hne : (e = .normal ∨ e = .ret) ∧ ∃ r0, resultD env' S2 ls = some r0 ∧ (if L.deep f then leaveD ⟨[], 0⟩ S r0 S2 else leaveP S r0 S2) = some (r, S', wr) := by
            cases e with
            | exit i => simp at h
            | normal =>
             refine ⟨.inl rfl, ?_⟩
             simp only at h
             split at h
             ·
              simp at h
             ·
              rename_i r0 hr0; exact ⟨r0, hr0, h⟩
            | ret =>
             refine ⟨.inr rfl, ?_⟩
             simp only at h
             split at h
             ·
              simp at h
             ·
              rename_i r0 hr0; exact ⟨r0, hr0, h⟩
           obtain ⟨he, r0, hr0, hleave⟩ := hne
           have hr0' := hide_rel hr
           have key : r.freeR = true ∧ S' = S ∧ wr = false ∧ ∃ S3, ∀ w' ρ' v, Rel w' ρ' S2.heap → Stp w (hide ρ S.heap) ⟨[], 0⟩ w' ρ' S2 → VR w' ρ' S2.heap r0 v → OpPost w (hide ρ S.heap) ⟨[], 0⟩ r S3 false v w' := by
            split at hleave
            ·
             have h0 := hleave
             unfold leaveD at h0
             split at h0
             ·
              split at h0
              ·
               split at h0
               ·
                rename_i hfree
                simp only [Option.some.injEq, Prod.mk.injEq] at h0
                obtain ⟨rfl, rfl, rfl⟩ := h0
                exact ⟨hfree, rfl, rfl, _, fun w' ρ' v q1 q2 q3 => (leaveD_ok (S := ⟨[], 0⟩) hr0' q1 q2 q3 hleave).2.2.2⟩
               ·
                simp at h0
              ·
               simp at h0
             ·
              simp at h0
            ·
             unfold leaveP at hleave
             split at hleave
             ·
              rename_i r' S3 hl
              split at hleave
              ·
               rename_i hfree
               simp only [Option.some.injEq, Prod.mk.injEq] at hleave
               obtain ⟨rfl, rfl, rfl⟩ := hleave
               exact ⟨hfree, rfl, rfl, S3, fun w' ρ' v q1 q2 q3 => leave_ok (S := ⟨[], 0⟩) hr0' q1 q2 q3 hl⟩
              ·
               simp at hleave
             ·
              simp at hleave
           obtain ⟨hfree, rfl, rfl, S3, key⟩ := key
           refine body (hide ρ S'.heap) ⟨[], 0⟩ S2 e env' r0 _ (by simpa [hide] using hG) hr0' (VL.of hva.len fun j d v h1 h2 => hide_in (hva.get h1 h2) (List.all_eq_true.1 hpure.2 d (List.mem_of_getElem? h1))) hex he hr0 fun w' ρ' v q1 q2 q3 => ?_
           obtain ⟨ρ2, p1, p2, p3, p4⟩ := key w' ρ' v q1 q2 q3
           obtain ⟨hext, rfl, rfl⟩ := p4 rfl
           have hst : Stp w ρ S' w' ρ S' := ⟨rfl, q2.os, q2.tape, q2.output, q2.size, Nat.le_refl _, fun b hb hg => ⟨hext.block b hb, hg⟩, fun b q hi => ⟨cell_block (hext.block b hi.1) q, Nat.lt_of_lt_of_le hi.1 q2.size, hi.2⟩,
            fun g b o ho hg hb => hext.block b (hr.lt hb), fun g o ho => ⟨o, ho, ⟨Nat.le_refl _, rfl⟩, fun _ => rfl, fun _ => ⟨rfl, rfl, rfl, Nat.le_refl _, fun b cur hb hc => ⟨cur, (hext.block b (hr.lt hb)).trans hc, rfl⟩⟩⟩⟩
           have hrel : Rel w' ρ S'.heap := ⟨hr.inj, fun g b hb => by
            obtain ⟨o, ho, hk⟩ := hr.obj g b hb
            exact ⟨o, ho, hk.mono hst (hext.block b (hr.lt hb))⟩, hr.hids hst, hr.globs hst⟩
           exact ⟨ρ, hrel, hst, hide_out hrel p3 hfree, fun _ => ⟨hext, rfl, rfl⟩⟩
         ·
          cases hex : exCode (runF L N d) N lc (slots.map fun s => args'.getD s .undef) ⟨S.heap, S.heap.length⟩ with
          | none => rw [hex] at h; simp at h
          | some q =>
           obtain ⟨e, env', S2⟩ := q
           simp only [hex] at h
           have hne : (e = .normal ∨ e = .ret) ∧ ∃ r0, resultD env' S2 ls = some r0 ∧ (if L.deep f then leaveD S S r0 S2 else leave (L.raw f) S r0 S2) = some (r, S', wr) := by
            cases e with
            | exit i => simp at h
            | normal =>
             refine ⟨.inl rfl, ?_⟩
             simp only at h
             split at h
             ·
              simp at h
             ·
              rename_i r0 hr0; exact ⟨r0, hr0, h⟩
            | ret =>
             refine ⟨.inr rfl, ?_⟩
             simp only at h
             split at h
             ·
              simp at h
             ·
              rename_i r0 hr0; exact ⟨r0, hr0, h⟩
           obtain ⟨he, r0, hr0, hleave⟩ := hne
           refine body ρ S S2 e env' r0 _ hG hr hva hex he hr0 fun w' ρ' v q1 q2 q3 => ?_
           split at hleave
           ·
            obtain ⟨rfl, rfl, _, hp⟩ := leaveD_ok hr q1 q2 q3 hleave
            exact hp
           ·
            exact leave_ok hr q1 q2 q3 hleave
        ·
         simp at h
      ·
       simp at hlow
    ·
     simp at hlow
end Go.Proofs.YtcogjcplldpkaaaGreat

namespace Go.Proofs.YtcogjcplldpkaaaGreat
set_option linter.unusedVariables false
set_option linter.unusedSimpArgs false

def NN : Nat := 18446744073709551616
section
variable {call : CallF}
def CW (call : CallF) (c : LCode) (Q : LExit → List D → St → Prop) (env : List D) (S : St) : Prop :=
 ∃ e env' S', exCode call NN c env S = some (e, env', S') ∧ Q e env' S'
def OW (call : CallF) (ops : List LOper) (vals env : List D) (S : St) (K : List D → St → Prop) : Prop :=
 ∃ vals' S', exOps call ops vals env S = some (vals', S') ∧ K vals' S'
def DW (call : CallF) (n : Nat) (news : List (TypeId × List D)) (ops : List LOper) (fps : List FP) (vals env : List D) (S : St) (K : List D → St → Prop) : Prop :=
 ∃ vals' S', exDrw call n news ops fps vals env S = some (vals', S') ∧ K vals' S'

def SeqK (call : CallF) (b : LCode) (Q : LExit → List D → St → Prop) : LExit → List D → St → Prop
 | .normal, env, S => CW call b Q env S
 | e, env, S => Q e env S
def BlkK (i : Nat) (Q : LExit → List D → St → Prop) : LExit → List D → St → Prop
 | .exit j, env, S => if j = i then Q .normal env S else Q (.exit j) env S
 | e, env, S => Q e env S
variable {Q : LExit → List D → St → Prop} {env : List D} {S : St}

theorem cw_skip (h : Q .normal env S) : CW call .skip Q env S := ⟨_, _, _, rfl, h⟩
theorem cw_ret (h : Q .ret env S) : CW call .ret Q env S := ⟨_, _, _, rfl, h⟩
theorem cw_exit {i : Nat} (h : Q (.exit i) env S) : CW call (.exit i) Q env S := ⟨_, _, _, rfl, h⟩
theorem cw_seq {a b : LCode} (h : CW call a (SeqK call b Q) env S) : CW call (.seq a b) Q env S := by
 obtain ⟨e, env', S', h1, h2⟩ := h
 cases e with
 | normal =>
  obtain ⟨e2, env2, S2, h3, h4⟩ := h2
  exact ⟨e2, env2, S2, by simp only [exCode, h1]; exact h3, h4⟩
 | ret => exact ⟨.ret, env', S', by simp only [exCode, h1], h2⟩
 | exit i => exact ⟨.exit i, env', S', by simp only [exCode, h1], h2⟩
theorem cw_block {i : Nat} {c : LCode} (h : CW call c (BlkK i Q) env S) : CW call (.block i c) Q env S := by
  obtain ⟨e, env', S', h1, h2⟩ := h
  cases e with
  | normal => exact ⟨.normal, env', S', by simp only [exCode, h1], h2⟩
  | ret => exact ⟨.ret, env', S', by simp only [exCode, h1], h2⟩
  | exit j =>
    by_cases hj : j = i
    · exact ⟨.normal, env', S', by simp only [exCode, h1, hj, if_true], by simpa [BlkK, hj] using h2⟩
    · exact ⟨.exit j, env', S', by simp only [exCode, h1, hj, if_false], by simpa [BlkK, hj] using h2⟩
theorem cw_true {c : LOpd} {a b : LCode} (hc : opd [] env c = .bool true) (h : CW call a Q env S) : CW call (.cond c a b) Q env S := by
 obtain ⟨e, env', S', h1, h2⟩ := h
 exact ⟨e, env', S', by simp only [exCode, hc]; exact h1, h2⟩
theorem cw_false {c : LOpd} {a b : LCode} (hc : opd [] env c = .bool false) (h : CW call b Q env S) : CW call (.cond c a b) Q env S := by
 obtain ⟨e, env', S', h1, h2⟩ := h
 exact ⟨e, env', S', by simp only [exCode, hc]; exact h1, h2⟩
theorem cw_cond {c : LOpd} {a b : LCode} {t : Bool} (hc : opd [] env c = .bool t) (ht : t = true → CW call a Q env S) (hf : t = false → CW call b Q env S) : CW call (.cond c a b) Q env S := by
 cases t with
 | true => exact cw_true hc (ht rfl)
 | false => exact cw_false hc (hf rfl)
theorem cw_region {ops : List LOper} {exps : List (Nat × Nat)} (h : OW call ops [] env S (fun vals S' => Q .normal (exports exps vals env) S')) : CW call (.region ops exps) Q env S := by
 obtain ⟨vals, S', h1, h2⟩ := h
 exact ⟨_, _, _, by simp only [exCode, h1], h2⟩
theorem cw_drawn {ops : List LOper} {exps : List (Nat × Nat)} {news : List (TypeId × List D)} {tl : List D} {S0 : St} (ht : newsVals S.heap.length news.length = tl) (hS : (⟨S.heap ++ news.map newsObj, S.low⟩ : St) = S0) (h : DW call S.heap.length news ops [] tl env S0 (fun vals S' => Q .normal (exports exps vals env) S')) : CW call (.drawn ops exps news) Q env S := by
 subst ht hS
 obtain ⟨vals, S', h1, h2⟩ := h
 exact ⟨_, _, _, by simp only [exCode, h1], h2⟩
theorem cw_mono {c : LCode} {Q' : LExit → List D → St → Prop} (h : CW call c Q env S) (hq : ∀ e env' S', Q e env' S' → Q' e env' S') : CW call c Q' env S := by
 obtain ⟨e, env', S', h1, h2⟩ := h
 exact ⟨e, env', S', h1, hq _ _ _ h2⟩

variable {vals : List D} {K : List D → St → Prop} {os : List LOper} {l : LOp} {args : List LOpd} {od : List Bool} {ho : Option Nat}
theorem ow_nil (h : K vals S) : OW call [] vals env S K := ⟨_, _, rfl, h⟩
theorem ow_op {r : D} {S' : St} {wr : Bool} (hx : exOp call l (args.map (opd vals env)) S = some (r, S', wr)) (h : OW call os (r :: vals) env S' K) : OW call (⟨l, args, none, od, ho⟩ :: os) vals env S K := by
 obtain ⟨vals', S2, h1, h2⟩ := h
 refine ⟨vals', S2, ?_, h2⟩
 simp only [exOps, onG, hx]
 exact h1
theorem exOp_pop {r : D} (hl : l.loud = false) (hx : pop l (args.map (opd vals env)) = some r) : exOp call l (args.map (opd vals env)) S = some (r, S, false) := by
 have : exOp call l (args.map (opd vals env)) S = aop l (args.map (opd vals env)) S := by cases l <;> first | rfl | (simp [LOp.loud] at hl; done)
 rw [this]
 simp [aop, hl, hx]
theorem ow_pop {r : D} (hl : l.loud = false) (hx : pop l (args.map (opd vals env)) = some r) (h : OW call os (r :: vals) env S K) : OW call (⟨l, args, none, od, ho⟩ :: os) vals env S K := ow_op (exOp_pop hl hx) h
theorem ow_on {d : Nat} {b : Bool} (hg : vals.getD d .undef = .bool b) (h : OW call (⟨l, args, none, od, ho⟩ :: os) vals env S K) : OW call (⟨l, args, some (d, b), od, ho⟩ :: os) vals env S K := by
 obtain ⟨vals', S2, h1, h2⟩ := h
 refine ⟨vals', S2, ?_, h2⟩
 simp only [exOps, onG, hg, beq_self_eq_true] at h1 ⊢
 exact h1
theorem ow_off {d : Nat} {b b' : Bool} (hg : vals.getD d .undef = .bool b') (hb : (b' == b) = false) (h : OW call os (.skip :: vals) env S K) : OW call (⟨l, args, some (d, b), od, ho⟩ :: os) vals env S K := by
 obtain ⟨vals', S2, h1, h2⟩ := h
 refine ⟨vals', S2, ?_, h2⟩
 simp only [exOps, onG, hg, hb]
 exact h1
theorem set_getD {vals : List D} {d : Nat} {x : D} (h : vals.getD d .undef = x) (hx : x ≠ .undef) : vals.set d x = vals := by
 induction vals generalizing d with
 | nil => simp at h; exact (hx h.symm).elim
 | cons a l ih =>
  cases d with
  | zero => simp at h; simp [h]
  | succ d => simp at h; simp; exact ih (by simpa using h)
theorem ow_split {ops : List LOper} {vt vf : List D} (d : Nat) {b : Bool} (hg : vals.getD d .undef = .bool b) (ht : vals.set d (.bool true) = vt) (hf : vals.set d (.bool false) = vf) (h1 : b = true → OW call ops vt env S K) (h2 : b = false → OW call ops vf env S K) : OW call ops vals env S K := by
 cases b with
 | true => rw [← set_getD hg (by simp)]; rw [ht]; exact h1 rfl
 | false => rw [← set_getD hg (by simp)]; rw [hf]; exact h2 rfl

variable {n : Nat} {news : List (TypeId × List D)} {fps : List FP}
theorem dw_split {ops : List LOper} {vt vf : List D} (d : Nat) {b : Bool} (hg : vals.getD d .undef = .bool b) (ht : vals.set d (.bool true) = vt) (hf : vals.set d (.bool false) = vf) (h1 : b = true → DW call n news ops fps vt env S K) (h2 : b = false → DW call n news ops fps vf env S K) : DW call n news ops fps vals env S K := by
 cases b with
 | true => rw [← set_getD hg (by simp)]; rw [ht]; exact h1 rfl
 | false => rw [← set_getD hg (by simp)]; rw [hf]; exact h2 rfl
theorem dw_nil (h : K vals S) : DW call n news [] fps vals env S K := ⟨_, _, rfl, h⟩
theorem dw_op {r : D} {S' : St} {wr : Bool} {fp : FP} (hx : exOp call l (args.map (opd vals env)) S = some (r, S', wr)) (hf : fpHere n ⟨l, args, none, od, ho⟩ (args.map (opd vals env)) r wr = fp) (hok : okHere n news ⟨l, args, none, od, ho⟩ fps fp S' = true) (h : DW call n news os (fp :: fps) (r :: vals) env S' K) : DW call n news (⟨l, args, none, od, ho⟩ :: os) fps vals env S K := by
 obtain ⟨vals', S2, h1, h2⟩ := h
 subst hf
 refine ⟨vals', S2, ?_, h2⟩
 simp only [exDrw, onG, hx, hok, if_true]
 exact h1
theorem okFP_quiet : ∀ (bs : List Bool) (fs : List FP), bs.length = fs.length → okFP bs fs fpQuiet = true
 | [], [], _ => rfl
 | b :: bs, f :: fs, h => by
  simp only [okFP, Bool.and_eq_true]
  refine ⟨?_, okFP_quiet bs fs (by simpa using h)⟩
  unfold okPair
  split <;> simp_all [fpQuiet, apartW, indep]
 | [], _ :: _, h => by simp at h
 | _ :: _, [], h => by simp at h
theorem dw_pop {r : D} (hl : l.loud = false) (hx : pop l (args.map (opd vals env)) = some r) (hn : od.length = fps.length) (h : DW call n news os (fpQuiet :: fps) (r :: vals) env S K) : DW call n news (⟨l, args, none, od, none⟩ :: os) fps vals env S K := by
 have hf : fpOf l (args.map (opd vals env)) r false = fpQuiet := by
  cases l <;> first | rfl | (simp [LOp.loud] at hl; done) | skip
  rename_i st _ _ _ _
  cases st
  ·
   simp [LOp.loud] at hl
  ·
   rfl
 refine dw_op (exOp_pop hl hx) (fp := fpQuiet) hf ?_ h
 simp only [okHere, Bool.and_eq_true]
 exact ⟨okFP_quiet od fps hn, rfl⟩
theorem dw_quiet {r : D} {wr : Bool} {S' : St} (hx : exOp call l (args.map (opd vals env)) S = some (r, S', wr)) (hl : l.loud = false) (hn : od.length = fps.length) (h : DW call n news os (fpQuiet :: fps) (r :: vals) env S' K) : DW call n news (⟨l, args, none, od, none⟩ :: os) fps vals env S K := by
 have : exOp call l (args.map (opd vals env)) S = aop l (args.map (opd vals env)) S := by cases l <;> first | rfl | (simp [LOp.loud] at hl; done)
 rw [this] at hx
 simp only [aop, hl, Bool.false_eq_true, if_false, Option.map_eq_some_iff, Prod.mk.injEq] at hx
 obtain ⟨r', h1, rfl, rfl, rfl⟩ := hx
 exact dw_pop hl h1 hn h
theorem dw_on {d : Nat} {b : Bool} (hg : vals.getD d .undef = .bool b) (h : DW call n news (⟨l, args, none, od, ho⟩ :: os) fps vals env S K) : DW call n news (⟨l, args, some (d, b), od, ho⟩ :: os) fps vals env S K := by
 obtain ⟨vals', S2, h1, h2⟩ := h
 refine ⟨vals', S2, ?_, h2⟩
 simp only [exDrw, onG, hg, beq_self_eq_true] at h1 ⊢
 exact h1
theorem dw_off {d : Nat} {b b' : Bool} (hg : vals.getD d .undef = .bool b') (hb : (b' == b) = false) (h : DW call n news os (fpQuiet :: fps) (.skip :: vals) env S K) : DW call n news (⟨l, args, some (d, b), od, ho⟩ :: os) fps vals env S K := by
 obtain ⟨vals', S2, h1, h2⟩ := h
 refine ⟨vals', S2, ?_, h2⟩
 simp only [exDrw, onG, hg, hb]
 exact h1
def LoopK (I : Nat → List D → St → Prop) (n : Nat) (Q : LExit → List D → St → Prop) : LExit → List D → St → Prop
 | .normal, env, S => ∃ m, m < n ∧ I m env S
 | e, env, S => Q e env S
theorem cw_loop {c : LCode} (I : Nat → List D → St → Prop) (n : Nat) (hn : n < 18446744073709551616) (h0 : I n env S) (hr : ∀ n env S, I n env S → CW call c (LoopK I n Q) env S) : CW call (.loop c) Q env S := by
 have key : ∀ n k env S, n < k → I n env S → ∃ e env' S', loopN (exCode call NN c) k env S = some (e, env', S') ∧ Q e env' S' := by
  intro n
  induction n using Nat.strongRecOn with
  | _ n ih =>
   intro k env S hk hI
   obtain ⟨e, env1, S1, h1, h2⟩ := hr n env S hI
   obtain ⟨k', rfl⟩ : ∃ k', k = k' + 1 := ⟨k - 1, by omega⟩
   simp only [loopN, h1]
   cases e with
   | normal =>
    obtain ⟨m, hm, hI'⟩ := h2
    exact ih m hm k' env1 S1 (by omega) hI'
   | ret => exact ⟨.ret, env1, S1, rfl, h2⟩
   | exit i => exact ⟨.exit i, env1, S1, rfl, h2⟩
 obtain ⟨e, env', S', h1, h2⟩ := key n NN env S (by unfold NN; exact hn) h0
 exact ⟨e, env', S', by simp only [exCode]; exact h1, h2⟩
end

def FinK (L : Prg) (f : FuncId) (F : LFunc) (S : St) (x : D × St × Bool) : LExit → List D → St → Prop
 | .exit _, _, _ => False
 | _, env', S2 => ∃ r0, resultD env' S2 F.res = some r0 ∧ leave (L.raw f) S r0 S2 = some x
def FinP (F : LFunc) (r : D) : LExit → List D → St → Prop
 | .exit _, _, _ => False
 | _, env', S2 => ∃ r0, resultD env' S2 F.res = some r0 ∧ leaveP ⟨[], 0⟩ r0 S2 = some (r, ⟨[], 0⟩, false)
theorem leaveP_any {S T : St} {r0 r : D} {S2 : St} (h : leaveP T r0 S2 = some (r, T, false)) : leaveP S r0 S2 = some (r, S, false) := by
 unfold leaveP at h ⊢
 split at h
 ·
  rename_i r' S3 hl
  split at h
  ·
   rename_i hf
   simp only [Option.some.injEq, Prod.mk.injEq] at h
   obtain ⟨rfl, _⟩ := h
   simp [hf]
  ·
   simp at h
 ·
  simp at h
theorem run_at {L : Prg} {d : Nat} {f : FuncId} {F : LFunc} {args args' env0 : List D} {S : St} {x : D × St × Bool} (hF : L.fns f = some F) (ha : (if L.raw f then some args else snapVs S.heap.length S.heap args) = some args') (hl : args'.length = F.nargs) (hp : (L.pure f && args'.all D.freeV) = false) (he : (F.slots.map fun s => args'.getD s .undef) = env0) (hd : 0 < d)
  (hb : ∀ d', d = d' + 1 → CW (runF L NN d') F.body (FinK L f F S x) env0 ⟨S.heap, S.heap.length⟩) (hdp : L.deep f = false := by rfl) (hE : L.ext f args = none := by rfl) : runF L NN d f args S = some x := by
 subst he
 obtain ⟨d', rfl⟩ : ∃ d', d = d' + 1 := ⟨d - 1, by omega⟩
 obtain ⟨e, env', S2, h1, h2⟩ := hb d' rfl
 simp only [runF, hE, hF, ha, hl, hp, ne_eq, not_true_eq_false, if_false, Bool.false_eq_true, h1, hdp]
 cases e with
 | exit i => exact h2.elim
 | normal =>
  obtain ⟨r0, h3, h4⟩ := h2
  simp only [h3]
  exact h4
 | ret =>
  obtain ⟨r0, h3, h4⟩ := h2
  simp only [h3]
  exact h4
theorem run_pure {L : Prg} {d : Nat} {f : FuncId} {F : LFunc} {args args' env0 : List D} {S : St} {r : D} (hF : L.fns f = some F) (ha : (if L.raw f then some args else snapVs S.heap.length S.heap args) = some args') (hl : args'.length = F.nargs) (hp : (L.pure f && args'.all D.freeV) = true) (he : (F.slots.map fun s => args'.getD s .undef) = env0) (hd : 0 < d)
  (hb : ∀ d', d = d' + 1 → CW (runF L NN d') F.body (FinP F r) env0 ⟨[], 0⟩) (hdp : L.deep f = false := by rfl) (hE : L.ext f args = none := by rfl) : runF L NN d f args S = some (r, S, false) := by
 subst he
 obtain ⟨d', rfl⟩ : ∃ d', d = d' + 1 := ⟨d - 1, by omega⟩
 obtain ⟨e, env', S2, h1, h2⟩ := hb d' rfl
 simp only [runF, hE, hF, ha, hl, hp, ne_eq, not_true_eq_false, if_false, if_true, h1, hdp, Bool.false_eq_true]
 cases e with
 | exit i => exact h2.elim
 | normal =>
  obtain ⟨r0, h3, h4⟩ := h2
  simp only [h3]
  exact leaveP_any h4
 | ret =>
  obtain ⟨r0, h3, h4⟩ := h2
  simp only [h3]
  exact leaveP_any h4
def FinD (F : LFunc) (m : St) (r : D) : LExit → List D → St → Prop
 | .exit _, _, _ => False
 | _, env', S2 => ∃ r0, resultD env' S2 F.res = some r0 ∧ leaveD m m r0 S2 = some (r, m, false)
section
variable {call : CallF} {b : LCode} {Q : LExit → List D → St → Prop} {env env' : List D} {S : St} {i j : Nat}
theorem sk_n (he : env' = env) (h : CW call b Q env S) : SeqK call b Q .normal env' S := he ▸ h
theorem sk_r (h : Q .ret env S) : SeqK call b Q .ret env S := h
theorem sk_e (h : Q (.exit i) env S) : SeqK call b Q (.exit i) env S := h
theorem bk_n (h : Q .normal env S) : BlkK i Q .normal env S := h
theorem bk_r (h : Q .ret env S) : BlkK i Q .ret env S := h
theorem bk_e (h : Q .normal env S) : BlkK i Q (.exit i) env S := by simpa [BlkK] using h
theorem lk_n {I : Nat → List D → St → Prop} {n : Nat} (he : env' = env) (h : ∃ m, m < n ∧ I m env S) : LoopK I n Q .normal env' S := he ▸ h
theorem lk_r {I : Nat → List D → St → Prop} {n : Nat} (h : Q .ret env S) : LoopK I n Q .ret env S := h
theorem lk_e {I : Nat → List D → St → Prop} {n : Nat} (h : Q (.exit i) env S) : LoopK I n Q (.exit i) env S := h
end
/-! the heap behind known objects -/
theorem at_app {α : Type} (H L : List α) (k : Nat) : (H ++ L)[H.length + k]? = L[k]? := by
 rw [List.getElem?_append_right (by omega), Nat.add_sub_cancel_left]
theorem at_app0 {α : Type} (H L : List α) : (H ++ L)[H.length]? = L[0]? := at_app H L 0
theorem set_app {α : Type} (H L : List α) (k : Nat) (x : α) : (H ++ L).set (H.length + k) x = H ++ L.set k x := by
 rw [List.set_append, if_neg (by omega), Nat.add_sub_cancel_left]
theorem set_app0 {α : Type} (H L : List α) (x : α) : (H ++ L).set H.length x = H ++ L.set 0 x := set_app H L 0 x
theorem min_low (n k : Nat) : min n (n + k) = n := by omega
end Go.Proofs.YtcogjcplldpkaaaGreat

namespace Go.Proofs.YtcogjcplldpkaaaGreat
set_option linter.unusedVariables false
set_option linter.unusedSimpArgs false

/-! equations, one for each kind of value -/
theorem snap_int (m : Nat) (H : List AObj) (k : IntKind) (n : Int) : snap m H (.int k n) = some (.int k n) := rfl
theorem snapV_int (m : Nat) (H : List AObj) (k : IntKind) (n : Int) : snapV m H (.int k n) = some (.int k n) := rfl
theorem snap_bool (m : Nat) (H : List AObj) (b : Bool) : snap m H (.bool b) = some (.bool b) := rfl
theorem snapV_bool (m : Nat) (H : List AObj) (b : Bool) : snapV m H (.bool b) = some (.bool b) := rfl
theorem snap_str (m : Nat) (H : List AObj) (s : ByteArray) : snap m H (.str s) = some (.str s) := rfl
theorem snapV_str (m : Nat) (H : List AObj) (s : ByteArray) : snapV m H (.str s) = some (.str s) := rfl
theorem snap_nilp (m : Nat) (H : List AObj)  : snap m H .nilp = some .nilp := rfl
theorem snapV_nilp (m : Nat) (H : List AObj)  : snapV m H .nilp = some .nilp := rfl
theorem snap_nils (m : Nat) (H : List AObj)  : snap m H .nils = some .nils := rfl
theorem snapV_nils (m : Nat) (H : List AObj)  : snapV m H .nils = some .nils := rfl
theorem snap_nilfn (m : Nat) (H : List AObj)  : snap m H .nilfn = some .nilfn := rfl
theorem snapV_nilfn (m : Nat) (H : List AObj)  : snapV m H .nilfn = some .nilfn := rfl
theorem snap_nilm (m : Nat) (H : List AObj)  : snap m H .nilm = some .nilm := rfl
theorem snapV_nilm (m : Nat) (H : List AObj)  : snapV m H .nilm = some .nilm := rfl
theorem snap_sl (m : Nat) (H : List AObj) (sz : Nat) (rows : List (List D)) (cap : Option Nat) : snap m H (.sl sz rows cap) = some (.sl sz rows cap) := rfl
theorem snapV_sl (m : Nat) (H : List AObj) (sz : Nat) (rows : List (List D)) (cap : Option Nat) : snapV m H (.sl sz rows cap) = some (.sl sz rows cap) := rfl
theorem snap_cptr (m : Nat) (H : List AObj) (row : List D) (o : Nat) : snap m H (.cptr row o) = some (.cptr row o) := rfl
theorem snapV_cptr (m : Nat) (H : List AObj) (row : List D) (o : Nat) : snapV m H (.cptr row o) = some (.cptr row o) := rfl
theorem snap_mp (m : Nat) (H : List AObj) (rows : List (List D)) : snap m H (.mp rows) = some (.mp rows) := rfl
theorem snapV_mp (m : Nat) (H : List AObj) (rows : List (List D)) : snapV m H (.mp rows) = some (.mp rows) := rfl
theorem snap_ptr (m : Nat) (H : List AObj) (g v i o : Nat) : snap m H (.ptr g v i o) = some (.ptr g v i o) := rfl
theorem snapV_ptr (m : Nat) (H : List AObj) (g v i o : Nat) : snapV m H (.ptr g v i o) = some (.ptr g v i o) := rfl
theorem snap_fn (m : Nat) (H : List AObj) (f : FuncId) (cs : List D) : snap m H (.fn f cs) = some (.fn f cs) := rfl
theorem snapV_fn (m : Nat) (H : List AObj) (f : FuncId) (cs : List D) : snapV m H (.fn f cs) = some (.fn f cs) := rfl
theorem snapV_msl (m : Nat) (H : List AObj) (g v lo n : Nat) (cap : Option Nat) : snapV m H (.msl g v lo n cap) = snap m H (.msl g v lo n cap) := rfl
theorem snapV_mref (m : Nat) (H : List AObj) (g v : Nat) : snapV m H (.mref g v) = snap m H (.mref g v) := rfl
theorem snap_msl (m : Nat) (H : List AObj) (g v lo n : Nat) (cap : Option Nat) : snap m H (.msl g v lo n cap) = match H[g]? with | some o => if o.ver = v ∧ (o.kind = 1 ∨ (m ≤ g ∧ o.kind = 2)) then some (.sl o.sz ((o.rows.drop lo).take n) (match cap with | some c => some c | none => if o.grow then none else some (o.rows.length - lo))) else some (.msl g v lo n cap) | none => none := rfl
theorem snap_mref (m : Nat) (H : List AObj) (g v : Nat) : snap m H (.mref g v) = if m ≤ g then (match H[g]? with | some o => if o.ver = v ∧ o.kind = 3 ∧ o.elem = 0 then some (.mp o.rows) else some (.mref g v) | none => none) else some (.mref g v) := rfl
theorem snapV_agg (m : Nat) (H : List AObj) (cs : List D) : snapV m H (.agg cs) = (snaps m H cs).map .agg := rfl
theorem snapR_tup (m : Nat) (H : List AObj) (cs : List D) : snapR m H (.tup cs) = (snapVs m H cs).map .tup := rfl
theorem snapR_int (m : Nat) (H : List AObj) (k : IntKind) (n : Int) : snapR m H (.int k n) = snapV m H (.int k n) := rfl
theorem snapR_bool (m : Nat) (H : List AObj) (b : Bool) : snapR m H (.bool b) = snapV m H (.bool b) := rfl
theorem snapR_str (m : Nat) (H : List AObj) (s : ByteArray) : snapR m H (.str s) = snapV m H (.str s) := rfl
theorem snapR_nilp (m : Nat) (H : List AObj)  : snapR m H .nilp = snapV m H .nilp := rfl
theorem snapR_nils (m : Nat) (H : List AObj)  : snapR m H .nils = snapV m H .nils := rfl
theorem snapR_nilfn (m : Nat) (H : List AObj)  : snapR m H .nilfn = snapV m H .nilfn := rfl
theorem snapR_nilm (m : Nat) (H : List AObj)  : snapR m H .nilm = snapV m H .nilm := rfl
theorem snapR_sl (m : Nat) (H : List AObj) (sz : Nat) (rows : List (List D)) (cap : Option Nat) : snapR m H (.sl sz rows cap) = snapV m H (.sl sz rows cap) := rfl
theorem snapR_cptr (m : Nat) (H : List AObj) (row : List D) (o : Nat) : snapR m H (.cptr row o) = snapV m H (.cptr row o) := rfl
theorem snapR_mp (m : Nat) (H : List AObj) (rows : List (List D)) : snapR m H (.mp rows) = snapV m H (.mp rows) := rfl
theorem snapR_ptr (m : Nat) (H : List AObj) (g v i o : Nat) : snapR m H (.ptr g v i o) = snapV m H (.ptr g v i o) := rfl
theorem snapR_fn (m : Nat) (H : List AObj) (f : FuncId) (cs : List D) : snapR m H (.fn f cs) = snapV m H (.fn f cs) := rfl
theorem snapR_msl (m : Nat) (H : List AObj) (g v lo n : Nat) (cap : Option Nat) : snapR m H (.msl g v lo n cap) = snapV m H (.msl g v lo n cap) := rfl
theorem snapR_mref (m : Nat) (H : List AObj) (g v : Nat) : snapR m H (.mref g v) = snapV m H (.mref g v) := rfl
theorem snapR_agg (m : Nat) (H : List AObj) (cs : List D) : snapR m H (.agg cs) = snapV m H (.agg cs) := rfl
theorem free_int (k : IntKind) (n : Int) : D.free (.int k n) = true := rfl
theorem freeV_int (k : IntKind) (n : Int) : D.freeV (.int k n) = true := rfl
theorem freeR_int (k : IntKind) (n : Int) : D.freeR (.int k n) = true := rfl
theorem isCell_int (k : IntKind) (n : Int) : D.isCell (.int k n) = true := rfl
theorem val_int (k : IntKind) (n : Int) : D.val (.int k n) = true := rfl
theorem cells_int (k : IntKind) (n : Int) : D.cells (.int k n) = [(.int k n)] := rfl
theorem free_bool (b : Bool) : D.free (.bool b) = true := rfl
theorem freeV_bool (b : Bool) : D.freeV (.bool b) = true := rfl
theorem freeR_bool (b : Bool) : D.freeR (.bool b) = true := rfl
theorem isCell_bool (b : Bool) : D.isCell (.bool b) = true := rfl
theorem val_bool (b : Bool) : D.val (.bool b) = true := rfl
theorem cells_bool (b : Bool) : D.cells (.bool b) = [(.bool b)] := rfl
theorem free_str (s : ByteArray) : D.free (.str s) = true := rfl
theorem freeV_str (s : ByteArray) : D.freeV (.str s) = true := rfl
theorem freeR_str (s : ByteArray) : D.freeR (.str s) = true := rfl
theorem isCell_str (s : ByteArray) : D.isCell (.str s) = true := rfl
theorem val_str (s : ByteArray) : D.val (.str s) = true := rfl
theorem cells_str (s : ByteArray) : D.cells (.str s) = [(.str s)] := rfl
theorem free_nilp  : D.free .nilp = true := rfl
theorem freeV_nilp  : D.freeV .nilp = true := rfl
theorem freeR_nilp  : D.freeR .nilp = true := rfl
theorem isCell_nilp  : D.isCell .nilp = true := rfl
theorem val_nilp  : D.val .nilp = true := rfl
theorem cells_nilp  : D.cells .nilp = [.nilp] := rfl
theorem free_nils  : D.free .nils = true := rfl
theorem freeV_nils  : D.freeV .nils = true := rfl
theorem freeR_nils  : D.freeR .nils = true := rfl
theorem isCell_nils  : D.isCell .nils = true := rfl
theorem val_nils  : D.val .nils = true := rfl
theorem cells_nils  : D.cells .nils = [.nils] := rfl
theorem free_nilfn  : D.free .nilfn = true := rfl
theorem freeV_nilfn  : D.freeV .nilfn = true := rfl
theorem freeR_nilfn  : D.freeR .nilfn = true := rfl
theorem isCell_nilfn  : D.isCell .nilfn = true := rfl
theorem val_nilfn  : D.val .nilfn = true := rfl
theorem cells_nilfn  : D.cells .nilfn = [.nilfn] := rfl
theorem free_nilm  : D.free .nilm = true := rfl
theorem freeV_nilm  : D.freeV .nilm = true := rfl
theorem freeR_nilm  : D.freeR .nilm = true := rfl
theorem isCell_nilm  : D.isCell .nilm = true := rfl
theorem val_nilm  : D.val .nilm = true := rfl
theorem cells_nilm  : D.cells .nilm = [.nilm] := rfl
theorem free_sl (sz : Nat) (rows : List (List D)) (cap : Option Nat) : D.free (.sl sz rows cap) = true := rfl
theorem freeV_sl (sz : Nat) (rows : List (List D)) (cap : Option Nat) : D.freeV (.sl sz rows cap) = true := rfl
theorem freeR_sl (sz : Nat) (rows : List (List D)) (cap : Option Nat) : D.freeR (.sl sz rows cap) = true := rfl
theorem isCell_sl (sz : Nat) (rows : List (List D)) (cap : Option Nat) : D.isCell (.sl sz rows cap) = true := rfl
theorem val_sl (sz : Nat) (rows : List (List D)) (cap : Option Nat) : D.val (.sl sz rows cap) = true := rfl
theorem cells_sl (sz : Nat) (rows : List (List D)) (cap : Option Nat) : D.cells (.sl sz rows cap) = [(.sl sz rows cap)] := rfl
theorem free_cptr (row : List D) (o : Nat) : D.free (.cptr row o) = true := rfl
theorem freeV_cptr (row : List D) (o : Nat) : D.freeV (.cptr row o) = true := rfl
theorem freeR_cptr (row : List D) (o : Nat) : D.freeR (.cptr row o) = true := rfl
theorem isCell_cptr (row : List D) (o : Nat) : D.isCell (.cptr row o) = true := rfl
theorem val_cptr (row : List D) (o : Nat) : D.val (.cptr row o) = true := rfl
theorem cells_cptr (row : List D) (o : Nat) : D.cells (.cptr row o) = [(.cptr row o)] := rfl
theorem free_mp (rows : List (List D)) : D.free (.mp rows) = true := rfl
theorem freeV_mp (rows : List (List D)) : D.freeV (.mp rows) = true := rfl
theorem freeR_mp (rows : List (List D)) : D.freeR (.mp rows) = true := rfl
theorem isCell_mp (rows : List (List D)) : D.isCell (.mp rows) = true := rfl
theorem val_mp (rows : List (List D)) : D.val (.mp rows) = true := rfl
theorem cells_mp (rows : List (List D)) : D.cells (.mp rows) = [(.mp rows)] := rfl
theorem free_ptr (g v i o : Nat) : D.free (.ptr g v i o) = false := rfl
theorem freeV_ptr (g v i o : Nat) : D.freeV (.ptr g v i o) = false := rfl
theorem freeR_ptr (g v i o : Nat) : D.freeR (.ptr g v i o) = false := rfl
theorem isCell_ptr (g v i o : Nat) : D.isCell (.ptr g v i o) = true := rfl
theorem val_ptr (g v i o : Nat) : D.val (.ptr g v i o) = true := rfl
theorem cells_ptr (g v i o : Nat) : D.cells (.ptr g v i o) = [(.ptr g v i o)] := rfl
theorem free_fn (f : FuncId) (cs : List D) : D.free (.fn f cs) = cs.all D.free0 := rfl
theorem freeV_fn (f : FuncId) (cs : List D) : D.freeV (.fn f cs) = cs.all D.free0 := rfl
theorem freeR_fn (f : FuncId) (cs : List D) : D.freeR (.fn f cs) = cs.all D.free0 := rfl
theorem isCell_fn (f : FuncId) (cs : List D) : D.isCell (.fn f cs) = true := rfl
theorem val_fn (f : FuncId) (cs : List D) : D.val (.fn f cs) = true := rfl
theorem cells_fn (f : FuncId) (cs : List D) : D.cells (.fn f cs) = [(.fn f cs)] := rfl
theorem free_msl (g v lo n : Nat) (cap : Option Nat) : D.free (.msl g v lo n cap) = false := rfl
theorem freeV_msl (g v lo n : Nat) (cap : Option Nat) : D.freeV (.msl g v lo n cap) = false := rfl
theorem freeR_msl (g v lo n : Nat) (cap : Option Nat) : D.freeR (.msl g v lo n cap) = false := rfl
theorem isCell_msl (g v lo n : Nat) (cap : Option Nat) : D.isCell (.msl g v lo n cap) = true := rfl
theorem val_msl (g v lo n : Nat) (cap : Option Nat) : D.val (.msl g v lo n cap) = true := rfl
theorem cells_msl (g v lo n : Nat) (cap : Option Nat) : D.cells (.msl g v lo n cap) = [(.msl g v lo n cap)] := rfl
theorem free_mref (g v : Nat) : D.free (.mref g v) = false := rfl
theorem freeV_mref (g v : Nat) : D.freeV (.mref g v) = false := rfl
theorem freeR_mref (g v : Nat) : D.freeR (.mref g v) = false := rfl
theorem isCell_mref (g v : Nat) : D.isCell (.mref g v) = true := rfl
theorem val_mref (g v : Nat) : D.val (.mref g v) = true := rfl
theorem cells_mref (g v : Nat) : D.cells (.mref g v) = [(.mref g v)] := rfl
theorem freeV_agg (cs : List D) : D.freeV (.agg cs) = cs.all D.free := rfl
theorem freeR_agg (cs : List D) : D.freeR (.agg cs) = cs.all D.free := rfl
theorem freeR_tup (cs : List D) : D.freeR (.tup cs) = cs.all D.freeV := rfl
theorem val_agg (cs : List D) : D.val (.agg cs) = cs.all D.isCell := rfl
theorem cells_agg (cs : List D) : D.cells (.agg cs) = cs := rfl
theorem snap_nili (m : Nat) (H : List AObj)  : snap m H .nili = some .nili := rfl
theorem snapV_nili (m : Nat) (H : List AObj)  : snapV m H .nili = some .nili := rfl
theorem snapR_nili (m : Nat) (H : List AObj)  : snapR m H .nili = snapV m H .nili := rfl
theorem free_nili  : D.free .nili = true := rfl
theorem freeV_nili  : D.freeV .nili = true := rfl
theorem freeR_nili  : D.freeR .nili = true := rfl
theorem isCell_nili  : D.isCell .nili = true := rfl
theorem val_nili  : D.val .nili = true := rfl
theorem cells_nili  : D.cells .nili = [.nili] := rfl
theorem snap_ifc (m : Nat) (H : List AObj) (t : TypeId) (d : D) : snap m H (.ifc t d) = some (.ifc t d) := rfl
theorem snapV_ifc (m : Nat) (H : List AObj) (t : TypeId) (d : D) : snapV m H (.ifc t d) = some (.ifc t d) := rfl
theorem snapR_ifc (m : Nat) (H : List AObj) (t : TypeId) (d : D) : snapR m H (.ifc t d) = snapV m H (.ifc t d) := rfl
theorem free_ifc (t : TypeId) (d : D) : D.free (.ifc t d) = true := rfl
theorem freeV_ifc (t : TypeId) (d : D) : D.freeV (.ifc t d) = true := rfl
theorem freeR_ifc (t : TypeId) (d : D) : D.freeR (.ifc t d) = true := rfl
theorem isCell_ifc (t : TypeId) (d : D) : D.isCell (.ifc t d) = true := rfl
theorem val_ifc (t : TypeId) (d : D) : D.val (.ifc t d) = true := rfl
theorem cells_ifc (t : TypeId) (d : D) : D.cells (.ifc t d) = [(.ifc t d)] := rfl
theorem snap_ifr (m : Nat) (H : List AObj) (t : TypeId) (d : D) : snap m H (.ifr t d) = some (.ifr t d) := rfl
theorem snapV_ifr (m : Nat) (H : List AObj) (t : TypeId) (d : D) : snapV m H (.ifr t d) = some (.ifr t d) := rfl
theorem snapR_ifr (m : Nat) (H : List AObj) (t : TypeId) (d : D) : snapR m H (.ifr t d) = snapV m H (.ifr t d) := rfl
theorem free_ifr (t : TypeId) (d : D) : D.free (.ifr t d) = false := rfl
theorem freeV_ifr (t : TypeId) (d : D) : D.freeV (.ifr t d) = false := rfl
theorem freeR_ifr (t : TypeId) (d : D) : D.freeR (.ifr t d) = false := rfl
theorem isCell_ifr (t : TypeId) (d : D) : D.isCell (.ifr t d) = true := rfl
theorem val_ifr (t : TypeId) (d : D) : D.val (.ifr t d) = true := rfl
theorem cells_ifr (t : TypeId) (d : D) : D.cells (.ifr t d) = [(.ifr t d)] := rfl
theorem snap_iter (m : Nat) (H : List AObj) (g v : Nat) : snap m H (.iter g v) = some (.iter g v) := rfl
theorem snapV_iter (m : Nat) (H : List AObj) (g v : Nat) : snapV m H (.iter g v) = some (.iter g v) := rfl
theorem snapR_iter (m : Nat) (H : List AObj) (g v : Nat) : snapR m H (.iter g v) = snapV m H (.iter g v) := rfl
theorem free_iter (g v : Nat) : D.free (.iter g v) = false := rfl
theorem freeV_iter (g v : Nat) : D.freeV (.iter g v) = false := rfl
theorem freeR_iter (g v : Nat) : D.freeR (.iter g v) = false := rfl
theorem isCell_iter (g v : Nat) : D.isCell (.iter g v) = true := rfl
theorem val_iter (g v : Nat) : D.val (.iter g v) = true := rfl
theorem cells_iter (g v : Nat) : D.cells (.iter g v) = [(.iter g v)] := rfl
theorem lenD_str (s : ByteArray) : lenD true (.str s) = some (.int .i64 s.size) := rfl
theorem lenD_nils : lenD false .nils = some (.int .i64 0) := rfl
theorem lenD_sl (sz : Nat) (rows : List (List D)) (cap : Option Nat) : lenD false (.sl sz rows cap) = some (.int .i64 rows.length) := rfl
theorem lenD_msl (g v lo n : Nat) (cap : Option Nat) : lenD false (.msl g v lo n cap) = some (.int .i64 n) := rfl
theorem capD_nils : capD .nils = some (.int .i64 0) := rfl
theorem capD_sl (sz : Nat) (rows : List (List D)) (c : Nat) : capD (.sl sz rows (some c)) = some (.int .i64 c) := rfl
theorem capD_msl (g v lo n c : Nat) : capD (.msl g v lo n (some c)) = some (.int .i64 c) := rfl
theorem iaddrD_sl (S : St) (sz s : Nat) (rows : List (List D)) (cap : Option Nat) (k : IntKind) (i : Int) : iaddrD S sz (.sl s rows cap) (.int k i) = if s = sz ∧ 0 ≤ i then rows[i.toNat]?.map (fun r => .cptr r 0) else none := rfl
theorem iaddrD_msl (S : St) (sz g v lo n : Nat) (cap : Option Nat) (k : IntKind) (i : Int) : iaddrD S sz (.msl g v lo n cap) (.int k i) = match rowsOf S g v with | some ob => if ob.sz = sz ∧ 0 ≤ i ∧ i < n then some (.ptr g v (lo + i.toNat) 0) else none | none => none := rfl
theorem readRows_nils (S : St) (sz : Nat) : readRows S sz .nils = some [] := rfl
theorem readRows_sl (S : St) (sz s : Nat) (rows : List (List D)) (cap : Option Nat) : readRows S sz (.sl s rows cap) = if s = sz then some rows else none := rfl
theorem readRows_msl (S : St) (sz g v lo n : Nat) (cap : Option Nat) : readRows S sz (.msl g v lo n cap) = match rowsOf S g v with | some o => if o.sz = sz ∧ (o.kind = 1 ∨ o.kind = 2) then some ((o.rows.drop lo).take n) else none | none => none := rfl
theorem loadD_cptr (sz : Nat) (agg : Bool) (S : St) (row : List D) (o : Nat) : loadD sz agg S (.cptr row o) = partD row o sz agg := rfl
theorem loadD_ptr (sz : Nat) (agg : Bool) (S : St) (g v i o : Nat) : loadD sz agg S (.ptr g v i o) = match rowsOf S g v with | some x => (match x.rows[i]? with | some row => partD row o sz agg | none => none) | none => none := rfl
theorem faddrD_ptr (f g v i o : Nat) : faddrD f (.ptr g v i o) = some (.ptr g v i (o + f)) := rfl
theorem faddrD_cptr (f : Nat) (row : List D) (o : Nat) : faddrD f (.cptr row o) = some (.cptr row (o + f)) := rfl
def SlD (sz : Nat) (rows : List (List D)) (x : D) : Prop := (x = .nils ∧ rows = []) ∨ ∃ cap, x = .sl sz rows cap
section
variable {sz : Nat} {rows : List (List D)} {x : D} (h : SlD sz rows x)
include h
theorem SlD.free : x.free = true := by rcases h with ⟨rfl, rfl⟩ | ⟨c, rfl⟩ <;> rfl
theorem SlD.freeV : x.freeV = true := by rcases h with ⟨rfl, rfl⟩ | ⟨c, rfl⟩ <;> rfl
theorem SlD.freeR : x.freeR = true := by rcases h with ⟨rfl, rfl⟩ | ⟨c, rfl⟩ <;> rfl
theorem SlD.isCell : x.isCell = true := by rcases h with ⟨rfl, rfl⟩ | ⟨c, rfl⟩ <;> rfl
theorem SlD.val : x.val = true := by rcases h with ⟨rfl, rfl⟩ | ⟨c, rfl⟩ <;> rfl
theorem SlD.cells : x.cells = [x] := by rcases h with ⟨rfl, rfl⟩ | ⟨c, rfl⟩ <;> rfl
theorem SlD.snap (m : Nat) (H : List AObj) : snap m H x = some x := by rcases h with ⟨rfl, rfl⟩ | ⟨c, rfl⟩ <;> rfl
theorem SlD.snapV (m : Nat) (H : List AObj) : snapV m H x = some x := by rcases h with ⟨rfl, rfl⟩ | ⟨c, rfl⟩ <;> rfl
theorem SlD.snapR (m : Nat) (H : List AObj) : snapR m H x = some x := by rcases h with ⟨rfl, rfl⟩ | ⟨c, rfl⟩ <;> rfl
theorem SlD.plain : plain1 x = true := by rcases h with ⟨rfl, rfl⟩ | ⟨c, rfl⟩ <;> rfl
theorem SlD.plainV : plainV x = true := by rcases h with ⟨rfl, rfl⟩ | ⟨c, rfl⟩ <;> rfl
theorem SlD.len : lenD false x = some (.int .i64 rows.length) := by rcases h with ⟨rfl, rfl⟩ | ⟨c, rfl⟩ <;> rfl
theorem SlD.read (S : St) : readRows S sz x = some rows := by
 rcases h with ⟨rfl, rfl⟩ | ⟨c, rfl⟩
 ·
  rfl
 ·
  simp [readRows]
theorem SlD.iaddr (S : St) (k : IntKind) {i : Int} {r : List D} (h0 : 0 ≤ i) (hr : rows[i.toNat]? = some r) : iaddrD S sz x (.int k i) = some (.cptr r 0) := by
 rcases h with ⟨rfl, rfl⟩ | ⟨c, rfl⟩
 ·
  simp at hr
 ·
  simp [iaddrD, h0, hr]
theorem SlD.iaddrN (S : St) (k : IntKind) {i : Nat} {r : List D} (hr : rows[i]? = some r) : iaddrD S sz x (.int k i) = some (.cptr r 0) := h.iaddr S k (by omega) (by simpa using hr)
theorem SlD.fpi (n : Nat) (i r : D) (wr : Bool) : fpOf (.iaddr n) [x, i] r wr = fpRead [] := by rcases h with ⟨rfl, rfl⟩ | ⟨c, rfl⟩ <;> rfl
end
theorem SlD.of (sz : Nat) (rows : List (List D)) (c : Option Nat) : SlD sz rows (.sl sz rows c) := .inr ⟨c, rfl⟩
theorem SlD.nil (sz : Nat) : SlD sz [] .nils := .inl ⟨rfl, rfl⟩
def strRows (l : List ByteArray) : List (List D) := l.map fun s => [.str s]
def strsD : List ByteArray → D
 | [] => .nils
 | l => .sl 1 (strRows l) none
theorem strsD_S (l : List ByteArray) : SlD 1 (strRows l) (strsD l) := by
 cases l with
 | nil => exact .nil 1
 | cons a l => exact .of _ _ _
theorem strRows_at {l : List ByteArray} {i : Nat} (h : i < l.length) : (strRows l)[i]? = some [.str l[i]] := by simp [strRows, h]
theorem strRows_len (l : List ByteArray) : (strRows l).length = l.length := by simp [strRows]
theorem tab_at {α : Type} {n : Nat} {f g : Nat → α} (h : (List.range n).map f = (List.range n).map g) (i : Nat) (hi : i < n) : f i = g i := by
 have := congrArg (·[i]?) h
 simpa [hi] using this
def idxI {α : Type} (p : α → Bool) (l : List α) : Int := match l.findIdx? p with | some i => i | none => -1
theorem idxI_none {α : Type} {p : α → Bool} {l : List α} (h : l.any p = false) : idxI p l = -1 := by
 have : l.findIdx? p = none := by
  rw [List.findIdx?_eq_none_iff]
  intro x hx
  have := List.any_eq_false.1 h x hx
  simpa using this
 simp [idxI, this]
theorem idxI_at {α : Type} {p : α → Bool} {l : List α} {i : Nat} (hi : i < l.length) (hp : p l[i] = true) (hb : (l.take i).any p = false) : idxI p l = i := by
 have : l.findIdx? p = some i := by
  rw [List.findIdx?_eq_some_iff_getElem]
  refine ⟨hi, hp, fun j hj => ?_⟩
  have := List.any_eq_false.1 hb l[j] (by
   rw [List.mem_take_iff_getElem]
   exact ⟨j, by omega, rfl⟩)
  simpa using this
 simp [idxI, this]
theorem any_take_succ {α : Type} {p : α → Bool} {l : List α} {i : Nat} (hi : i < l.length) (hb : (l.take i).any p = false) (hp : p l[i] = false) : (l.take (i + 1)).any p = false := by
 rw [List.take_add_one, List.getElem?_eq_getElem hi, List.any_append, hb]
 simp [hp]
theorem idxI_nonneg {α : Type} (p : α → Bool) (l : List α) : decide (idxI p l ≥ 0) = l.any p := by
 cases h : l.any p with
 | false => rw [idxI_none h]; rfl
 | true =>
  unfold idxI
  cases hf : l.findIdx? p with
  | some i => simp
  | none =>
   rw [List.findIdx?_eq_none_iff] at hf
   obtain ⟨x, hx, hp⟩ := List.any_eq_true.1 h
   rw [hf x hx] at hp
   simp at hp
theorem wrap_nat (k : Nat) (h : k < 1000000000) : IntKind.i64.wrap ((k : Int) + 1) = ((k + 1 : Nat) : Int) := by rw [IntKind.wrap_i64]; omega
/-! footprints, one equation for each kind of value -/
theorem fp_load_cptr (sz : Nat) (agg : Bool) (row : List D) (o : Nat) (r : D) (wr : Bool) : fpOf (.load sz agg) [.cptr row o] r wr = fpRead [] := rfl
theorem fp_load_ptr (sz : Nat) (agg : Bool) (g v i o : Nat) (r : D) (wr : Bool) : fpOf (.load sz agg) [.ptr g v i o] r wr = fpRead [g] := rfl
theorem fp_iaddr_sl (n sz : Nat) (rows : List (List D)) (cap : Option Nat) (i r : D) (wr : Bool) : fpOf (.iaddr n) [.sl sz rows cap, i] r wr = fpRead [] := rfl
theorem fp_iaddr_msl (n g v lo m : Nat) (cap : Option Nat) (i r : D) (wr : Bool) : fpOf (.iaddr n) [.msl g v lo m cap, i] r wr = fpRead [g] := rfl
theorem fp_call (f : FuncId) (ds : List D) (r : D) (wr : Bool) : fpOf (.call f) ds r wr = fpAll wr := rfl
theorem fp_callv (ds : List D) (r : D) (wr : Bool) : fpOf .callv ds r wr = fpAll wr := rfl
theorem fp_append (e sz b k : Nat) (s x r : D) (wr : Bool) : fpOf (.append e sz b k) [s, x] r wr = fpApp s x r wr := rfl
theorem fp_bslice (e sz n : Nat) (z : List D) (ps : List Nat) (k : Nat) (ds : List D) (r : D) (wr : Bool) : fpOf (.bslice e sz n z ps k) ds r wr = if k = 0 || ds.all plainV then fpMk r wr else fpAll wr := rfl
theorem fp_store (sz g v i o : Nat) (x r : D) (wr : Bool) : fpOf (.store sz) [.ptr g v i o, x] r wr = if plainV x then ⟨true, some [g], some [g], false, none⟩ else fpAll wr := rfl
theorem fp_box (e sz : Nat) (ds : List D) (g v i o : Nat) (wr : Bool) : fpOf (.box e sz) ds (.ptr g v i o) wr = ⟨true, some [], some [g], true, none⟩ := rfl
theorem fp_alloc (e : Nat) (z ds : List D) (r : D) (wr : Bool) : fpOf (.alloc e z) ds r wr = fpAll wr := rfl
theorem fp_bstr (ds : List D) (r : D) (wr : Bool) : fpOf .bstr ds r wr = fpAll wr := rfl
theorem fp_strb (ds : List D) (r : D) (wr : Bool) : fpOf .strb ds r wr = fpRead [] := rfl
theorem fp_slice_sl (n sz : Nat) (rows : List (List D)) (cap : Option Nat) (a b c : Bool) (ds : List D) (r : D) (wr : Bool) : fpOf (.slice false n a b c) (.sl sz rows cap :: ds) r wr = fpRead [] := rfl
theorem fp_slice_msl (n g v lo m : Nat) (cap : Option Nat) (a b c : Bool) (ds : List D) (r : D) (wr : Bool) : fpOf (.slice false n a b c) (.msl g v lo m cap :: ds) r wr = fpRead [g] := rfl
theorem fp_mapget (kf : Nat) (z : D) (ok : Bool) (rows : List (List D)) (k r : D) (wr : Bool) : fpOf (.mapget kf z ok) [.mp rows, k] r wr = fpRead [] := rfl
theorem fp_mkslice (e sz b : Nat) (z : List D) (k : Nat) (ds : List D) (g v lo n : Nat) (c : Option Nat) (wr : Bool) : fpOf (.mkslice e sz b z k) ds (.msl g v lo n c) wr = ⟨true, some [], some [g], true, none⟩ := rfl
theorem fpAll_f : fpAll false = ⟨true, none, some [], false, none⟩ := rfl
theorem fpAll_t : fpAll true = ⟨true, none, none, true, none⟩ := rfl
/-! strings -/
theorem natOf_nat (k : IntKind) (n : Nat) : natOf (.int k (n : Int)) = some n := by simp [natOf]
section
variable {call : CallF} {S : St}
theorem x_strslice {s : ByteArray} {lo hi : Nat} (k k' : IntKind) (h1 : lo ≤ hi) (h2 : hi ≤ s.size) : exOp call (.slice true 0 true true false) [.str s, .int k lo, .int k' hi] S = some (.str (s.extract lo hi), S, false) := by
 simp [exOp, aop, LOp.loud, pop, sliceArgs, boundsD, natOr, natOf_nat, h1, h2]
theorem x_stradd {a b : ByteArray} (h : a.size + b.size ≤ 4611686018427387904) : exOp call (.bin .add) [.str a, .str b] S = some (.str (a ++ b), S, false) := by
 have : ¬ (((a.size + b.size : Nat) : Int) > IntKind.i64.max) := by simp only [IntKind.max, IntKind.signed, IntKind.bits]; simp; omega
 simp only [exOp, aop, LOp.loud, pop, binD, this, if_false, Bool.false_eq_true, Option.map_some]
end
/-! rows that a loop appends to: an object behind the heap H, or nothing yet -/
def AppS (H : List AObj) (lo : Nat) (e : TypeId) (sz : Nat) (rows : List (List D)) (S : St) (x : D) : Prop :=
 (rows = [] ∧ S = ⟨H, lo⟩ ∧ x = .nils) ∨ ∃ v, S = ⟨H ++ [⟨e, sz, rows, v, 1, true⟩], lo⟩ ∧ x = .msl H.length v 0 rows.length none
theorem AppS.nil (H : List AObj) (lo : Nat) (e : TypeId) (sz : Nat) : AppS H lo e sz [] ⟨H, lo⟩ .nils := .inl ⟨rfl, rfl, rfl⟩
theorem AppS.app {H : List AObj} {lo : Nat} {e sz : Nat} {rows : List (List D)} {S : St} {x : D} (h : AppS H lo e sz rows S x) (hlo : lo ≤ H.length) (bytes : Nat) {new : List (List D)} {c : Option Nat} (hn : new.isEmpty = false) (hb : (rows.length + new.length) * bytes ≤ 140737488355328) :
  ∃ x' S', appendD e sz bytes 1 x (.sl sz new c) S = some (x', S', true) ∧ AppS H lo e sz (rows ++ new) S' x' := by
 rcases h with ⟨rfl, rfl, rfl⟩ | ⟨v, rfl, rfl⟩
 ·
  refine ⟨.msl H.length 0 0 new.length none, newAt ⟨H, lo⟩ ⟨e, sz, new, 0, 1, true⟩, ?_, .inr ⟨0, rfl, by simp⟩⟩
  simp only [List.length_nil, Nat.zero_add] at hb
  simp [appendD, appendRows, readRows, hn, hb]
 ·
  refine ⟨.msl H.length (v + 1) 0 (rows.length + new.length) none, ⟨H ++ [⟨e, sz, rows ++ new, v + 1, 1, true⟩], lo⟩, ?_, .inr ⟨v + 1, rfl, by simp⟩⟩
  have hm : min lo H.length = lo := by omega
  simp [appendD, appendRows, readRows, rowsOf, hb, setAt, hm]
theorem AppS.len {H : List AObj} {lo : Nat} {e sz : Nat} {rows : List (List D)} {S : St} {x : D} (h : AppS H lo e sz rows S x) : lenD false x = some (.int .i64 rows.length) := by
 rcases h with ⟨rfl, rfl, rfl⟩ | ⟨v, rfl, rfl⟩ <;> rfl
theorem AppS.snap {H : List AObj} {lo : Nat} {e sz : Nat} {rows : List (List D)} {S : St} {x : D} (h : AppS H lo e sz rows S x) (m : Nat) : ∃ y, SlD sz rows y ∧ snapV m S.heap x = some y := by
 rcases h with ⟨rfl, rfl, rfl⟩ | ⟨v, rfl, rfl⟩
 ·
  exact ⟨.nils, .nil sz, rfl⟩
 ·
  exact ⟨.sl sz rows none, .of _ _ _, by simp [snapV_msl, snap_msl]⟩
theorem run_snap {L : Prg} {N d : Nat} {f : FuncId} {args args' : List D} {S : St} (hraw : L.raw f = false) (h : snapVs S.heap.length S.heap args = some args') (h' : snapVs S.heap.length S.heap args' = some args') (hE : L.ext f args = none := by rfl) (hE' : L.ext f args' = none := by rfl) : runF L N d f args S = runF L N d f args' S := by
 cases d with
 | zero => rfl
 | succ d => simp only [runF, hE, hE', hraw, h, h', Bool.false_eq_true, if_false]
theorem St.eta (S : St) : (⟨S.heap, S.low⟩ : St) = S := rfl
def selW {α : Type} (p : α → Bool) (l : List α) (w : Int) (t : Bool) (k : Nat) : Int × Bool := if (l.drop k).any p then (k + idxI p (l.drop k), true) else (w, t)
theorem idxI_cons {α : Type} (p : α → Bool) (a : α) (l : List α) : idxI p (a :: l) = if p a then 0 else if l.any p then idxI p l + 1 else -1 := by
 unfold idxI
 rw [List.findIdx?_cons]
 by_cases h : p a = true
 ·
  simp [h]
 ·
  simp only [h, Bool.false_eq_true, if_false]
  cases hf : l.findIdx? p with
  | none =>
   have : l.any p = false := by
    rw [List.any_eq_false]
    intro x hx
    rw [List.findIdx?_eq_none_iff] at hf
    simp [hf x hx]
   simp [this]
  | some i =>
   have : l.any p = true := by
    rw [List.findIdx?_eq_some_iff_getElem] at hf
    obtain ⟨hi, hp, _⟩ := hf
    exact List.any_eq_true.2 ⟨_, List.getElem_mem hi, hp⟩
   simp [this]
theorem idxI_map {α β : Type} (p : β → Bool) (f : α → β) (l : List α) : idxI p (l.map f) = idxI (fun x => p (f x)) l := by
 induction l with
 | nil => rfl
 | cons a l ih => rw [List.map_cons, idxI_cons, idxI_cons, ih, List.any_map]; rfl
theorem tmod_nat (a b : Nat) : (a : Int).tmod (b : Int) = ((a % b : Nat) : Int) := by
 rw [Int.tmod_eq_emod_of_nonneg (by omega)]; omega
theorem wrap_u8 (a : Nat) (h : a < 256) : IntKind.u8.wrap (a : Int) = a := by
 simp only [IntKind.wrap, IntKind.signed, IntKind.bits, Bool.false_and, Bool.false_eq_true, if_false]
 omega
def dropD (n : Nat) : D → D
 | .sl s rows cap => .sl s (rows.drop n) (cap.map (· - n))
 | d => d
theorem SlD.drop {sz : Nat} {rows : List (List D)} {x : D} (h : SlD sz rows x) (n : Nat) : SlD sz (rows.drop n) (dropD n x) := by
  rcases h with ⟨rfl, rfl⟩ | ⟨c, rfl⟩
  · exact .inl ⟨rfl, by simp⟩
  · exact .inr ⟨_, rfl⟩
theorem SlD.slice_lo {sz : Nat} {rows : List (List D)} {x : D} (h : SlD sz rows x) (S : St) (k : IntKind) {n : Nat} (hn : n ≤ rows.length) : sliceD S sz x (some (.int k n)) none none = some (dropD n x) := by
 rcases h with ⟨rfl, rfl⟩ | ⟨c, rfl⟩
 ·
  simp at hn; subst hn; simp [sliceD, boundsD, natOr, natOf, dropD]
 ·
  simp only [sliceD, ne_eq, not_true_eq_false, if_false, boundsD, natOr, natOf_nat]
  simp only [hn, Nat.le_refl, and_self, if_true, dropD]
  rw [List.take_of_length_le (by simp)]
theorem SlD.slice_1 {sz : Nat} {rows : List (List D)} {x : D} (h : SlD sz rows x) (S : St) (hn : 1 ≤ rows.length) : sliceD S sz x (some (.int .i64 1)) none none = some (dropD 1 x) := h.slice_lo S .i64 hn
def clipD : D → D
 | .sl s rows _ => .sl s rows (some rows.length)
 | d => d
theorem SlD.clip {sz : Nat} {rows : List (List D)} {x : D} (h : SlD sz rows x) : SlD sz rows (clipD x) := by
 rcases h with ⟨rfl, rfl⟩ | ⟨c, rfl⟩
 ·
  exact .nil _
 ·
  exact .of _ _ _
theorem SlD.slice_clip {sz : Nat} {rows : List (List D)} {x : D} (h : SlD sz rows x) (S : St) : sliceD S sz x none (some (.int .i64 rows.length)) (some (.int .i64 rows.length)) = some (clipD x) := by
 rcases h with ⟨rfl, rfl⟩ | ⟨c, rfl⟩
 ·
  simp [sliceD, boundsD, natOr, natOf, clipD]
 ·
  simp [sliceD, boundsD, natOr, natOf_nat, clipD]
theorem SlD.cap_clip {sz : Nat} {rows : List (List D)} {x : D} (h : SlD sz rows x) : capD (clipD x) = some (.int .i64 rows.length) := by
 rcases h with ⟨rfl, rfl⟩ | ⟨c, rfl⟩ <;> rfl
theorem SlD.fps {sz : Nat} {rows : List (List D)} {x : D} (h : SlD sz rows x) (n : Nat) (a b c : Bool) (ds : List D) (r : D) (wr : Bool) : fpOf (.slice false n a b c) (x :: ds) r wr = fpRead [] := by
 rcases h with ⟨rfl, rfl⟩ | ⟨c, rfl⟩ <;> rfl
/-! operations in a short form -/
abbrev qo (l : LOp) (a : List LOpd) : LOper := ⟨l, a, none, [], none⟩
abbrev qg (l : LOp) (a : List LOpd) (d : Nat) (b : Bool) : LOper := ⟨l, a, some (d, b), [], none⟩
abbrev qw (l : LOp) (a : List LOpd) (n k : Nat) : LOper := ⟨l, a, none, ob n k, none⟩
abbrev qh (l : LOp) (a : List LOpd) (d : Nat) (b : Bool) (n k : Nat) : LOper := ⟨l, a, some (d, b), ob n k, none⟩
end Go.Proofs.YtcogjcplldpkaaaGreat

namespace Go.Proofs.YtcogjcplldpkaaaGreat
set_option linter.unusedVariables false
theorem zv : (type_of% @List.map_cons.{0, 0}) ∧ (type_of% @List.map_nil.{0, 0}) ∧ (type_of% @List.getD_cons_zero.{0}) ∧ (type_of% @List.getD_cons_succ.{0}) ∧ (type_of% @List.getD_nil.{0}) :=
 ⟨@List.map_cons.{0, 0}, @List.map_nil.{0, 0}, @List.getD_cons_zero.{0}, @List.getD_cons_succ.{0}, @List.getD_nil.{0}⟩
theorem zm : (type_of% @if_true.{1}) ∧ (type_of% @if_false.{1}) ∧ (type_of% @ite_true.{1}) ∧ (type_of% @ite_false.{1}) ∧ (type_of% @true_and) ∧ (type_of% @and_true) ∧ (type_of% @and_self) ∧ (type_of% @ne_eq.{1}) ∧ (type_of% @not_true_eq_false) ∧ (type_of% @not_false_eq_true) ∧ (type_of% @Bool.false_eq_true) ∧ (type_of% @Option.map_some.{0, 0}) ∧ (type_of% @Option.map_none.{0, 0}) ∧ (type_of% @List.length_cons.{0}) ∧ (type_of% @List.length_nil.{0}) ∧ (type_of% @List.drop_zero.{0}) ∧ (type_of% @List.drop_succ_cons.{0}) ∧ (type_of% @List.take_succ_cons.{0}) ∧ (type_of% @List.take_zero.{0}) ∧ (type_of% @List.cons_append.{0}) ∧ (type_of% @List.nil_append.{0}) ∧ (type_of% @List.all_cons.{0}) ∧ (type_of% @List.all_nil.{0}) ∧ (type_of% @Bool.and_true) ∧ (type_of% @Bool.true_and) ∧ (type_of% @List.getElem?_cons_zero.{0}) ∧ (type_of% @List.getElem?_cons_succ.{0}) ∧ (type_of% @beq_self_eq_true.{0}) ∧ (type_of% @decide_true) ∧ (type_of% @Nat.zero_add) ∧ (type_of% @Nat.add_zero) :=
 ⟨@if_true.{1}, @if_false.{1}, @ite_true.{1}, @ite_false.{1}, @true_and, @and_true, @and_self, @ne_eq.{1}, @not_true_eq_false, @not_false_eq_true, @Bool.false_eq_true, @Option.map_some.{0, 0}, @Option.map_none.{0, 0}, @List.length_cons.{0}, @List.length_nil.{0}, @List.drop_zero.{0}, @List.drop_succ_cons.{0}, @List.take_succ_cons.{0}, @List.take_zero.{0}, @List.cons_append.{0}, @List.nil_append.{0}, @List.all_cons.{0}, @List.all_nil.{0}, @Bool.and_true, @Bool.true_and, @List.getElem?_cons_zero.{0}, @List.getElem?_cons_succ.{0}, @beq_self_eq_true.{0}, @decide_true, @Nat.zero_add, @Nat.add_zero⟩
theorem zs : (type_of% @snap_int) ∧ (type_of% @snapV_int) ∧ (type_of% @snap_bool) ∧ (type_of% @snapV_bool) ∧ (type_of% @snap_str) ∧ (type_of% @snapV_str) ∧ (type_of% @snap_nilp) ∧ (type_of% @snapV_nilp) ∧ (type_of% @snap_nils) ∧ (type_of% @snapV_nils) ∧ (type_of% @snap_nilfn) ∧ (type_of% @snapV_nilfn) ∧ (type_of% @snap_nilm) ∧ (type_of% @snapV_nilm) ∧ (type_of% @snap_sl) ∧ (type_of% @snapV_sl) ∧ (type_of% @snap_cptr) ∧ (type_of% @snapV_cptr) ∧ (type_of% @snap_mp) ∧ (type_of% @snapV_mp) ∧ (type_of% @snap_ptr) ∧ (type_of% @snapV_ptr) ∧ (type_of% @snap_fn) ∧ (type_of% @snapV_fn) ∧ (type_of% @snapV_msl) ∧ (type_of% @snapV_mref) ∧ (type_of% @snap_msl) ∧ (type_of% @snap_mref) ∧ (type_of% @snapV_agg) ∧ (type_of% @snapR_tup) ∧ (type_of% @snapR_int) ∧ (type_of% @snapR_bool) ∧ (type_of% @snapR_str) ∧ (type_of% @snapR_nilp) ∧ (type_of% @snapR_nils) ∧ (type_of% @snapR_nilfn) ∧ (type_of% @snapR_nilm) ∧ (type_of% @snapR_sl) ∧ (type_of% @snapR_cptr) ∧ (type_of% @snapR_mp) ∧ (type_of% @snapR_ptr) ∧ (type_of% @snapR_fn) ∧ (type_of% @snapR_msl) ∧ (type_of% @snapR_mref) ∧ (type_of% @snapR_agg) ∧ (type_of% @snap_nili) ∧ (type_of% @snap_ifc) ∧ (type_of% @snap_ifr) ∧ (type_of% @snap_iter) ∧ (type_of% @snapV_nili) ∧ (type_of% @snapV_ifc) ∧ (type_of% @snapV_ifr) ∧ (type_of% @snapV_iter) ∧ (type_of% @snapR_nili) ∧ (type_of% @snapR_ifc) ∧ (type_of% @snapR_ifr) ∧ (type_of% @snapR_iter) :=
 ⟨@snap_int, @snapV_int, @snap_bool, @snapV_bool, @snap_str, @snapV_str, @snap_nilp, @snapV_nilp, @snap_nils, @snapV_nils, @snap_nilfn, @snapV_nilfn, @snap_nilm, @snapV_nilm, @snap_sl, @snapV_sl, @snap_cptr, @snapV_cptr, @snap_mp, @snapV_mp, @snap_ptr, @snapV_ptr, @snap_fn, @snapV_fn, @snapV_msl, @snapV_mref, @snap_msl, @snap_mref, @snapV_agg, @snapR_tup, @snapR_int, @snapR_bool, @snapR_str, @snapR_nilp, @snapR_nils, @snapR_nilfn, @snapR_nilm, @snapR_sl, @snapR_cptr, @snapR_mp, @snapR_ptr, @snapR_fn, @snapR_msl, @snapR_mref, @snapR_agg, @snap_nili, @snap_ifc, @snap_ifr, @snap_iter, @snapV_nili, @snapV_ifc, @snapV_ifr, @snapV_iter, @snapR_nili, @snapR_ifc, @snapR_ifr, @snapR_iter⟩
theorem zf : (type_of% @free_int) ∧ (type_of% @freeV_int) ∧ (type_of% @freeR_int) ∧ (type_of% @free_bool) ∧ (type_of% @freeV_bool) ∧ (type_of% @freeR_bool) ∧ (type_of% @free_str) ∧ (type_of% @freeV_str) ∧ (type_of% @freeR_str) ∧ (type_of% @free_nilp) ∧ (type_of% @freeV_nilp) ∧ (type_of% @freeR_nilp) ∧ (type_of% @free_nils) ∧ (type_of% @freeV_nils) ∧ (type_of% @freeR_nils) ∧ (type_of% @free_nilfn) ∧ (type_of% @freeV_nilfn) ∧ (type_of% @freeR_nilfn) ∧ (type_of% @free_nilm) ∧ (type_of% @freeV_nilm) ∧ (type_of% @freeR_nilm) ∧ (type_of% @free_sl) ∧ (type_of% @freeV_sl) ∧ (type_of% @freeR_sl) ∧ (type_of% @free_cptr) ∧ (type_of% @freeV_cptr) ∧ (type_of% @freeR_cptr) ∧ (type_of% @free_mp) ∧ (type_of% @freeV_mp) ∧ (type_of% @freeR_mp) ∧ (type_of% @free_ptr) ∧ (type_of% @freeV_ptr) ∧ (type_of% @freeR_ptr) ∧ (type_of% @free_fn) ∧ (type_of% @freeV_fn) ∧ (type_of% @freeR_fn) ∧ (type_of% @free_msl) ∧ (type_of% @freeV_msl) ∧ (type_of% @freeR_msl) ∧ (type_of% @free_mref) ∧ (type_of% @freeV_mref) ∧ (type_of% @freeR_mref) ∧ (type_of% @freeV_agg) ∧ (type_of% @freeR_agg) ∧ (type_of% @freeR_tup) ∧ (type_of% @free_nili) ∧ (type_of% @free_ifc) ∧ (type_of% @free_ifr) ∧ (type_of% @free_iter) ∧ (type_of% @freeV_nili) ∧ (type_of% @freeV_ifc) ∧ (type_of% @freeV_ifr) ∧ (type_of% @freeV_iter) ∧ (type_of% @freeR_nili) ∧ (type_of% @freeR_ifc) ∧ (type_of% @freeR_ifr) ∧ (type_of% @freeR_iter) :=
 ⟨@free_int, @freeV_int, @freeR_int, @free_bool, @freeV_bool, @freeR_bool, @free_str, @freeV_str, @freeR_str, @free_nilp, @freeV_nilp, @freeR_nilp, @free_nils, @freeV_nils, @freeR_nils, @free_nilfn, @freeV_nilfn, @freeR_nilfn, @free_nilm, @freeV_nilm, @freeR_nilm, @free_sl, @freeV_sl, @freeR_sl, @free_cptr, @freeV_cptr, @freeR_cptr, @free_mp, @freeV_mp, @freeR_mp, @free_ptr, @freeV_ptr, @freeR_ptr, @free_fn, @freeV_fn, @freeR_fn, @free_msl, @freeV_msl, @freeR_msl, @free_mref, @freeV_mref, @freeR_mref, @freeV_agg, @freeR_agg, @freeR_tup, @free_nili, @free_ifc, @free_ifr, @free_iter, @freeV_nili, @freeV_ifc, @freeV_ifr, @freeV_iter, @freeR_nili, @freeR_ifc, @freeR_ifr, @freeR_iter⟩
theorem zc : (type_of% @isCell_int) ∧ (type_of% @val_int) ∧ (type_of% @cells_int) ∧ (type_of% @isCell_bool) ∧ (type_of% @val_bool) ∧ (type_of% @cells_bool) ∧ (type_of% @isCell_str) ∧ (type_of% @val_str) ∧ (type_of% @cells_str) ∧ (type_of% @isCell_nilp) ∧ (type_of% @val_nilp) ∧ (type_of% @cells_nilp) ∧ (type_of% @isCell_nils) ∧ (type_of% @val_nils) ∧ (type_of% @cells_nils) ∧ (type_of% @isCell_nilfn) ∧ (type_of% @val_nilfn) ∧ (type_of% @cells_nilfn) ∧ (type_of% @isCell_nilm) ∧ (type_of% @val_nilm) ∧ (type_of% @cells_nilm) ∧ (type_of% @isCell_sl) ∧ (type_of% @val_sl) ∧ (type_of% @cells_sl) ∧ (type_of% @isCell_cptr) ∧ (type_of% @val_cptr) ∧ (type_of% @cells_cptr) ∧ (type_of% @isCell_mp) ∧ (type_of% @val_mp) ∧ (type_of% @cells_mp) ∧ (type_of% @isCell_ptr) ∧ (type_of% @val_ptr) ∧ (type_of% @cells_ptr) ∧ (type_of% @isCell_fn) ∧ (type_of% @val_fn) ∧ (type_of% @cells_fn) ∧ (type_of% @isCell_msl) ∧ (type_of% @val_msl) ∧ (type_of% @cells_msl) ∧ (type_of% @isCell_mref) ∧ (type_of% @val_mref) ∧ (type_of% @cells_mref) ∧ (type_of% @val_agg) ∧ (type_of% @cells_agg) ∧ (type_of% @isCell_nili) ∧ (type_of% @isCell_ifc) ∧ (type_of% @isCell_ifr) ∧ (type_of% @isCell_iter) ∧ (type_of% @val_nili) ∧ (type_of% @val_ifc) ∧ (type_of% @val_ifr) ∧ (type_of% @val_iter) ∧ (type_of% @cells_nili) ∧ (type_of% @cells_ifc) ∧ (type_of% @cells_ifr) ∧ (type_of% @cells_iter) :=
 ⟨@isCell_int, @val_int, @cells_int, @isCell_bool, @val_bool, @cells_bool, @isCell_str, @val_str, @cells_str, @isCell_nilp, @val_nilp, @cells_nilp, @isCell_nils, @val_nils, @cells_nils, @isCell_nilfn, @val_nilfn, @cells_nilfn, @isCell_nilm, @val_nilm, @cells_nilm, @isCell_sl, @val_sl, @cells_sl, @isCell_cptr, @val_cptr, @cells_cptr, @isCell_mp, @val_mp, @cells_mp, @isCell_ptr, @val_ptr, @cells_ptr, @isCell_fn, @val_fn, @cells_fn, @isCell_msl, @val_msl, @cells_msl, @isCell_mref, @val_mref, @cells_mref, @val_agg, @cells_agg, @isCell_nili, @isCell_ifc, @isCell_ifr, @isCell_iter, @val_nili, @val_ifc, @val_ifr, @val_iter, @cells_nili, @cells_ifc, @cells_ifr, @cells_iter⟩
theorem zn : (type_of% @List.set_cons_zero.{0}) ∧ (type_of% @List.set_cons_succ.{0}) :=
 ⟨@List.set_cons_zero.{0}, @List.set_cons_succ.{0}⟩
theorem zq : (type_of% @fp_load_cptr) ∧ (type_of% @fp_load_ptr) ∧ (type_of% @fp_iaddr_sl) ∧ (type_of% @fp_iaddr_msl) ∧ (type_of% @fp_call) ∧ (type_of% @fp_callv) ∧ (type_of% @fp_append) ∧ (type_of% @fp_bslice) ∧ (type_of% @fp_store) ∧ (type_of% @fp_box) ∧ (type_of% @fp_alloc) ∧ (type_of% @fp_bstr) ∧ (type_of% @fp_strb) ∧ (type_of% @fp_slice_sl) ∧ (type_of% @fp_slice_msl) ∧ (type_of% @fp_mapget) ∧ (type_of% @fp_mkslice) ∧ (type_of% @fpAll_f) ∧ (type_of% @fpAll_t) :=
 ⟨@fp_load_cptr, @fp_load_ptr, @fp_iaddr_sl, @fp_iaddr_msl, @fp_call, @fp_callv, @fp_append, @fp_bslice, @fp_store, @fp_box, @fp_alloc, @fp_bstr, @fp_strb, @fp_slice_sl, @fp_slice_msl, @fp_mapget, @fp_mkslice, @fpAll_f, @fpAll_t⟩
theorem zg : (type_of% @List.getD_cons_zero.{0}) ∧ (type_of% @List.getD_cons_succ.{0}) ∧ (type_of% @List.getD_nil.{0}) :=
 ⟨@List.getD_cons_zero.{0}, @List.getD_cons_succ.{0}, @List.getD_nil.{0}⟩
theorem ze : (∀ (v e : List D), exports [] v e = e) ∧ (∀ (i d : Nat) (l : List (Nat × Nat)) (v e : List D), exports ((i, d) :: l) v e = exports l v (e.set i (v.getD d .undef))) ∧ (type_of% @List.set_cons_zero.{0}) ∧ (type_of% @List.set_cons_succ.{0}) ∧ (type_of% @List.getD_cons_zero.{0}) ∧ (type_of% @List.getD_cons_succ.{0}) ∧ (type_of% @List.getD_nil.{0}) :=
 ⟨by intros; rfl, by intros; rfl, @List.set_cons_zero.{0}, @List.set_cons_succ.{0}, @List.getD_cons_zero.{0}, @List.getD_cons_succ.{0}, @List.getD_nil.{0}⟩
theorem zb : (type_of% @eq_self.{1}) ∧ (type_of% @ne_eq.{1}) ∧ (type_of% @not_false_eq_true) ∧ (type_of% @true_and) ∧ (type_of% @ite_true.{1}) ∧ (type_of% @ite_false.{1}) ∧ (type_of% @not_true_eq_false) :=
 ⟨@eq_self.{1}, @ne_eq.{1}, @not_false_eq_true, @true_and, @ite_true.{1}, @ite_false.{1}, @not_true_eq_false⟩
theorem zw : (type_of% @List.length_nil.{0}) ∧ (type_of% @List.length_cons.{0}) ∧ (type_of% @List.range_succ) ∧ (type_of% @List.range_zero) ∧ (type_of% @List.nil_append.{0}) ∧ (type_of% @List.map_nil.{0, 0}) ∧ (type_of% @List.reverse_nil.{0}) ∧ (type_of% @List.cons_append.{0}) ∧ (type_of% @List.map_cons.{0, 0}) ∧ (type_of% @List.reverse_cons.{0}) ∧ (type_of% @Nat.zero_add) ∧ (type_of% @Nat.add_zero) ∧ (type_of% @List.append_nil.{0}) :=
 ⟨@List.length_nil.{0}, @List.length_cons.{0}, @List.range_succ, @List.range_zero, @List.nil_append.{0}, @List.map_nil.{0, 0}, @List.reverse_nil.{0}, @List.cons_append.{0}, @List.map_cons.{0, 0}, @List.reverse_cons.{0}, @Nat.zero_add, @Nat.add_zero, @List.append_nil.{0}⟩
theorem zk : (type_of% @Option.map_some.{0, 0}) ∧ (type_of% @List.all_cons.{0}) ∧ (type_of% @List.all_nil.{0}) ∧ (type_of% @Bool.and_self) ∧ (type_of% @Bool.and_true) ∧ (type_of% @if_true.{1}) ∧ (type_of% @if_false.{1}) ∧ (type_of% @Bool.false_eq_true) ∧ (type_of% @List.length_nil.{0}) ∧ (type_of% @Nat.le_refl) ∧ (type_of% @Nat.zero_le) :=
 ⟨@Option.map_some.{0, 0}, @List.all_cons.{0}, @List.all_nil.{0}, @Bool.and_self, @Bool.and_true, @if_true.{1}, @if_false.{1}, @Bool.false_eq_true, @List.length_nil.{0}, @Nat.le_refl, @Nat.zero_le⟩
theorem zd : (type_of% @loadD_cptr) ∧ (type_of% @loadD_ptr) :=
 ⟨@loadD_cptr, @loadD_ptr⟩
section
variable {call : CallF} {vals env : List D} {S : St} {K : List D → St → Prop} {os : List LOper} {od : List Bool} {ho : Option Nat} {n : Nat} {news : List (TypeId × List D)} {fps : List FP} {r : D} {j : Nat}
theorem getD_of {l : List D} (h : l[j]? = some r) : l.getD j .undef = r := by rw [List.getD_eq_getElem?_getD, h]; rfl
theorem ow_me (h : env[j]? = some r) (k : OW call os (r :: vals) env S K) : OW call (⟨.mv, [.env j], none, od, ho⟩ :: os) vals env S K := ow_pop rfl (by simp only [pop, List.map_cons, List.map_nil, opd, getD_of h]) k
theorem ow_ml (h : vals[j]? = some r) (k : OW call os (r :: vals) env S K) : OW call (⟨.mv, [.loc j], none, od, ho⟩ :: os) vals env S K := ow_pop rfl (by simp only [pop, List.map_cons, List.map_nil, opd, getD_of h]) k
theorem ow_mc (k : OW call os (r :: vals) env S K) : OW call (⟨.mv, [.const r], none, od, ho⟩ :: os) vals env S K := ow_pop rfl rfl k
theorem dw_me (h : env[j]? = some r) (hn : od.length = fps.length) (k : DW call n news os (fpQuiet :: fps) (r :: vals) env S K) : DW call n news (⟨.mv, [.env j], none, od, none⟩ :: os) fps vals env S K := dw_pop rfl (by simp only [pop, List.map_cons, List.map_nil, opd, getD_of h]) hn k
theorem dw_ml (h : vals[j]? = some r) (hn : od.length = fps.length) (k : DW call n news os (fpQuiet :: fps) (r :: vals) env S K) : DW call n news (⟨.mv, [.loc j], none, od, none⟩ :: os) fps vals env S K := dw_pop rfl (by simp only [pop, List.map_cons, List.map_nil, opd, getD_of h]) hn k
theorem dw_mc (hn : od.length = fps.length) (k : DW call n news os (fpQuiet :: fps) (r :: vals) env S K) : DW call n news (⟨.mv, [.const r], none, od, none⟩ :: os) fps vals env S K := dw_pop rfl rfl hn k
end
theorem zo : (∀ (v e : List D) (j : Nat), opd v e (.env j) = e.getD j .undef) ∧ (∀ (v e : List D) (j : Nat), opd v e (.loc j) = v.getD j .undef) ∧ (∀ (v e : List D) (d : D), opd v e (.const d) = d) ∧ (∀ (c : CallF) (S : St) (f : FuncId) (xs : List D), exOp c (.call f) xs S = c f xs S) ∧ (∀ (c : CallF) (S : St) (f : FuncId) (k ys : List D), exOp c .callv (.fn f k :: ys) S = c f (ys ++ k) S) ∧ (∀ (c : CallF) (S : St) (tab : List (TypeId × FuncId)) (t : TypeId) (x : D) (ys : List D), exOp c (.invoke tab) (.ifc t x :: ys) S = match tab.lookup t with | some f => c f (x :: ys) S | none => none) ∧ (∀ (c : CallF) (S : St) (tab : List (TypeId × FuncId)) (t : TypeId) (x : D) (ys : List D), exOp c (.invoke tab) (.ifr t x :: ys) S = match tab.lookup t with | some f => c f (x :: ys) S | none => none) ∧ (∀ (c : CallF) (S : St) (x : D), exOp c .mv [x] S = some (x, S, false)) ∧ (∀ (c : CallF) (S : St) (b : Bool) (x y : D), exOp c .pick [.bool b, x, y] S = some (if b then x else y, S, false)) ∧ (∀ (c : CallF) (S : St) (o : BinOp) (x y : D), exOp c (.bin o) [x, y] S = (binD o x y).map fun r => (r, S, false)) ∧ (∀ (c : CallF) (S : St) (g a b : Bool), exOp c (.eqb g) [.bool a, .bool b] S = some (.bool ((a == b) != g), S, false)) ∧ (∀ (c : CallF) (S : St) (g : Bool) (fs : List Nat) (a b : List D), exOp c (.eqs g fs) [.agg a, .agg b] S = ((eqCells fs a b).map fun r => D.bool (r != g)).map fun r => (r, S, false)) ∧ (∀ (c : CallF) (S : St) (o : UnOp) (x : D), exOp c (.un o) [x] S = (unD o x).map fun r => (r, S, false)) ∧ (∀ (c : CallF) (S : St) (o z : Nat) (g : Bool) (a : List D), exOp c (.field o z g) [.agg a] S = (partD a o z g).map fun r => (r, S, false)) ∧ (∀ (c : CallF) (S : St) (z : List D) (ps : List (Nat × Nat)) (xs : List D), exOp c (.build z ps) xs S = ((fillD z ps xs).map .agg).map fun r => (r, S, false)) ∧ (∀ (c : CallF) (S : St) (g v i o : Nat), exOp c .nilck [.ptr g v i o] S = some (.ptr g v i o, S, false)) ∧ (∀ (c : CallF) (S : St) (r : List D) (o : Nat), exOp c .nilck [.cptr r o] S = some (.cptr r o, S, false)) ∧ (∀ (c : CallF) (S : St) (f : FuncId) (k : List D), exOp c .nilck [.fn f k] S = some (.fn f k, S, false)) ∧ (∀ (c : CallF) (S : St) (o : Nat) (a : D), exOp c (.faddr o) [a] S = (faddrD o a).map fun r => (r, S, false)) ∧ (∀ (c : CallF) (S : St) (z n : Nat) (x i : D), exOp c (.aaddr z n) [x, i] S = (aaddrD z n x i).map fun r => (r, S, false)) ∧ (∀ (c : CallF) (S : St) (x i : D), exOp c .index [x, i] S = (indexD x i).map fun r => (r, S, false)) ∧ (∀ (c : CallF) (S : St) (z n : Nat) (g : Bool) (a : List D) (k : IntKind) (i : Int), exOp c (.aindex z n g) [.agg a, .int k i] S = (if 0 ≤ i ∧ i < n then partD a (i.toNat * z) z g else none).map fun r => (r, S, false)) ∧ (∀ (c : CallF) (S : St) (z : Nat) (a b d : Bool) (s : ByteArray) (xs : List D), exOp c (.slice true z a b d) (.str s :: xs) S = (match sliceArgs a b d xs with | some (a, b, none) => (boundsD s.size a b).map fun (l, h) => D.str (s.extract l h) | _ => none).map fun r => (r, S, false)) ∧ (∀ (c : CallF) (S : St) (g : Bool) (x : D), exOp c (.len g) [x] S = (lenD g x).map fun r => (r, S, false)) ∧ (∀ (c : CallF) (S : St) (n : Nat) (x : D), exOp c (.lenc n) [x] S = some (.int .i64 n, S, false)) ∧ (∀ (c : CallF) (S : St) (x : D), exOp c .cap [x] S = (capD x).map fun r => (r, S, false)) ∧ (∀ (c : CallF) (S : St) (x : D) (l : List D), exOp c .max (x :: l) S = (foldD maxD x l).map fun r => (r, S, false)) ∧ (∀ (c : CallF) (S : St) (x : D) (l : List D), exOp c .min (x :: l) S = (foldD minD x l).map fun r => (r, S, false)) ∧ (∀ (c : CallF) (S : St) (f : FuncId) (xs : List D), exOp c (.mkfn f) xs S = some (.fn f xs, S, false)) ∧ (∀ (c : CallF) (S : St) (i : Nat) (a : List D), exOp c (.extract i) [.tup a] S = (a[i]?).map fun r => (r, S, false)) ∧ (∀ (c : CallF) (S : St) (k k' : IntKind) (n : Int), exOp c (.conv k) [.int k' n] S = some (.int k (k.wrap n), S, false)) ∧ (∀ (c : CallF) (S : St) (s : ByteArray), exOp c .sconv [.str s] S = some (.str s, S, false)) ∧ (∀ (c : CallF) (S : St) (s : ByteArray) (n : Int), exOp c .idxb [.str s, .int .u8 n] S = some (.int .i64 (match (List.range s.size).find? (fun i => s[i]! == UInt8.ofNat n.toNat) with | some i => (i : Int) | none => -1), S, false)) ∧ (∀ (c : CallF) (S : St) (s : ByteArray) (n : Int), exOp c .cntb [.str s, .int .u8 n] S = some (.int .i64 (s.foldl (fun k x => if x == UInt8.ofNat n.toNat then k + 1 else k) (0 : Nat)), S, false)) ∧ (∀ (c : CallF) (S : St) (g : Bool) (n : Nat) (x y : D), exOp c (.eqnil g n) [x, y] S = ((eqnilD n x y).map fun b => D.bool (b != g)).map fun r => (r, S, false)) ∧ (∀ (c : CallF) (S : St) (t : TypeId) (x : D), exOp c (.mkif t) [x] S = (if x.val then some (if x.freeV then .ifc t x else .ifr t x) else none).map fun r => (r, S, false)) ∧ (type_of% @List.map_cons.{0, 0}) ∧ (type_of% @List.map_nil.{0, 0}) ∧ (type_of% @List.getD_cons_zero.{0}) ∧ (type_of% @List.getD_cons_succ.{0}) ∧ (type_of% @List.getD_nil.{0}) ∧ (type_of% @if_false.{1}) ∧ (type_of% @if_true.{1}) ∧ (type_of% @Bool.false_eq_true) ∧ (type_of% @Option.map_some.{0, 0}) :=
 ⟨by intros; rfl, by intros; rfl, by intros; rfl, by intros; rfl, by intros; rfl, by intros; rfl, by intros; rfl, by intros; rfl, by intros; rfl, by intros; rfl, by intros; rfl, by intros; rfl, by intros; rfl, by intros; rfl, by intros; rfl, by intros; rfl, by intros; rfl, by intros; rfl, by intros; rfl, by intros; rfl, by intros; rfl, by intros; rfl, by intros; rfl, by intros; rfl, by intros; rfl, by intros; rfl, by intros; rfl, by intros; rfl, by intros; rfl, by intros; rfl, by intros; rfl, by intros; rfl, by intros; rfl, by intros; rfl, by intros; rfl, by intros; rfl, @List.map_cons.{0, 0}, @List.map_nil.{0, 0}, @List.getD_cons_zero.{0}, @List.getD_cons_succ.{0}, @List.getD_nil.{0}, @if_false.{1}, @if_true.{1}, @Bool.false_eq_true, @Option.map_some.{0, 0}⟩
theorem zl : (∀ (v e : List D) (j : Nat), opd v e (.env j) = e.getD j .undef) ∧ (∀ (v e : List D) (j : Nat), opd v e (.loc j) = v.getD j .undef) ∧ (∀ (v e : List D) (d : D), opd v e (.const d) = d) ∧ (∀ (c : CallF) (S : St) (e : TypeId) (z : List D), exOp c (.alloc e z) [] S = some (.ptr S.heap.length 0 0 0, newAt S ⟨e, z.length, [z], 0, 0, false⟩, true)) ∧ (∀ (c : CallF) (S : St) (e : TypeId) (z : Nat) (x : D), exOp c (.box e z) [x] S = if x.val && x.cells.length == z then some (.ptr S.heap.length 0 0 0, newAt S ⟨e, z, [x.cells], 0, 0, false⟩, true) else none) ∧ (∀ (c : CallF) (S : St) (e z n : Nat) (d : List D) (ps : List Nat) (k : Nat) (xs : List D), exOp c (.bslice e z n d ps k) xs S = if k = 0 then (match fillRows0 (List.replicate n d) z ps xs with | some rs => some (.msl S.heap.length 0 0 n none, newAt S ⟨e, z, rs, 0, 0, false⟩, true) | none => none) else match snapVs S.heap.length S.heap xs with | some ys => (match fillRows (List.replicate n d) z ps ys with | some rs => if k = 2 then some (.msl S.heap.length 0 0 n none, newAt S ⟨e, z, rs, 0, 2, false⟩, true) else some (.sl z rs (some n), S, false) | none => none) | none => none) ∧ (∀ (c : CallF) (S : St) (z : Nat) (g : Bool) (a : D), exOp c (.load z g) [a] S = (loadD z g S a).map fun r => (r, S, false)) ∧ (∀ (c : CallF) (S : St) (z : Nat) (a x : D), exOp c (.store z) [a, x] S = (storeD z S a x).map fun S' => (.undef, S', true)) ∧ (∀ (c : CallF) (S : St) (z : Nat) (x i : D), exOp c (.iaddr z) [x, i] S = (iaddrD S z x i).map fun r => (r, S, false)) ∧ (∀ (c : CallF) (S : St) (z : Nat) (a b d : Bool) (x : D) (xs : List D), exOp c (.slice false z a b d) (x :: xs) S = match sliceArgs a b d xs with | some (a, b, m) => (sliceD S z x a b m).map fun r => (r, S, false) | none => none) ∧ (∀ (c : CallF) (S : St) (e z n k : Nat) (s x : D), exOp c (.append e z n k) [s, x] S = appendD e z n k s x S) ∧ (∀ (c : CallF) (S : St) (e z n : Nat) (d : List D) (g : Nat) (k k' : IntKind) (l m : Int), exOp c (.mkslice e z n d g) [.int k l, .int k' m] S = if 0 ≤ l ∧ l ≤ m ∧ m.toNat * n ≤ 140737488355328 then some (.msl S.heap.length 0 0 l.toNat none, newAt S ⟨e, z, List.replicate l.toNat d, 0, g, decide (l ≠ m)⟩, true) else none) ∧ (∀ (c : CallF) (S : St) (x : D), exOp c .bstr [x] S = match readRows S 1 x with | some rows => (bytesOf rows).map fun b => (.str ⟨b.toArray⟩, S, false) | none => none) ∧ (∀ (c : CallF) (S : St) (s : ByteArray), exOp c .strb [.str s] S = some (.sl 1 (byteRows s) none, S, false)) ∧ (∀ (c : CallF) (S : St) (e z n : Nat) (d : List D) (k : IntKind) (m : Int), exOp c (.appmk e z n d) [.nils, .int k m] S = if 0 < m ∧ m.toNat * n ≤ 140737488355328 then some (.msl S.heap.length 0 0 m.toNat none, newAt S ⟨e, z, List.replicate m.toNat d, 0, 2, true⟩, true) else none) ∧ (∀ (c : CallF) (S : St) (e n k : Nat) (s : D) (t : ByteArray), exOp c (.appstr e n k) [s, .str t] S = appendRows e 1 n k s (byteRows t) S) ∧ (∀ (c : CallF) (S : St) (g : Bool) (x y : D), exOp c (.eqp g) [x, y] S = (eqpD S x y).map fun b => (.bool (b != g), S, false)) ∧ (∀ (c : CallF) (S : St) (t : TypeId) (n : Nat) (x : D), exOp c (.toU t n) [x] S = (wholeD S t n x).map fun r => (r, S, false)) ∧ (∀ (c : CallF) (S : St) (t : TypeId) (n : Nat) (x : D), exOp c (.ofU t n) [x] S = (wholeD S t n x).map fun r => (r, S, false)) ∧ (∀ (c : CallF) (S : St) (x : D), exOp c .sdata [x] S = (sdataD S x).map fun r => (r, S, false)) ∧ (∀ (c : CallF) (S : St) (e : TypeId) (x : D) (n : Int), exOp c (.ustr e) [x, .int .i64 n] S = ustrD S e x n) ∧ (∀ (c : CallF) (S : St) (x : D), exOp c .strsh [x] S = strshD S x) ∧ (∀ (c : CallF) (S : St) (s : ByteArray), exOp c .rngs [.str s] S = some (.iter S.heap.length 0, newAt S ⟨1, 2, [[.str s, .int .i64 0]], 0, 3, false⟩, true)) ∧ (∀ (c : CallF) (S : St) (g v : Nat), exOp c .nexts [.iter g v] S = nextsD S g v) ∧ (∀ (c : CallF) (S : St), exOp c .mkmap [] S = some (.mref S.heap.length 0, newAt S ⟨0, 2, [], 0, 3, false⟩, true)) ∧ (∀ (c : CallF) (S : St) (k : Nat) (a b d : D), exOp c (.mapset k) [a, b, d] S = (mapsetD S k a b d).map fun S' => (.undef, S', true)) ∧ (∀ (c : CallF) (S : St) (k : Nat) (z : D) (g : Bool) (a b : D), exOp c (.mapget k z g) [a, b] S = (mapgetD S k z g a b).map fun r => (r, S, false)) ∧ (∀ (c : CallF) (S : St) (k : List Nat) (a b d : D), exOp c (.mapsetS k) [a, b, d] S = (mapsetSD S k a b d).map fun S' => (.undef, S', true)) ∧ (∀ (c : CallF) (S : St) (k : List Nat) (z : D) (g : Bool) (a b : D), exOp c (.mapgetS k z g) [a, b] S = (mapgetSD S k z g a b).map fun r => (r, S, false)) ∧ (∀ (c : CallF) (S : St) (z k : Nat) (d x : D), exOp c (.copy z k) [d, x] S = match readK k S z x with | some src => copyRows z k d src S | none => none) ∧ (∀ (c : CallF) (S : St) (k : Nat) (d : D) (s : ByteArray), exOp c (.copys k) [d, .str s] S = if k = 0 then none else copyRows 1 k d (byteRows s) S) ∧ (∀ (c : CallF) (S : St) (e : TypeId) (n : Int), exOp c (.mknz e) [.int .i64 n] S = if 0 ≤ n ∧ n ≤ 140737488355328 then some (.msl S.heap.length 0 0 n.toNat none, newAt S ⟨e, 1, List.replicate n.toNat [.junk], 0, 2, true⟩, true) else none) ∧ (∀ (S : St) (g v : Nat), rowsOf S g v = match S.heap[g]? with | some o => if o.ver = v then some o else none | none => none) ∧ (∀ (S : St) (o : AObj), newAt S o = ⟨S.heap ++ [o], S.low⟩) ∧ (∀ (S : St) (g : Nat) (o : AObj), setAt S g o = ⟨S.heap.set g o, min S.low g⟩) ∧ (type_of% @List.map_cons.{0, 0}) ∧ (type_of% @List.map_nil.{0, 0}) ∧ (type_of% @List.getD_cons_zero.{0}) ∧ (type_of% @List.getD_cons_succ.{0}) ∧ (type_of% @List.getD_nil.{0}) ∧ (type_of% @at_app) ∧ (type_of% @at_app0) ∧ (type_of% @set_app) ∧ (type_of% @set_app0) ∧ (type_of% @min_low) ∧ (type_of% @List.append_assoc.{0}) ∧ (type_of% @List.length_append.{0}) ∧ (type_of% @List.length_set.{0}) ∧ (type_of% @List.set_cons_zero.{0}) ∧ (type_of% @List.set_cons_succ.{0}) ∧ (type_of% @Nat.min_self) ∧ (type_of% @Nat.zero_min) ∧ (type_of% @Nat.min_zero) :=
 ⟨by intros; rfl, by intros; rfl, by intros; rfl, by intros; rfl, by intros; rfl, by intros; rfl, by intros; rfl, by intros; rfl, by intros; rfl, by intros; rfl, by intros; rfl, by intros; rfl, by intros; rfl, by intros; rfl, by intros; rfl, by intros; rfl, by intros; rfl, by intros; rfl, by intros; rfl, by intros; rfl, by intros; rfl, by intros; rfl, by intros; rfl, by intros; rfl, by intros; rfl, by intros; rfl, by intros; rfl, by intros; rfl, by intros; rfl, by intros; rfl, by intros; rfl, by intros; rfl, by intros; rfl, by intros; rfl, by intros; rfl, @List.map_cons.{0, 0}, @List.map_nil.{0, 0}, @List.getD_cons_zero.{0}, @List.getD_cons_succ.{0}, @List.getD_nil.{0}, @at_app, @at_app0, @set_app, @set_app0, @min_low, @List.append_assoc.{0}, @List.length_append.{0}, @List.length_set.{0}, @List.set_cons_zero.{0}, @List.set_cons_succ.{0}, @Nat.min_self, @Nat.zero_min, @Nat.min_zero⟩
end Go.Proofs.YtcogjcplldpkaaaGreat

namespace Go.Proofs.YtcogjcplldpkaaaGreat
open Go.RowKit
set_option linter.unusedVariables false

def rho0 (G : Nat → Option (List D)) : RMap := ⟨fun _ => none, ⟨fun _ _ => False, G⟩⟩
def GlobOK (G : Nat → Option (List D)) (w : World) : Prop := ∀ g row, G g = some row → VR w (rho0 G) [] (.cptr row 0) (.pointer (some ⟨g, 0, none⟩))
theorem glob_none (w : World) : GlobOK (fun _ => none) w := fun g row h => by simp at h
theorem rel0 {G : Nat → Option (List D)} {w : World} (hG : GlobOK G w) : Rel w (rho0 G) [] := ⟨fun g g' b h => by simp [rho0] at h, fun g b h => by simp [rho0] at h, fun b q h => h.elim, hG⟩
theorem imm0 {G : Nat → Option (List D)} {w : World} {b q : Nat} (h : b < w.heap.size) : Imm w (rho0 G) [] b q := ⟨h, fun h => h, fun g hg => by simp [rho0] at hg⟩
theorem call0 {P : Program} {G : Nat → Option (List D)} {L : Prg} (hm : P.follows .mixedOrders = true) (hL : PrgOK P G L) {N d : Nat} {f : FuncId} {ds : List D} {b : Bool} (h : runF L N d f ds ⟨[], 0⟩ = some (.bool b, ⟨[], 0⟩, false)) {w : World} (hG : GlobOK G w) {vs : List Value} (hv : VL w (rho0 G) [] ds vs) :
  Calls P f vs.toArray w fun e w' => e = .returned (.bool b) ∧ Below w.heap.size w w' := by
 obtain ⟨_, hc⟩ := run_ok hm hL N d f ds ⟨[], 0⟩ (.bool b) ⟨[], 0⟩ false h w (rho0 G) vs rfl (rel0 hG) hv
 refine hc.mono ?_
 rintro e w' ⟨v, rfl, hp⟩
 obtain ⟨ρ', hr, hs, hv', _⟩ := hp
 refine ⟨?_, ?_⟩
 ·
  cases hv'
  rfl
 ·
  exact ⟨hs.os, hs.tape, hs.output, hs.size, fun k hk => (hs.out k hk (fun g hg => by simp [rho0] at hg)).1⟩
/-! an argument, as it is read, in the machine -/
section
variable {G : Nat → Option (List D)} {H : Type} {enc : TypeId × Value → H} {P : Program} {w : World} {base : Nat} {spare : Nat → Bool} {held : Bool}
def tileT (P : Program) : List Field → Nat → Option Nat
 | [], o => some o
 | f :: l, o => if f.offset = o then tileT P l (o + P.cellsOf f.type) else none
def okT (P : Program) : Nat → TypeId → Bool
 | 0, _ => false
 | n + 1, t => match P.underlying t with
  | some (.int _) | some .bool | some .string => P.cellsOf t == 1
  | some (.slice e) => P.cellsOf t == 1 && okT P n e && decide (0 < P.cellsOf e)
  | some (.array k e) => okT P n e && P.cellsOf t == k * P.cellsOf e
  | some (.struct fs) => tileT P fs.toList 0 == some (P.cellsOf t) && fs.all fun f => okT P n f.type
  | _ => false
def Sh (P : Program) : Nat → TypeId → List D → Prop
 | 0, _, _ => False
 | n + 1, t, ds => match P.underlying t with
  | some (.int k) => ∃ m, ds = [.int k m] ∧ (Lit.int k m).wf = true
  | some .bool => ∃ b, ds = [.bool b]
  | some .string => ∃ s : ByteArray, ds = [.str s] ∧ s.size ≤ maxLen
  | some (.slice e) => ∃ x rows, ds = [x] ∧ SlD (P.cellsOf e) rows x ∧ rows.length ≤ maxLen ∧ ∀ r ∈ rows, Sh P n e r
  | some (.array k e) => ∃ parts : List (List D), ds = parts.flatten ∧ parts.length = k ∧ ∀ r ∈ parts, Sh P n e r
  | some (.struct fs) => ∃ parts : List (List D), ds = parts.flatten ∧ parts.length = fs.size ∧ ∀ (j : Nat) (f : Field), fs[j]? = some f → ∃ r, parts[j]? = some r ∧ Sh P n f.type r
  | _ => False
theorem Sh.int {n : Nat} {t : TypeId} {k : IntKind} {ds : List D} (hu : P.underlying t = some (.int k)) (h : Sh P (n + 1) t ds) : ∃ m, ds = [.int k m] ∧ (Lit.int k m).wf = true := by simpa only [Sh, hu] using h
theorem Sh.bool {n : Nat} {t : TypeId} {ds : List D} (hu : P.underlying t = some .bool) (h : Sh P (n + 1) t ds) : ∃ b, ds = [.bool b] := by simpa only [Sh, hu] using h
theorem Sh.str {n : Nat} {t : TypeId} {ds : List D} (hu : P.underlying t = some .string) (h : Sh P (n + 1) t ds) : ∃ s : ByteArray, ds = [.str s] ∧ s.size ≤ maxLen := by simpa only [Sh, hu] using h
theorem Sh.slice {n : Nat} {t e : TypeId} {ds : List D} (hu : P.underlying t = some (.slice e)) (h : Sh P (n + 1) t ds) : ∃ x rows, ds = [x] ∧ SlD (P.cellsOf e) rows x ∧ rows.length ≤ maxLen ∧ ∀ r ∈ rows, Sh P n e r := by simpa only [Sh, hu] using h
theorem Sh.array {n k : Nat} {t e : TypeId} {ds : List D} (hu : P.underlying t = some (.array k e)) (h : Sh P (n + 1) t ds) : ∃ parts : List (List D), ds = parts.flatten ∧ parts.length = k ∧ ∀ r ∈ parts, Sh P n e r := by simpa only [Sh, hu] using h
theorem Sh.struct {n : Nat} {t : TypeId} {fs : Array Field} {ds : List D} (hu : P.underlying t = some (.struct fs)) (h : Sh P (n + 1) t ds) : ∃ parts : List (List D), ds = parts.flatten ∧ parts.length = fs.size ∧ ∀ (j : Nat) (f : Field), fs[j]? = some f → ∃ r, parts[j]? = some r ∧ Sh P n f.type r := by simpa only [Sh, hu] using h
theorem rows_of {α : Type} {f : α → List D} : ∀ {rows : List (List D)}, (∀ r ∈ rows, ∃ a, r = f a) → ∃ l : List α, rows = l.map f
 | [], _ => ⟨[], rfl⟩
 | r :: rows, h => by
  obtain ⟨l, rfl⟩ := rows_of (fun r' hr' => h r' (List.mem_cons_of_mem _ hr'))
  obtain ⟨a, rfl⟩ := h r List.mem_cons_self
  exact ⟨a :: l, rfl⟩
theorem u8_nat {n : Int} (h : (Lit.int .u8 n).wf = true) : ∃ m : Nat, n = m ∧ m < 256 := by
 have b : 0 ≤ n ∧ n ≤ 255 := by simpa [Lit.wf, IntKind.min, IntKind.max, IntKind.signed, IntKind.bits] using h
 exact ⟨n.toNat, by omega, by omega⟩
def freeL (ds : List D) : Prop := ∀ d ∈ ds, d.free = true
theorem cell_plain {a : Addr} {v : Value} (h : w.cell? a = some v) : a.spot = none ∧ a.block < w.heap.size := by
 refine ⟨?_, World.block_lt_of_cell? w _ h⟩
 unfold World.cell? at h
 split at h
 ·
  split at h
  ·
   simp at h
  ·
   rename_i hs; simpa using hs
 ·
  simp at h
theorem vr_rows {sz len cap : Nat} {a : Addr} {rows : List (List D)} {vals : List (List Value)} (h0z : 0 < sz) (hlen : rows.length = len) (hvl : vals.length = len) (hcap : len ≤ cap) (hz : ∀ r ∈ rows, r.length = sz) (hfree : ∀ r ∈ rows, freeL r)
    (hi : ∀ i r vs, rows[i]? = some r → vals[i]? = some vs → VL w (rho0 G) [] r vs ∧ ∀ j, j < sz → w.cell? (a.add (i * sz + j)) = vs[j]?) :
    VR w (rho0 G) [] (.sl sz rows none) (.slice (some a) len cap) := by
  by_cases hne : rows ≠ []
  · have h0 : 0 < rows.length := List.length_pos_iff.2 hne
    have hv0 : 0 < vals.length := by omega
    have hr0 : rows[0]? = some rows[0] := List.getElem?_eq_getElem h0
    obtain ⟨hl, hc⟩ := hi 0 _ _ hr0 (List.getElem?_eq_getElem hv0)
    have hs0 := hz rows[0] (List.getElem_mem h0)
    have hc := hc 0 h0z
    have hl := hl.len
    rw [List.getElem?_eq_getElem (by omega)] at hc
    rw [show a.add (0 * sz + 0) = a by simp [Addr.add]] at hc
    obtain ⟨hsp, _⟩ := cell_plain hc
    obtain ⟨b, o, sp⟩ := a
    have hsp : sp = none := hsp
    subst hsp
    have hb : b < w.heap.size := World.block_lt_of_cell? w _ hc
    refine VR.sl sz rows none ⟨b, o, none⟩ len cap hlen.symm hcap (fun k h => by simp at h) hz b o (fun i j => ((vals[i]?.getD [])[j]?).getD .nilFunc) (fun _ => rfl) ?_ ?_
    · intro i r j d h1 h2
      obtain ⟨i1, _⟩ := List.getElem?_eq_some_iff.1 h1
      have hv1 : vals[i]? = some (vals[i]'(by omega)) := List.getElem?_eq_getElem (by omega)
      obtain ⟨hl', hc'⟩ := hi i r _ h1 hv1
      have hz' := hz r (List.mem_of_getElem? h1)
      have hj := (List.getElem?_eq_some_iff.1 h2).1
      have hc' := hc' j (by omega)
      rw [add_plain, ← Nat.add_assoc] at hc'
      have hl'' := hl'.len
      refine ⟨?_, imm0 hb, hfree r (List.mem_of_getElem? h1) d (List.mem_of_getElem? h2)⟩
      rw [hc', hv1]
      simp [List.getElem?_eq_getElem (show j < (vals[i]'(by omega)).length by omega)]
    · intro i r j d h1 h2
      obtain ⟨i1, _⟩ := List.getElem?_eq_some_iff.1 h1
      have hv1 : vals[i]? = some (vals[i]'(by omega)) := List.getElem?_eq_getElem (by omega)
      obtain ⟨hl', _⟩ := hi i r _ h1 hv1
      have hj := (List.getElem?_eq_some_iff.1 h2).1
      have hl'' := hl'.len
      refine hl'.get h2 ?_
      rw [hv1]
      simp [List.getElem?_eq_getElem (show j < (vals[i]'(by omega)).length by omega)]
  · have he : rows = [] := Classical.byContradiction hne
    subst he
    exact VR.sl sz [] none a len cap hlen.symm hcap (fun k h => by simp at h) hz 0 0 (fun _ _ => .nilFunc) (fun h => absurd rfl h) (fun i r j d h1 => by simp at h1) (fun i r j d h1 => by simp at h1)
theorem choose_rows {α β : Type} {p : Nat → α → β → Prop} : ∀ n, (∀ i, i < n → ∃ a b, p i a b) → ∃ (l : List α) (m : List β), l.length = n ∧ m.length = n ∧ ∀ i a b, l[i]? = some a → m[i]? = some b → p i a b
 | 0, _ => ⟨[], [], rfl, rfl, fun i a b h => by simp at h⟩
 | n + 1, h => by
  obtain ⟨l, m, h1, h2, h3⟩ := choose_rows n (fun i hi => h i (by omega))
  obtain ⟨a, b, hab⟩ := h n (by omega)
  refine ⟨l ++ [a], m ++ [b], by simp [h1], by simp [h2], fun i a' b' e1 e2 => ?_⟩
  rw [List.getElem?_append] at e1 e2
  rw [h1] at e1
  rw [h2] at e2
  by_cases hi : i < n
  ·
   rw [if_pos hi] at e1 e2
   exact h3 i a' b' e1 e2
  ·
   rw [if_neg hi] at e1 e2
   have : i = n := by
    rcases Nat.lt_trichotomy i n with h | h | h
    ·
     omega
    ·
     exact h
    ·
     rw [List.getElem?_eq_none (by simp; omega)] at e1; simp at e1
   subst this
   simp at e1 e2
   subst e1 e2
   exact hab
theorem vl_parts {n : Nat} {cs : List Value} : ∀ (fs : List Field) (o e : Nat), tileT P fs o = some e → (∀ (j : Nat) (f : Field), fs[j]? = some f → ∃ r, VL w (rho0 G) [] r ((cs.drop f.offset).take (P.cellsOf f.type)) ∧ Sh P n f.type r ∧ freeL r) →
    ∃ parts : List (List D), parts.length = fs.length ∧ o ≤ e ∧ VL w (rho0 G) [] parts.flatten ((cs.drop o).take (e - o)) ∧ freeL parts.flatten ∧ ∀ (j : Nat) (f : Field), fs[j]? = some f → ∃ r, parts[j]? = some r ∧ Sh P n f.type r
  | [], o, e, h, _ => by
    simp only [tileT, Option.some.injEq] at h
    subst h
    exact ⟨[], rfl, Nat.le_refl _, by simpa using VL.nil, fun d hd => by simp at hd, fun j f h => by simp at h⟩
  | f :: l, o, e, h, hf => by
    simp only [tileT] at h
    split at h
    · rename_i ho
      obtain ⟨parts, h1, h2, h3, h4, h5⟩ := vl_parts l _ e h (fun j g hg => hf (j + 1) g (by simpa using hg))
      obtain ⟨r, r1, r2, r3⟩ := hf 0 f rfl
      rw [ho] at r1
      refine ⟨r :: parts, by simp [h1], by omega, ?_, ?_, ?_⟩
      · have e1 : (cs.drop o).take (e - o) = (cs.drop o).take (P.cellsOf f.type) ++ (cs.drop (o + P.cellsOf f.type)).take (e - (o + P.cellsOf f.type)) := by
          have : e - o = P.cellsOf f.type + (e - (o + P.cellsOf f.type)) := by omega
          rw [this, List.take_add, List.drop_drop]
        rw [List.flatten_cons, e1]
        exact r1.append h3
      · rw [List.flatten_cons]
        intro d hd
        rcases List.mem_append.1 hd with hd | hd
        · exact r3 d hd
        · exact h4 d hd
      · intro j g hg
        cases j with
        | zero => simp at hg; subst hg; exact ⟨r, rfl, r2⟩
        | succ j => simpa using h5 j g (by simpa using hg)
    · simp at h
theorem open_any : ∀ (n : Nat) (t : TypeId) (fuel : Nat) (cs : List Value) (x : DataW H × List MemPlace), okT P n t = true → DataW.trod enc P w base spare held fuel t cs = some x → ∃ ds, VL w (rho0 G) [] ds cs ∧ Sh P n t ds ∧ freeL ds ∧ ds.length = P.cellsOf t
  | 0, t, fuel, cs, x, ho, h => by simp [okT] at ho
  | n + 1, t, fuel, cs, x, ho, h => by
    simp only [okT] at ho
    split at ho
    · rename_i k hu
      obtain ⟨m, rfl, _, hw⟩ := DataW.trod_int hu h
      exact ⟨[.int k m], .cons (.int k m) .nil, by simp only [Sh, hu]; exact ⟨m, rfl, hw⟩, by simp [freeL, free_int], by simpa using (beq_iff_eq.1 ho).symm⟩
    · rename_i hu
      obtain ⟨b, rfl, _⟩ := DataW.trod_bool hu h
      exact ⟨[.bool b], .cons (.bool b) .nil, by simp only [Sh, hu]; exact ⟨b, rfl⟩, by simp [freeL, free_bool], by simpa using (beq_iff_eq.1 ho).symm⟩
    · rename_i hu
      obtain ⟨s, rfl, _, hs⟩ := DataW.trod_string hu h
      exact ⟨[.str s], .cons (.str s) .nil, by simp only [Sh, hu]; exact ⟨s, rfl, hs⟩, by simp [freeL, free_str], by simpa using (beq_iff_eq.1 ho).symm⟩
    · rename_i e hu
      simp only [Bool.and_eq_true, beq_iff_eq, decide_eq_true_eq] at ho
      obtain ⟨⟨hc1, ho⟩, hpos⟩ := ho
      rcases DataW.trod_slice hu h with ⟨rfl, _⟩ | ⟨a, len, cap, elems, rest, m, _, rfl, _, hb, hl, hm, hel, hi, _⟩
      · exact ⟨[.nils], .cons .nils .nil, by simp only [Sh, hu]; exact ⟨_, [], rfl, .nil _, by simp, by simp⟩, by simp [freeL, free_nils], by simp [hc1]⟩
      · have key : ∀ i, i < len → ∃ (r : List D) (vs : List Value), (VL w (rho0 G) [] r vs ∧ ∀ j, j < P.cellsOf e → w.cell? (a.add (i * P.cellsOf e + j)) = vs[j]?) ∧ Sh P n e r ∧ freeL r ∧ r.length = P.cellsOf e := by
          intro i hi'
          have h1 := hi i hi'
          rw [List.getElem?_eq_getElem (by omega), Option.bind_eq_some_iff] at h1
          obtain ⟨vs, hv, ht⟩ := h1
          obtain ⟨r, r1, r2, r3, r4⟩ := open_any n e m vs _ ho ht
          refine ⟨r, vs, ⟨r1, fun j hj => ?_⟩, r2, r3, r4⟩
          obtain ⟨_, _, hat⟩ := World.cells?_some hv
          rw [← Go.Deep.add_add]
          exact hat j hj
        obtain ⟨rows, vals, h1, h2, h3⟩ := choose_rows len key
        have hall : ∀ r ∈ rows, Sh P n e r ∧ freeL r ∧ r.length = P.cellsOf e := by
          intro r hr
          obtain ⟨i, hi1, rfl⟩ := List.getElem_of_mem hr
          exact (h3 i _ _ (List.getElem?_eq_getElem hi1) (List.getElem?_eq_getElem (show i < vals.length by omega))).2
        refine ⟨[.sl (P.cellsOf e) rows none], .cons (vr_rows hpos h1 h2 hl (fun r hr => (hall r hr).2.2) (fun r hr => (hall r hr).2.1) (fun i r vs e1 e2 => (h3 i r vs e1 e2).1)) .nil, ?_, by simp [freeL, free_sl], by simp [hc1]⟩
        simp only [Sh, hu]
        exact ⟨_, rows, rfl, .of _ _ _, by omega, fun r hr => (hall r hr).1⟩
    · rename_i k e hu
      simp only [Bool.and_eq_true, beq_iff_eq] at ho
      obtain ⟨ho, hsz⟩ := ho
      obtain ⟨xs, m, _, _, hcl, hxl, hi⟩ := DataW.trod_array hu h
      have key : ∀ k', k' ≤ k → ∃ parts : List (List D), parts.length = k' ∧ VL w (rho0 G) [] parts.flatten (cs.take (k' * P.cellsOf e)) ∧ freeL parts.flatten ∧ ∀ r ∈ parts, Sh P n e r := by
        intro k'
        induction k' with
        | zero => intro _; exact ⟨[], rfl, by simpa using VL.nil, fun d hd => by simp at hd, by simp⟩
        | succ k' ih =>
          intro hk
          obtain ⟨parts, p1, p2, p3, p4⟩ := ih (by omega)
          have h1 := hi k' (by omega)
          rw [List.getElem?_eq_getElem (by omega)] at h1
          obtain ⟨r, r1, r2, r3, r4⟩ := open_any n e m _ _ ho h1
          refine ⟨parts ++ [r], by simp [p1], ?_, ?_, ?_⟩
          · rw [List.flatten_append, Nat.succ_mul, List.take_add]
            simpa using p2.append r1
          · rw [List.flatten_append]
            intro d hd
            rcases List.mem_append.1 hd with hd | hd
            · exact p3 d hd
            · exact r3 d (by simpa using hd)
          · intro r' hr'
            rcases List.mem_append.1 hr' with h | h
            · exact p4 r' h
            · simp at h; subst h; exact r2
      obtain ⟨parts, p1, p2, p3, p4⟩ := key k (Nat.le_refl _)
      rw [← hsz, ← hcl, List.take_length] at p2
      exact ⟨parts.flatten, p2, by simp only [Sh, hu]; exact ⟨parts, rfl, p1, p4⟩, p3, by rw [← p2.len, hcl]⟩
    · rename_i fs hu
      simp only [Bool.and_eq_true, beq_iff_eq, Array.all_eq_true] at ho
      obtain ⟨htile, ho⟩ := ho
      obtain ⟨xs, m, _, _, hcl, hxl, hi⟩ := DataW.trod_struct hu h
      obtain ⟨parts, p1, p2, p3, p4, p5⟩ := vl_parts (P := P) (n := n) (cs := cs) fs.toList 0 _ htile (fun j f hf => by
        have hf' : fs[j]? = some f := by simpa using hf
        obtain ⟨hj, hfe⟩ := Array.getElem?_eq_some_iff.1 hf'
        have h1 := hi j f hf'
        rw [List.getElem?_eq_getElem (by omega)] at h1
        obtain ⟨r, r1, r2, r3, r4⟩ := open_any n f.type m _ _ (by have := ho j hj; rw [hfe] at this; exact this) h1
        exact ⟨r, r1, r2, r3⟩)
      rw [Nat.sub_zero, List.drop_zero, ← hcl, List.take_length] at p3
      refine ⟨parts.flatten, p3, ?_, p4, by rw [← p3.len, hcl]⟩
      simp only [Sh, hu]
      exact ⟨parts, rfl, by simpa using p1, fun j f hf => p5 j f (by simpa using hf)⟩
    · simp at ho
end
end Go.Proofs.YtcogjcplldpkaaaGreat

namespace Go.Proofs.YtcogjcplldpkaaaGreat
set_option linter.unusedVariables false
set_option linter.unusedSimpArgs false

/-! rows that are appended to, somewhere in the heap -/
def appY (sz : Nat) : List (List D) → D
 | [] => .nils
 | rows => .sl sz rows none
theorem appY_S (sz : Nat) (rows : List (List D)) : SlD sz rows (appY sz rows) := by
 cases rows with
 | nil => exact .nil _
 | cons r l => exact .of _ _ _
def AppAt (e : TypeId) (sz : Nat) (rows : List (List D)) (H : List AObj) (x : D) : Prop :=
 (rows = [] ∧ x = .nils) ∨ (rows ≠ [] ∧ ∃ g v, x = .msl g v 0 rows.length none ∧ H[g]? = some ⟨e, sz, rows, v, 1, true⟩)
theorem get_app {α : Type} {H : List α} {g : Nat} {o : α} (h : H[g]? = some o) (l : List α) : (H ++ l)[g]? = some o := by
 rw [List.getElem?_append_left (List.getElem?_eq_some_iff.1 h).1]; exact h
theorem get_set_ne {α : Type} {H : List α} {g k : Nat} {o : α} (h : H[g]? = some o) (hk : k ≠ g) (x : α) : (H.set k x)[g]? = some o := by
 rw [List.getElem?_set_ne hk]; exact h
theorem get_set_self {α : Type} {H : List α} {g : Nat} {o : α} (h : H[g]? = some o) (x : α) : (H.set g x)[g]? = some x := by
 rw [List.getElem?_set_self (List.getElem?_eq_some_iff.1 h).1]
section
variable {e : TypeId} {sz : Nat} {rows : List (List D)} {H : List AObj} {x : D}
theorem AppAt.nil (e : TypeId) (sz : Nat) (H : List AObj) : AppAt e sz [] H .nils := .inl ⟨rfl, rfl⟩
theorem AppAt.keep {H' : List AObj} (h : AppAt e sz rows H x) (hk : ∀ (g : Nat) (o : AObj), H[g]? = some o → o.kind = 1 → o.elem = e → H'[g]? = some o) : AppAt e sz rows H' x := by
 rcases h with h | ⟨h0, g, v, h1, h2⟩
 ·
  exact .inl h
 ·
  exact .inr ⟨h0, g, v, h1, hk g _ h2 rfl rfl⟩
theorem AppAt.push (h : AppAt e sz rows H x) (l : List AObj) : AppAt e sz rows (H ++ l) x := h.keep fun g o ho _ _ => get_app ho l
theorem AppAt.put (h : AppAt e sz rows H x) {k : Nat} {o' : AObj} (hk : H[k]? = some o') (hne : o'.kind = 0 ∨ o'.elem ≠ e) (n : AObj) : AppAt e sz rows (H.set k n) x := h.keep fun g o ho h1 h2 => by
 refine get_set_ne ho (fun hkg => ?_) n
 subst hkg
 rw [hk] at ho
 simp only [Option.some.injEq] at ho
 subst ho
 rcases hne with h | h
 ·
  rw [h1] at h; simp at h
 ·
  exact h h2
theorem AppAt.len (h : AppAt e sz rows H x) : lenD false x = some (.int .i64 rows.length) := by
 rcases h with ⟨rfl, rfl⟩ | ⟨h0, g, v, rfl, h2⟩ <;> rfl
theorem AppAt.snap (h : AppAt e sz rows H x) (m : Nat) : snap m H x = some (appY sz rows) := by
 rcases h with ⟨rfl, rfl⟩ | ⟨h0, g, v, rfl, h2⟩
 ·
  rfl
 ·
  cases rows with
  | nil => exact absurd rfl h0
  | cons r l => simp [snap_msl, h2, appY]
theorem AppAt.snapV (h : AppAt e sz rows H x) (m : Nat) : snapV m H x = some (appY sz rows) := by
 rw [← h.snap m]
 rcases h with ⟨rfl, rfl⟩ | ⟨h0, g, v, rfl, h2⟩ <;> rfl
theorem AppAt.snapR (h : AppAt e sz rows H x) (m : Nat) : snapR m H x = some (appY sz rows) := by
 rw [← h.snap m]
 rcases h with ⟨rfl, rfl⟩ | ⟨h0, g, v, rfl, h2⟩ <;> rfl
theorem AppAt.isCell (h : AppAt e sz rows H x) : x.isCell = true := by rcases h with ⟨rfl, rfl⟩ | ⟨h0, g, v, rfl, h2⟩ <;> rfl
theorem AppAt.val (h : AppAt e sz rows H x) : x.val = true := by rcases h with ⟨rfl, rfl⟩ | ⟨h0, g, v, rfl, h2⟩ <;> rfl
theorem AppAt.cells (h : AppAt e sz rows H x) : x.cells = [x] := by rcases h with ⟨rfl, rfl⟩ | ⟨h0, g, v, rfl, h2⟩ <;> rfl
theorem AppAt.app (h : AppAt e sz rows H x) (bytes : Nat) {new : List (List D)} {c : Option Nat} (hn : new.isEmpty = false) (hb : (rows.length + new.length) * bytes ≤ 140737488355328) :
    ∃ x' H', appendD e sz bytes 1 x (.sl sz new c) ⟨H, 0⟩ = some (x', ⟨H', 0⟩, true) ∧ AppAt e sz (rows ++ new) H' x' ∧ H.length ≤ H'.length ∧ ∀ (g : Nat) (o : AObj), H[g]? = some o → (o.kind = 0 ∨ o.elem ≠ e) → H'[g]? = some o := by
  have hne : rows ++ new ≠ [] := by cases new <;> simp at hn ⊢
  rcases h with ⟨rfl, rfl⟩ | ⟨h0, g, v, rfl, h2⟩
  · refine ⟨.msl H.length 0 0 new.length none, H ++ [⟨e, sz, new, 0, 1, true⟩], ?_, .inr ⟨hne, H.length, 0, by simp, by simp⟩, by simp, fun g o ho _ => get_app ho _⟩
    simp only [List.length_nil, Nat.zero_add] at hb
    simp [appendD, appendRows, readRows, hn, hb, newAt]
  · refine ⟨.msl g (v + 1) 0 (rows.length + new.length) none, H.set g ⟨e, sz, rows ++ new, v + 1, 1, true⟩, ?_, .inr ⟨hne, g, v + 1, by simp, get_set_self h2 _⟩, by simp, fun g' o ho hk => ?_⟩
    · simp [appendD, appendRows, readRows, rowsOf, h2, hb, setAt]
    · refine get_set_ne ho (fun hgg => ?_) _
      subst hgg
      rw [h2] at ho
      simp only [Option.some.injEq] at ho
      subst ho
      rcases hk with h | h
      · simp at h
      · exact h rfl
end
section
variable {call : CallF} {vals env : List D} {S : St} {K : List D → St → Prop} {n : Nat} {news : List (TypeId × List D)} {fps : List FP}
theorem ow_know {ops : List LOper} {vt : List D} (d : Nat) {b : Bool} (hg : vals.getD d .undef = .bool b) (ht : vals.set d (.bool b) = vt) (h : OW call ops vt env S K) : OW call ops vals env S K := by
 rw [set_getD hg (by simp)] at ht; rw [ht]; exact h
theorem dw_know {ops : List LOper} {vt : List D} (d : Nat) {b : Bool} (hg : vals.getD d .undef = .bool b) (ht : vals.set d (.bool b) = vt) (h : DW call n news ops fps vt env S K) : DW call n news ops fps vals env S K := by
 rw [set_getD hg (by simp)] at ht; rw [ht]; exact h
end
theorem plainV_int (k : IntKind) (n : Int) : plainV (.int k n) = true := rfl
theorem AppAt.plainV {e : TypeId} {sz : Nat} {rows : List (List D)} {H : List AObj} {x : D} (h : AppAt e sz rows H x) (hne : rows ≠ []) : plainV x = false := by
 rcases h with ⟨rfl, rfl⟩ | ⟨h0, g, v, rfl, h2⟩
 ·
  exact absurd rfl hne
 ·
  rfl
theorem cw_eval {call : CallF} {c : LCode} {Q : LExit → List D → St → Prop} {env env' : List D} {S S' : St} {e : LExit} (h : exCode call NN c env S = some (e, env', S')) (hq : Q e env' S') : CW call c Q env S := ⟨e, env', S', h, hq⟩
theorem leaveP_app {S2 T : St} {g e sz v n : Nat} {rows : List (List D)} (h : S2.heap[g]? = some ⟨e, sz, rows, v, 1, true⟩) (hn : rows.length = n) : leaveP T (.msl g v 0 n none) S2 = some (.sl sz rows none, T, false) := by
 subst hn
 simp [leaveP, leave, snapR_msl, snapV_msl, snap_msl, h, freeR_sl]
end Go.Proofs.YtcogjcplldpkaaaGreat

namespace Go.Proofs.YtcogjcplldpkaaaGreat
set_option linter.unusedVariables false
def GT : Nat → Option (List D) := fun _ => none
def KD (mt : List Nat) (bx : List Nat) : Kd := ⟨fun e => if List.contains [999] e then 0 else if mt.contains e then 2 else 1, GT, bxL bx⟩
abbrev qe (n : Nat) : LOper := ⟨.mv, [.env n], none, [], none⟩
abbrev ql (n : Nat) : LOper := ⟨.mv, [.loc n], none, [], none⟩
abbrev qi (n : Int) : LOper := ⟨.mv, [.const (.int .i64 n)], none, [], none⟩
abbrev qbb (b : Bool) : LOper := ⟨.mv, [.const (.bool b)], none, [], none⟩
abbrev qd (s n : Nat) : LOper := ⟨.load s false, [.loc n], none, [], none⟩
abbrev qfe (o n : Nat) : LOper := ⟨.faddr o, [.env n], none, [], none⟩
abbrev qx (i n : Nat) : LOper := ⟨.extract i, [.loc n], none, [], none⟩
abbrev qpt (a b : Nat) : LOper := ⟨.pick, [.loc a, .const (.bool true), .loc b], none, [], none⟩
abbrev qpf (a b : Nat) : LOper := ⟨.pick, [.loc a, .loc b, .const (.bool false)], none, [], none⟩
abbrev qk (f n : Nat) : LOper := ⟨.call f, [.loc n], none, [], none⟩
abbrev qkk (f n m : Nat) : LOper := ⟨.call f, [.loc n, .loc m], none, [], none⟩
abbrev qln (b : Bool) (n : Nat) : LOper := ⟨.len b, [.loc n], none, [], none⟩
end Go.Proofs.YtcogjcplldpkaaaGreat

/- Proved here: two operations of the abstract machine that look at and change different objects may change places; no condition. -/
import Derived.Test.YtabgobmeibjeeaaGreatDoorLo12
namespace Go.Proofs.YtabgobmeibjeeaaGreatDoor
open Go.RowKit
set_option linter.unusedVariables false
set_option linter.unusedSimpArgs false

/-- calls that change nothing leave the state itself -/
def CallClean (call : CallF) : Prop := ∀ f ds S r S', call f ds S = some (r, S', false) → S' = S

theorem lop_clean {l : LOp} {ds : List D} {S S' : St} {r : D} (h : lop l ds S = some (r, S', false)) : S' = S := by
  unfold lop at h
  repeat' (first | (simp at h; done) | (split at h))
  all_goals first
    | (simp at h; done)
    | (simp only [Option.some.injEq, Prod.mk.injEq] at h; exact h.2.1.symm)
    | (simp only [Option.map_eq_some_iff, Prod.mk.injEq] at h; obtain ⟨_, _, h1, h2, h3⟩ := h; first | exact h2.symm | (cases h3; done))
    | skip
  all_goals
    first | unfold appendD at h | unfold appendRows at h | unfold ustrD at h | unfold strshD at h | unfold nextsD at h
    repeat' (first | (simp at h; done) | (split at h) | (unfold appendRows at h; skip))
    all_goals first
      | (simp at h; done)
      | (simp only [Option.some.injEq, Prod.mk.injEq] at h; exact h.2.1.symm)
theorem aop_clean {l : LOp} {ds : List D} {S S' : St} {r : D} (h : aop l ds S = some (r, S', false)) : S' = S := by
  unfold aop at h
  split at h
  · exact lop_clean h
  · simp only [Option.map_eq_some_iff, Prod.mk.injEq] at h
    obtain ⟨_, _, _, h2, _⟩ := h
    exact h2.symm
theorem exOp_clean {call : CallF} (hc : CallClean call) {l : LOp} {ds : List D} {S S' : St} {r : D} (h : exOp call l ds S = some (r, S', false)) : S' = S := by
  unfold exOp at h
  split at h
  · exact hc _ _ _ _ _ h
  · split at h
    · exact hc _ _ _ _ _ h
    · simp at h
  · exact aop_clean h
theorem exOp_quiet {call : CallF} {l : LOp} {ds : List D} {S S' : St} {r : D} {wr : Bool} (hl : l.loud = false) (h : exOp call l ds S = some (r, S', wr)) : S' = S ∧ wr = false ∧ ∀ S2, exOp call l ds S2 = some (r, S2, false) := by
  have ha : exOp call l ds = aop l ds := by cases l <;> first | rfl | (simp [LOp.loud] at hl; done)
  rw [ha] at h ⊢
  unfold aop at h
  simp only [hl, Bool.false_eq_true, if_false, Option.map_eq_some_iff, Prod.mk.injEq] at h
  obtain ⟨r', h1, rfl, rfl, rfl⟩ := h
  exact ⟨rfl, rfl, fun S2 => by simp [aop, hl, h1]⟩

/-- what an operation does to the heap -/
inductive Eff where
  | none
  | set (g : Nat) (o : AObj)
  | new (o : AObj)
def Eff.app : Eff → St → St
  | .none, S => S
  | .set g o, S => setAt S g o
  | .new o, S => newAt S o
def Eff.within (n : Nat) (W : List Nat) (c : Bool) : Eff → Prop
  | .none => True
  | .set g _ => g ∈ W
  | .new _ => c = true ∧ n ∈ W
/-- an operation that looks at some objects alone does the same on every heap that has these -/
def Framed (call : CallF) (l : LOp) (ds : List D) (S : St) (r : D) (S' : St) (wr : Bool) (fp : FP) : Prop :=
  ∃ R W eff, fp.reads = some R ∧ fp.writes = some W ∧ S' = Eff.app eff S ∧ Eff.within S.heap.length W fp.creates eff ∧
    ∀ T : St, (∀ g ∈ R, T.heap[g]? = S.heap[g]?) → (fp.creates = true → T.heap.length = S.heap.length) → exOp call l ds T = some (r, eff.app T, wr)

theorem rowsOf_congr {S T : St} {g v : Nat} (h : T.heap[g]? = S.heap[g]?) : rowsOf T g v = rowsOf S g v := by simp [rowsOf, h]
theorem snap_plain {m : Nat} {H : List AObj} {d : D} (h : plain1 d = true) : snap m H d = some d := by
  cases d <;> first | rfl | (simp [plain1] at h; done)
theorem snaps_plain {m : Nat} {H : List AObj} : ∀ {ds : List D}, ds.all plain1 = true → snaps m H ds = some ds
  | [], _ => rfl
  | d :: ds, h => by
    simp only [List.all_cons, Bool.and_eq_true] at h
    simp [snaps, snap_plain h.1, snaps_plain h.2]
theorem snapV_plain {m : Nat} {H : List AObj} {d : D} (h : plainV d = true) : snapV m H d = some d := by
  unfold plainV at h
  split at h
  · simp [snapV, snaps_plain h]
  · rename_i hn
    unfold snapV
    split
    · rename_i cs; exact absurd rfl (hn cs)
    · exact snap_plain h
theorem fpOf_loud (l : LOp) (ds : List D) (r : D) (wr : Bool) : (fpOf l ds r wr).loud = l.loud := by
  unfold fpOf
  repeat' split
  all_goals first
    | rfl
    | (cases wr <;> rfl)
    | (rename_i h; simp [h, fpAll]; cases wr <;> rfl)
    | (rename_i h; simp at h; simp [h, fpQuiet])

theorem framed_one {call : CallF} {l : LOp} {ds : List D} {S S' : St} {r : D} {wr : Bool} (h : exOp call l ds S = some (r, S', wr)) {f : St → Option D} (he : ∀ T : St, exOp call l ds T = (f T).map fun r => (r, T, false)) (R : List Nat) (hT : ∀ T : St, (∀ g ∈ R, T.heap[g]? = S.heap[g]?) → f T = f S) (hf : fpOf l ds r wr = fpRead R) : Framed call l ds S r S' wr (fpOf l ds r wr) := by
  rw [he S, Option.map_eq_some_iff] at h
  obtain ⟨r', h1, h2⟩ := h
  simp only [Prod.mk.injEq] at h2
  obtain ⟨rfl, rfl, rfl⟩ := h2
  rw [hf]
  exact ⟨R, [], .none, rfl, rfl, rfl, trivial, fun T hR _ => by rw [he T, hT T hR, h1]; rfl⟩

theorem fp_cases {call : CallF} {l : LOp} {ds : List D} {S S' : St} {r : D} {wr : Bool} (h : exOp call l ds S = some (r, S', wr)) : Framed call l ds S r S' wr (fpOf l ds r wr) ∨ fpOf l ds r wr = fpAll wr := by
  cases hl : l.loud with
  | false =>
    left
    obtain ⟨rfl, rfl, h2⟩ := exOp_quiet hl h
    have e : fpOf l ds r false = fpQuiet := by
      cases l <;> first | rfl | (simp [LOp.loud] at hl; done) | skip
      rename_i st _ _ _ _
      cases st
      · simp [LOp.loud] at hl
      · rfl
    rw [e]
    exact ⟨[], [], .none, rfl, rfl, rfl, trivial, fun T _ _ => h2 T⟩
  | true =>
    cases l with
    | load sz agg =>
      left
      match ds, h with
      | [a], h =>
        have he : ∀ T : St, exOp call (.load sz agg) [a] T = (loadD sz agg T a).map fun r => (r, T, false) := fun T => rfl
        cases a with
        | ptr g v i o =>
          refine framed_one h he [g] (fun T hT => ?_) rfl
          simp only [loadD, rowsOf_congr (hT g (by simp))]
        | _ => refine framed_one h he [] (fun T hT => ?_) rfl; rfl
      | [], h => simp [exOp, aop, LOp.loud, lop] at h
      | _ :: _ :: _, h => simp [exOp, aop, LOp.loud, lop] at h
    | iaddr sz =>
      left
      match ds, h with
      | [a, i], h =>
        have he : ∀ T : St, exOp call (.iaddr sz) [a, i] T = (iaddrD T sz a i).map fun r => (r, T, false) := fun T => rfl
        cases a with
        | msl g v lo n c =>
          refine framed_one h he [g] (fun T hT => ?_) rfl
          cases i <;> simp only [iaddrD, rowsOf_congr (hT g (by simp))]
        | _ => refine framed_one h he [] (fun T hT => ?_) rfl; cases i <;> rfl
      | [], h => simp [exOp, aop, LOp.loud, lop] at h
      | [_], h => simp [exOp, aop, LOp.loud, lop] at h
      | _ :: _ :: _ :: _, h => simp [exOp, aop, LOp.loud, lop] at h
    | mapget kf z ok =>
      left
      match ds, h with
      | [a, i], h =>
        have he : ∀ T : St, exOp call (.mapget kf z ok) [a, i] T = (mapgetD T kf z ok a i).map fun r => (r, T, false) := fun T => rfl
        cases a with
        | mref g v =>
          refine framed_one h he [g] (fun T hT => ?_) rfl
          simp only [mapgetD, mapRows, rowsOf_congr (hT g (by simp))]
        | _ => refine framed_one h he [] (fun T hT => ?_) rfl; rfl
      | [], h => simp [exOp, aop, LOp.loud, lop] at h
      | [_], h => simp [exOp, aop, LOp.loud, lop] at h
      | _ :: _ :: _ :: _, h => simp [exOp, aop, LOp.loud, lop] at h
    | slice st sz lo hi mx =>
      cases st with
      | true => simp [LOp.loud] at hl
      | false =>
        left
        match ds, h with
        | a :: xs, h =>
          have he : ∀ T : St, exOp call (.slice false sz lo hi mx) (a :: xs) T = (match sliceArgs lo hi mx xs with | some (p, q, m) => sliceD T sz a p q m | none => none).map fun r => (r, T, false) := by
            intro T
            show lop (.slice false sz lo hi mx) (a :: xs) T = _
            simp only [lop]
            split <;> (rename_i hq; rw [hq]; try rfl)
          cases a with
          | msl g v o n c =>
            refine framed_one h he [g] (fun T hT => ?_) rfl
            simp only [sliceD, boundsAt, rowsOf_congr (hT g (by simp))]
          | _ => refine framed_one h he [] (fun T hT => ?_) rfl; rfl
        | [], h => simp [exOp, aop, LOp.loud, lop] at h
    | strb =>
      left
      match ds, h with
      | [a], h =>
        cases a with
        | str s => exact framed_one h (f := fun T => some (.sl 1 (byteRows s) none)) (fun T => rfl) [] (fun T hT => rfl) rfl
        | _ => simp [exOp, aop, LOp.loud, lop] at h
      | [], h => simp [exOp, aop, LOp.loud, lop] at h
      | _ :: _ :: _, h => simp [exOp, aop, LOp.loud, lop] at h
    | box e sz =>
      left
      match ds, h with
      | [x], h =>
        simp only [exOp, aop, LOp.loud, if_true, lop] at h
        split at h
        · rename_i hx
          simp only [Option.some.injEq, Prod.mk.injEq] at h
          obtain ⟨rfl, rfl, rfl⟩ := h
          exact ⟨[], [S.heap.length], .new ⟨e, sz, [x.cells], 0, 0, false⟩, rfl, rfl, rfl, ⟨rfl, by simp⟩, fun T _ hT => by simp only [exOp, aop, LOp.loud, if_true, lop, if_pos hx, hT rfl]; rfl⟩
        · simp at h
      | [], h => simp [exOp, aop, LOp.loud, lop] at h
      | _ :: _ :: _, h => simp [exOp, aop, LOp.loud, lop] at h
    | mkslice e sz bytes z kind =>
      left
      rcases ds with _ | ⟨a, _ | ⟨b, _ | ⟨c, ds⟩⟩⟩
      · simp [exOp, aop, LOp.loud, lop] at h
      · simp [exOp, aop, LOp.loud, lop] at h
      · cases a <;> first | (simp [exOp, aop, LOp.loud, lop] at h; done) | skip
        cases b <;> first | (simp [exOp, aop, LOp.loud, lop] at h; done) | skip
        rename_i k1 l k2 c
        simp only [exOp, aop, LOp.loud, if_true, lop] at h
        split at h
        · rename_i hx
          simp only [Option.some.injEq, Prod.mk.injEq] at h
          obtain ⟨rfl, rfl, rfl⟩ := h
          exact ⟨[], [S.heap.length], .new ⟨e, sz, List.replicate l.toNat z, 0, kind, decide (l ≠ c)⟩, rfl, rfl, rfl, ⟨rfl, by simp⟩, fun T _ hT => by simp only [exOp, aop, LOp.loud, if_true, lop, if_pos hx, hT rfl]; rfl⟩
        · simp at h
      · simp [exOp, aop, LOp.loud, lop] at h
    | store sz =>
      match ds, h with
      | [a, x], h =>
        cases a with
        | ptr g v i o =>
          by_cases hp : plainV x = true
          · left
            have hf : fpOf (.store sz) [.ptr g v i o, x] r wr = ⟨true, some [g], some [g], false, none⟩ := by simp [fpOf, hp]
            have hs : ∀ ob : AObj, ∀ T : St, (if ob.kind = 0 then some x else snapV T.heap.length T.heap x) = some x := fun ob T => by rw [snapV_plain hp]; simp
            simp only [exOp, aop, LOp.loud, if_true, lop, Option.map_eq_some_iff, Prod.mk.injEq] at h
            obtain ⟨S1, h1, rfl, rfl, rfl⟩ := h
            simp only [storeD, hs] at h1
            split at h1
            · rename_i ob hob
              split at h1
              · rename_i row hrow
                split at h1
                · rename_i hc
                  simp only [Option.some.injEq] at h1
                  subst h1
                  rw [hf]
                  refine ⟨[g], [g], .set g { ob with rows := ob.rows.set i (overlay row o x.cells) }, rfl, rfl, rfl, by simp [Eff.within], fun T hT _ => ?_⟩
                  have hob' : rowsOf T g v = some ob := (rowsOf_congr (hT g (by simp))).trans hob
                  simp only [exOp, aop, LOp.loud, if_true, lop, storeD, hs, hob', hrow, if_pos hc]
                  rfl
                · simp at h1
              · simp at h1
            · simp at h1
          · right; simp [fpOf, hp]
        | _ => right; rfl
      | [], h => simp [exOp, aop, LOp.loud, lop] at h
      | [_], h => simp [exOp, aop, LOp.loud, lop] at h
      | _ :: _ :: _ :: _, h => simp [exOp, aop, LOp.loud, lop] at h
    | _ => right; simp_all [fpOf, LOp.loud]

theorem app_get {e : Eff} {S : St} {W : List Nat} {c : Bool} (h : e.within S.heap.length W c) {g : Nat} (hg : g ∉ W) : (e.app S).heap[g]? = S.heap[g]? := by
  cases e with
  | none => rfl
  | set g' o =>
    have hne : g' ≠ g := fun e => hg (e ▸ h)
    simp [Eff.app, setAt, List.getElem?_set_ne hne]
  | new o =>
    have hne : g ≠ S.heap.length := fun e => hg (e ▸ h.2)
    simp only [Eff.app, newAt]
    rcases Nat.lt_or_ge g S.heap.length with h1 | h1
    · rw [List.getElem?_append_left h1]
    · rw [List.getElem?_append_right h1, List.getElem?_eq_none h1]
      simp only [List.getElem?_eq_none_iff, List.length_singleton]
      omega
theorem app_len {e : Eff} {S : St} {W : List Nat} {c : Bool} (h : e.within S.heap.length W c) (hc : c = false) : (e.app S).heap.length = S.heap.length := by
  cases e with
  | none => rfl
  | set g' o => simp [Eff.app, setAt]
  | new o => rw [hc] at h; cases h.1
theorem app_comm {e f : Eff} {S : St} {W V : List Nat} {c d : Bool} (he : e.within S.heap.length W c) (hf : f.within S.heap.length V d) (hd : ∀ g ∈ W, g ∉ V) (hcd : ¬ (c = true ∧ d = true)) : e.app (f.app S) = f.app (e.app S) := by
  cases e with
  | none => rfl
  | set g o =>
    cases f with
    | none => rfl
    | set g' o' =>
      have hne : g ≠ g' := fun e => hd g he (e ▸ hf)
      simp only [Eff.app, setAt, St.mk.injEq]
      exact ⟨List.set_comm _ _ (fun e => hne e.symm), by omega⟩
    | new o' =>
      have hne : g ≠ S.heap.length := fun e => hd g he (e ▸ hf.2)
      simp only [Eff.app, setAt, newAt, St.mk.injEq, and_true]
      rw [List.set_append]
      split
      · rfl
      · rename_i h1
        rw [List.set_eq_of_length_le (l := S.heap) (by omega), List.set_eq_of_length_le (by simp; omega)]
  | new o =>
    cases f with
    | none => rfl
    | set g' o' =>
      have hne : g' ≠ S.heap.length := fun e => hd _ he.2 (e ▸ hf)
      simp only [Eff.app, setAt, newAt, St.mk.injEq, and_true]
      rw [List.set_append]
      split
      · rfl
      · rename_i h1
        rw [List.set_eq_of_length_le (l := S.heap) (by omega), List.set_eq_of_length_le (by simp; omega)]
    | new o' => exact absurd ⟨he.1, hf.1⟩ hcd
theorem dj_some {l m : List Nat} (h : dj (some l) (some m) = true) : ∀ g ∈ l, g ∉ m := by
  intro g hg hm
  cases l with
  | nil => cases hg
  | cons a l =>
    have := List.all_eq_true.1 h g hg
    simp [hm] at this
theorem dj_none {l : List Nat} (h : dj (some l) none = true) : l = [] := by
  cases l with
  | nil => rfl
  | cons a l => simp [dj] at h

/-- two operations change places -/
theorem swap {call : CallF} (hc : CallClean call) {la lb : LOp} {da db : List D} {ra rb : D} {wa wb : Bool} {S S1 S2 : St} (h1 : exOp call la da S = some (ra, S1, wa)) (h2 : exOp call lb db S1 = some (rb, S2, wb)) (hi : indep (fpOf la da ra wa) (fpOf lb db rb wb) = true) :
    ∃ S3, exOp call lb db S = some (rb, S3, wb) ∧ exOp call la da S3 = some (ra, S2, wa) ∧ ((fpOf la da ra wa).writes = none → S2 = S1) ∧ ((fpOf lb db rb wb).writes = none → S3 = S2) := by
  cases hla : la.loud with
  | false =>
    obtain ⟨rfl, rfl, h3⟩ := exOp_quiet hla h1
    refine ⟨S2, h2, h3 S2, fun hw => ?_, fun _ => rfl⟩
    rcases fp_cases h1 with ⟨_, _, _, _, hw', _⟩ | hf
    · rw [hw] at hw'; cases hw'
    · rw [hf] at hw; cases hw
  | true =>
    cases hlb : lb.loud with
    | false =>
      obtain ⟨rfl, rfl, h3⟩ := exOp_quiet hlb h2
      refine ⟨S, h3 S, h1, fun _ => rfl, fun hw => ?_⟩
      rcases fp_cases h2 with ⟨_, _, _, _, hw', _⟩ | hf
      · rw [hw] at hw'; cases hw'
      · rw [hf] at hw; cases hw
    | true =>
      simp only [indep, fpOf_loud, hla, hlb, Bool.not_true, Bool.false_or, Bool.and_eq_true, Bool.not_eq_true'] at hi
      obtain ⟨⟨⟨⟨⟨d1, d2⟩, d3⟩, d4⟩, d5⟩, d6⟩ := hi
      rcases fp_cases h1 with ⟨Ra, Wa, ea, hra, hwa, rfl, hia, hTa⟩ | hfa
      · rcases fp_cases h2 with ⟨Rb, Wb, eb, hrb, hwb, rfl, hib, hTb⟩ | hfb
        · rw [hra, hwb] at d3
          rw [hwa, hrb] at d1
          rw [hwa, hwb] at d2
          have d1 := dj_some d1
          have d2 := dj_some d2
          have d3 := dj_some d3
          have hlen : ∀ (hcb : (fpOf lb db rb wb).creates = true), (ea.app S).heap.length = S.heap.length := fun hcb => app_len hia (by rw [hcb] at d4; simpa using d4)
          have hib' : eb.within S.heap.length Wb (fpOf lb db rb wb).creates := by
            cases eb with
            | none => trivial
            | set g o => exact hib
            | new o => exact ⟨hib.1, by rw [← hlen hib.1]; exact hib.2⟩
          have hb : exOp call lb db S = some (rb, eb.app S, wb) := hTb S (fun g hg => (app_get hia fun hgw => d1 g hgw hg).symm) (fun hcb => (hlen hcb).symm)
          have ha : exOp call la da (eb.app S) = some (ra, ea.app (eb.app S), wa) := hTa (eb.app S) (fun g hg => app_get hib' fun hgw => d3 g hgw hg) (fun hca => app_len hib' (by rw [hca] at d4; simpa using d4))
          rw [app_comm hia hib' d2 (fun hcd => by rw [hcd.1, hcd.2] at d4; cases d4)] at ha
          exact ⟨eb.app S, hb, ha, fun hw => (by rw [hw] at hwa; cases hwa), fun hw => (by rw [hw] at hwb; cases hwb)⟩
        · cases wb with
          | true => rw [hfb] at d3; simp [fpAll, dj] at d3
          | false =>
            have := exOp_clean hc h2
            subst this
            rw [hfb, hwa] at d1
            have hW := dj_none (by simpa [fpAll] using d1)
            subst hW
            rw [hfb] at d5
            have hca : (fpOf la da ra wa).creates = false := by simpa [fpAll] using d5
            have he : ea.app S = S := by
              cases ea with
              | none => rfl
              | set g o => cases hia
              | new o => cases hia.2
            rw [he] at h1 h2 ⊢
            exact ⟨S, h2, h1, fun _ => rfl, fun _ => rfl⟩
      · cases wa with
        | true => rw [hfa] at d1; simp [fpAll, dj] at d1
        | false =>
          have := exOp_clean hc h1
          subst this
          rcases fp_cases h2 with ⟨Rb, Wb, eb, hrb, hwb, rfl, hib, hTb⟩ | hfb
          · rw [hfa, hwb] at d3
            have hW := dj_none (by simpa [fpAll] using d3)
            subst hW
            have he : eb.app S1 = S1 := by
              cases eb with
              | none => rfl
              | set g o => cases hib
              | new o => cases hib.2
            rw [he] at h2 ⊢
            exact ⟨S1, h2, h1, fun _ => rfl, fun _ => rfl⟩
          · cases wb with
            | true => rw [hfb] at d3; simp [fpAll, dj] at d3
            | false =>
              have := exOp_clean hc h2
              subst this
              exact ⟨S2, h2, h1, fun _ => rfl, fun _ => rfl⟩
end Go.Proofs.YtabgobmeibjeeaaGreatDoor

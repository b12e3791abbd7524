/- Proved here: parts of the proof, joined (LoJ, LoZ, Lo18, Lo19, LowK, Low1, Low, S0, S1): an abstract machine, its soundness, what functions of the program compute in it; no condition. -/
import Derived.Below
import Derived.ChangeArms
import Derived.OpenShut
import Derived.DataReads
import Derived.Deep.Slices
import Derived.Test.YtabgobmeibjeeaaGreatDoorM3
namespace Go.Proofs.YtabgobmeibjeeaaGreatDoor
set_option linter.unusedVariables false
set_option linter.unusedSimpArgs false
set_option maxRecDepth 10000

/-! the slots at the start -/
noncomputable def baseT (n : Nat) : ET := Nat.rec (motive := fun _ => ET) .nil (fun j t => t.put (path j) .undef) n
theorem baseT_at : ∀ (n : Nat) (p : List Bool), (baseT n).at p = .undef
 | 0, p => by cases p <;> rfl
 | n + 1, p => by
  show ((baseT n).put (path n) .undef).at p = .undef
  rw [ET.at_put, baseT_at n p]; split <;> rfl
structure TS where
 f : List D → ET → (ET → Ans) → Ans
noncomputable def initC (nargs : Nat) (slots : List Nat) : Nat → TS :=
 List.rec (motive := fun _ => Nat → TS) (fun _ => ⟨fun _ t k => k t⟩) (fun s _ ih j => if s < nargs then ⟨fun xs t k => nthK xs s fun x => (setC (path j)).f x t fun t' => (ih (j + 1)).f xs t' k⟩ else ⟨fun xs t k => (ih (j + 1)).f xs t k⟩) slots
def slotV (xs : List D) (done : List Nat) (j : Nat) : D := if j < done.length then xs.getD (done.getD j 0) D.undef else D.undef
theorem slotV_snoc (xs : List D) (done : List Nat) (s j : Nat) : slotV xs (done ++ [s]) j = if j = done.length then xs.getD s D.undef else slotV xs done j := by
  unfold slotV
  simp only [List.length_append, List.length_cons, List.length_nil, List.getD_eq_getElem?_getD]
  by_cases e : j = done.length
  · subst e; simp
  · rw [if_neg e]
    by_cases e2 : j < done.length
    · rw [if_pos (by omega), if_pos e2, List.getElem?_append_left e2]
    · rw [if_neg (by omega), if_neg e2]
theorem initC_some {nargs n : Nat} (hn : n ≤ 4096) {xs : List D} (hx : xs.length = nargs) : ∀ (slots : List Nat) (done : List Nat) {t : ET} {k : ET → Ans} {a : D × St × Bool}, done.length + slots.length = n →
    (∀ j, j < n → t.at (path j) = slotV xs done j) → (initC nargs slots done.length).f xs t k = some a →
    ∃ t', ETR n t' ((done ++ slots).map fun s => xs.getD s D.undef) ∧ k t' = some a
  | [], done, t, k, a, hl, ht, h => by
    refine ⟨t, ⟨by simpa using hl, hn, fun j hj => ?_⟩, h⟩
    have hj' : j < done.length := by simp at hl; omega
    rw [ht j hj, slotV, if_pos hj']
    simp [List.getD_eq_getElem?_getD, List.getElem?_eq_getElem hj']
  | s :: slots, done, t, k, a, hl, ht, h => by
    have h : (if s < nargs then (⟨fun xs t k => nthK xs s fun x => (setC (path done.length)).f x t fun t' => (initC nargs slots (done.length + 1)).f xs t' k⟩ : TS) else ⟨fun xs t k => (initC nargs slots (done.length + 1)).f xs t k⟩).f xs t k = some a := h
    have hl' : (done ++ [s]).length + slots.length = n := by simp at hl ⊢; omega
    have hd : (done ++ [s]).length = done.length + 1 := by simp
    have hdn : done.length < n := by simp at hl; omega
    split at h
    · next hs =>
      obtain ⟨x, h1, h2⟩ := nthK_some h
      have h3 := setC_some (path done.length) (k := fun t' => (initC nargs slots (done.length + 1)).f xs t' k) h2
      rw [← hd] at h3
      have := initC_some hn hx slots (done ++ [s]) hl' (fun j hj => by
        rw [ET.at_put, slotV_snoc]
        by_cases e : j = done.length
        · subst e; simp [List.getD_eq_getElem?_getD, h1]
        · rw [if_neg e, if_neg fun hp => e (path_inj (by omega) (by omega) hp).symm, ht j hj]) h3
      simpa using this
    · next hs =>
      have h : (initC nargs slots (done.length + 1)).f xs t k = some a := h
      rw [← hd] at h
      have hu : xs.getD s D.undef = D.undef := by rw [List.getD_eq_getElem?_getD, List.getElem?_eq_none (by omega)]; rfl
      have := initC_some hn hx slots (done ++ [s]) hl' (fun j hj => by
        rw [slotV_snoc, ht j hj]
        by_cases e : j = done.length
        · subst e
          rw [if_pos rfl, hu, slotV, if_neg (by omega)]
        · rw [if_neg e]) h
      simpa using this

/-! results -/
structure RC where
 f : ET → St → (List D → Ans) → Ans
noncomputable def resC (n : Nat) (l : List LRes) : RC :=
 List.rec (motive := fun _ => RC) ⟨fun _ _ k => k []⟩ (fun r _ ih => match r with
  | .tmp j => if j < n then ⟨fun t S k => (getC (path j)).f t fun x => ih.f t S fun xs => k (x :: xs)⟩ else ⟨fun _ _ _ => none⟩
  | .cell j sz agg => if j < n then ⟨fun t S k => (getC (path j)).f t fun p => (loadC sz agg).f (fun _ _ _ _ => none) [p] S fun x _ _ => ih.f t S fun xs => k (x :: xs)⟩ else ⟨fun _ _ _ => none⟩) l
theorem resC_some {n : Nat} {t : ET} {env : List D} (hR : ETR n t env) {S : St} : ∀ (l : List LRes) {k : List D → Ans} {a : D × St × Bool}, (resC n l).f t S k = some a → ∃ xs, resDs env S l = some xs ∧ k xs = some a
  | [], k, a, h => ⟨[], rfl, h⟩
  | .tmp j :: l, k, a, h => by
    have h : (if j < n then (⟨fun t S k => (getC (path j)).f t fun x => (resC n l).f t S fun xs => k (x :: xs)⟩ : RC) else ⟨fun _ _ _ => none⟩).f t S k = some a := h
    split at h
    · next hj =>
      have h1 := getC_some (path j) (k := fun x => (resC n l).f t S fun xs => k (x :: xs)) h
      rw [hR.eq j hj] at h1
      obtain ⟨xs, h2, h3⟩ := resC_some hR l h1
      exact ⟨_, by simp only [resDs, resD, h2], h3⟩
    · simp at h
  | .cell j sz agg :: l, k, a, h => by
    have h : (if j < n then (⟨fun t S k => (getC (path j)).f t fun p => (loadC sz agg).f (fun _ _ _ _ => none) [p] S fun x _ _ => (resC n l).f t S fun xs => k (x :: xs)⟩ : RC) else ⟨fun _ _ _ => none⟩).f t S k = some a := h
    split at h
    · next hj =>
      have h1 := getC_some (path j) (k := fun p => (loadC sz agg).f (fun _ _ _ _ => none) [p] S fun x _ _ => (resC n l).f t S fun xs => k (x :: xs)) h
      rw [hR.eq j hj] at h1
      obtain ⟨r, S', w, h4, h5⟩ := loadC_ok sz agg (fun _ _ _ _ => none) (fun _ _ _ => none) (fun _ _ _ _ _ h => by simp at h) _ _ _ _ h1
      have h4 : (loadD sz agg S (env.getD j .undef)).map (fun r => (r, S, false)) = some (r, S', w) := h4
      cases hl : loadD sz agg S (env.getD j .undef) with
      | none => rw [hl] at h4; simp at h4
      | some r' =>
        rw [hl] at h4
        simp only [Option.map_some, Option.some.injEq, Prod.mk.injEq] at h4
        obtain ⟨rfl, _, _⟩ := h4
        obtain ⟨xs, h2, h3⟩ := resC_some hR l h5
        exact ⟨_, by simp only [resDs, resD, hl, h2], h3⟩
    · simp at h
noncomputable def tupK (xs : List D) (k : D → Ans) : Ans := List.rec (motive := fun _ => Ans) (k (.tup [])) (fun x t _ => List.rec (motive := fun _ => Ans) (k x) (fun y t' _ => k (.tup (x :: y :: t'))) t) xs
theorem tupK_some {env : List D} {S : St} {l : List LRes} {xs : List D} (hx : resDs env S l = some xs) {k : D → Ans} {a : D × St × Bool} (h : tupK xs k = some a) : ∃ r, resultD env S l = some r ∧ k r = some a := by
 match xs, hx, h with
 | [], hx, h => exact ⟨_, by simp only [resultD, hx], h⟩
 | [x], hx, h => exact ⟨_, by simp only [resultD, hx], h⟩
 | x :: y :: t, hx, h => exact ⟨_, by simp only [resultD, hx], h⟩

/-! functions -/
structure FnC where
 f : CallK → List D → St → K1 → Ans
noncomputable def snapK (raw : Bool) (args : List D) (S : St) (k : List D → Ans) : Ans := Bool.rec (motive := fun _ => Ans) (ifA (flatVs args) (k args) (optK (snapVs S.heap.length S.heap args) k)) (k args) raw
theorem snapK_some {raw : Bool} {args : List D} {S : St} {k : List D → Ans} {a : D × St × Bool} (h : snapK raw args S k = some a) : ∃ args', (if raw = true then some args else snapVs S.heap.length S.heap args) = some args' ∧ k args' = some a := by
 cases raw with
 | true => exact ⟨args, rfl, h⟩
 | false =>
  have h : ifA (flatVs args) (k args) (optK (snapVs S.heap.length S.heap args) k) = some a := h
  rw [ifA_eq] at h
  split at h
  ·
   next hf => exact ⟨args, flatVs_snap _ _ hf, h⟩
  ·
   exact optK_some h
noncomputable def minS (H : List AObj) (a b : Nat) (k : St → Ans) : Ans := frc (Bool.rec (motive := fun _ => Nat) b a (Nat.ble a b)) fun lo => k ⟨H, lo⟩
theorem minS_some {H : List AObj} {a b : Nat} {k : St → Ans} {x : D × St × Bool} (h : minS H a b k = some x) : k ⟨H, min a b⟩ = some x := by
 unfold minS at h
 rw [frc_eq] at h
 have e : (Bool.rec (motive := fun _ => Nat) b a (Nat.ble a b) : Nat) = min a b := by
  cases hb : Nat.ble a b with
  | true => have := Nat.le_of_ble_eq_true hb; show a = _; omega
  | false =>
   have : ¬ a ≤ b := fun h => by rw [Nat.ble_eq_true_of_le h] at hb; cases hb
   show b = _; omega
 rw [e] at h
 exact h
noncomputable def pureK (deep : Bool) (S : St) (r : D) (S' : St) (k : K1) : Ans := Bool.rec (motive := fun _ => Ans) (ifA r.flatR (k r S false) (ansK (leaveP S r S') k)) (ansK (leaveD ⟨[], 0⟩ S r S') k) deep
theorem pureK_some {deep : Bool} {S : St} {r : D} {S' : St} {k : K1} {a : D × St × Bool} (h : pureK deep S r S' k = some a) : ∃ r' S2 w, (if deep = true then leaveD ⟨[], 0⟩ S r S' else leaveP S r S') = some (r', S2, w) ∧ k r' S2 w = some a := by
  cases deep with
  | true => exact ansK_some h
  | false =>
    have h : ifA r.flatR (k r S false) (ansK (leaveP S r S') k) = some a := h
    rw [ifA_eq] at h
    split at h
    · next hf => exact ⟨r, S, false, by simp [leaveP, leave, flatR_snapR hf, flatR_freeR hf], h⟩
    · exact ansK_some h
noncomputable def leaveK (raw deep : Bool) (S : St) (r : D) (S' : St) (k : K1) : Ans := Bool.rec (motive := fun _ => Ans)
 (Bool.rec (motive := fun _ => Ans) (ifA r.flatR (ifA (Nat.ble (lenR S.heap) S'.low) (k r S false) (minS S'.heap S.low S'.low fun T => k r T true)) (ansK (leave false S r S') k)) (minS S'.heap S.low S'.low fun T => k r T true) raw)
 (ansK (leaveD S S r S') k) deep
theorem leaveK_some {raw deep : Bool} {S : St} {r : D} {S' : St} {k : K1} {a : D × St × Bool} (h : leaveK raw deep S r S' k = some a) : ∃ r' S2 w, (if deep = true then leaveD S S r S' else leave raw S r S') = some (r', S2, w) ∧ k r' S2 w = some a := by
  cases deep with
  | true => exact ansK_some h
  | false =>
    cases raw with
    | true => exact ⟨_, _, _, rfl, minS_some (k := fun T => k r T true) h⟩
    | false =>
      have h : ifA r.flatR (ifA (Nat.ble (lenR S.heap) S'.low) (k r S false) (minS S'.heap S.low S'.low fun T => k r T true)) (ansK (leave false S r S') k) = some a := h
      rw [ifA_eq] at h
      split at h
      · next hf =>
        rw [ifA_eq] at h
        split at h
        · next hl =>
          have hl : S.heap.length ≤ S'.low := by rw [← lenR_eq]; exact Nat.le_of_ble_eq_true hl
          exact ⟨r, S, false, by simp [leave, hl, flatR_snapR hf, flatR_freeR hf], h⟩
        · next hl =>
          have hl : ¬ S.heap.length ≤ S'.low := fun h => hl (by rw [lenR_eq]; exact Nat.ble_eq_true_of_le h)
          exact ⟨r, _, true, by simp [leave, hl, flatR_snapR hf], minS_some (k := fun T => k r T true) h⟩
      · exact ansK_some h
noncomputable def freesB (l : List D) : Bool := Bool.rec (motive := fun _ => Bool) (l.all D.freeV) true (flatVs l)
theorem freesB_eq (l : List D) : freesB l = l.all D.freeV := by
 unfold freesB
 cases h : flatVs l with
 | true => exact (flatVs_free h).symm
 | false => rfl
noncomputable def exitX (k : ET → St → Ans) (x : LExit) (t : ET) (S : St) : Ans := LExit.rec (motive := fun _ => Ans) none (k t S) (fun _ => none) x
noncomputable def bodyK (F : LFunc) (C : CC) (I : TS) (R : RC) (c : CallK) (args : List D) (S0 : St) (fin : D → St → Ans) : Ans :=
 I.f args (baseT F.slots.length) fun t => C.f c t S0 (fun t' S' => R.f t' S' fun xs => tupK xs fun r => fin r S') (exitX fun t' S' => R.f t' S' fun xs => tupK xs fun r => fin r S')
theorem bodyK_some {N : Nat} {F : LFunc} (hn : F.slots.length ≤ 4096) {c : CallK} {cs : CallF} (hc : CKs c cs) {args : List D} (hl : args.length = F.nargs) {S0 : St} {fin : D → St → Ans} {a : D × St × Bool}
    (h : bodyK F (codeC F.slots.length N F.body) (initC F.nargs F.slots 0) (resC F.slots.length F.res) c args S0 fin = some a) :
    ∃ e env' S' r, exCode cs N F.body (F.slots.map fun s => args.getD s .undef) S0 = some (e, env', S') ∧ (∀ i, e ≠ .exit i) ∧ resultD env' S' F.res = some r ∧ fin r S' = some a := by
  obtain ⟨t, h1, h2⟩ := initC_some hn hl F.slots [] (k := fun t => (codeC F.slots.length N F.body).f c t S0 (fun t' S' => (resC F.slots.length F.res).f t' S' fun xs => tupK xs fun r => fin r S') (exitX fun t' S' => (resC F.slots.length F.res).f t' S' fun xs => tupK xs fun r => fin r S')) (by simp) (fun j hj => by
    rw [baseT_at]; simp [slotV]) h
  rw [List.nil_append] at h1
  obtain ⟨e, env', S', t', h3, h4, h5⟩ := codeC_ok F.slots.length N F.body c cs hc t _ S0 _ _ a h1 h2
  have fin1 : ∀ {z : Ans}, ((resC F.slots.length F.res).f t' S' fun xs => tupK xs fun r => fin r S') = some a → ∃ r, resultD env' S' F.res = some r ∧ fin r S' = some a := by
    intro _ h
    obtain ⟨xs, h6, h7⟩ := resC_some h4 F.res h
    exact tupK_some h6 h7
  rcases h5 with ⟨rfl, h5⟩ | ⟨he, h5⟩
  · obtain ⟨r, h6, h7⟩ := fin1 (z := none) h5
    exact ⟨_, env', S', r, h3, by simp, h6, h7⟩
  · cases e with
    | normal => exact absurd rfl he
    | exit i => exact absurd (show (none : Ans) = some a from h5) (by simp)
    | ret =>
      obtain ⟨r, h6, h7⟩ := fin1 (z := none) h5
      exact ⟨_, env', S', r, h3, by simp, h6, h7⟩
noncomputable def fnC (N : Nat) (raw pur deep : Bool) (F : LFunc) : FnC := if F.slots.length ≤ 4096 then
 (fun (C : CC) (I : TS) (R : RC) => (⟨fun c args S k => snapK raw args S fun xs => ifA (Nat.beq (lenR xs) F.nargs)
  (ifA (Bool.rec (motive := fun _ => Bool) false (freesB xs) pur) (bodyK F C I R c xs ⟨[], 0⟩ fun r S' => pureK deep S r S' k) (frc (lenR S.heap) fun n0 => bodyK F C I R c xs ⟨S.heap, n0⟩ fun r S' => leaveK raw deep S r S' k)) none⟩ : FnC))
 (codeC F.slots.length N F.body) (initC F.nargs F.slots 0) (resC F.slots.length F.res) else ⟨fun _ _ _ _ => none⟩
noncomputable def runK (L : Prg) (N : Nat) (d : Nat) : CallK :=
 Nat.rec (motive := fun _ => CallK) (fun _ _ _ _ => none) (fun _ ih f args S k => Option.rec (motive := fun _ => Ans) (optK (L.fns f) fun F => (fnC N (L.raw f) (L.pure f) (L.deep f) F).f ih args S k) (fun r => k r S false) (L.ext f args)) d
theorem runK_ok (L : Prg) (N : Nat) : ∀ d, CKs (runK L N d) (runF L N d)
 | 0 => fun f args S k a h => by exact absurd (show (none : Ans) = some a from h) (by simp)
 | d + 1 => by
  have ih := runK_ok L N d
  intro f args S k a h
  have h : Option.rec (motive := fun _ => Ans) (optK (L.fns f) fun F => (fnC N (L.raw f) (L.pure f) (L.deep f) F).f (runK L N d) args S k) (fun r => k r S false) (L.ext f args) = some a := h
  cases hE : L.ext f args with
  | some r =>
   rw [hE] at h
   exact ⟨r, S, false, by simp only [runF, hE], h⟩
  | none =>
   rw [hE] at h
   obtain ⟨F, hF, h⟩ := optK_some h
   simp only [runF, hE, hF]
   unfold fnC at h
   split at h
   ·
    next hn =>
    dsimp only at h
    obtain ⟨xs, h1, h2⟩ := snapK_some h
    rw [ifA_eq] at h2
    split at h2
    ·
     next hl =>
     have hl : xs.length = F.nargs := by rw [← lenR_eq]; exact Nat.eq_of_beq_eq_true hl
     rw [h1]
     simp only [hl, ne_eq, not_true_eq_false, if_false]
     have hp : (Bool.rec (motive := fun _ => Bool) false (freesB xs) (L.pure f) : Bool) = (L.pure f && xs.all D.freeV) := by
      rw [freesB_eq]; cases L.pure f <;> rfl
     rw [hp, ifA_eq] at h2
     split at h2
     ·
      next hpu =>
      obtain ⟨e, env', S', r, h3, h4, h5, h6⟩ := bodyK_some hn ih hl (fin := fun r S' => pureK (L.deep f) S r S' k) h2
      obtain ⟨r', S2, w, h7, h8⟩ := pureK_some h6
      refine ⟨r', S2, w, ?_, h8⟩
      rw [if_pos hpu, h3]
      cases e with
      | exit i => exact absurd rfl (h4 i)
      | normal => simp only [h5]; exact h7
      | ret => simp only [h5]; exact h7
     ·
      next hpu =>
      rw [frc_eq, lenR_eq] at h2
      obtain ⟨e, env', S', r, h3, h4, h5, h6⟩ := bodyK_some hn ih hl (fin := fun r S' => leaveK (L.raw f) (L.deep f) S r S' k) h2
      obtain ⟨r', S2, w, h7, h8⟩ := leaveK_some h6
      refine ⟨r', S2, w, ?_, h8⟩
      rw [if_neg hpu, h3]
      cases e with
      | exit i => exact absurd rfl (h4 i)
      | normal => simp only [h5]; exact h7
      | ret => simp only [h5]; exact h7
    ·
     simp at h2
   ·
    simp at h
noncomputable def fastF (L : Prg) (N : Nat) (d : Nat) (f : FuncId) (args : List D) (S : St) : Ans := runK L N d f args S fun r S' w => some (r, S', w)
theorem fast_ok {L : Prg} {N d : Nat} {f : FuncId} {args : List D} {S : St} {x : D × St × Bool} (h : fastF L N d f args S = some x) : runF L N d f args S = some x := by
 obtain ⟨r, S', w, h1, h2⟩ := runK_ok L N d f args S _ x h
 rw [h1]; exact h2
end Go.Proofs.YtabgobmeibjeeaaGreatDoor

namespace Go.Proofs.YtabgobmeibjeeaaGreatDoor
set_option linter.unusedVariables false
theorem zv : (type_of% @List.map_cons.{0, 0}) ∧ (type_of% @List.map_nil.{0, 0}) ∧ (type_of% @List.getD_cons_zero.{0}) ∧ (type_of% @List.getD_cons_succ.{0}) ∧ (type_of% @List.getD_nil.{0}) :=
 ⟨@List.map_cons.{0, 0}, @List.map_nil.{0, 0}, @List.getD_cons_zero.{0}, @List.getD_cons_succ.{0}, @List.getD_nil.{0}⟩
theorem zm : (type_of% @if_true.{1}) ∧ (type_of% @if_false.{1}) ∧ (type_of% @ite_true.{1}) ∧ (type_of% @ite_false.{1}) ∧ (type_of% @true_and) ∧ (type_of% @and_true) ∧ (type_of% @and_self) ∧ (type_of% @ne_eq.{1}) ∧ (type_of% @not_true_eq_false) ∧ (type_of% @not_false_eq_true) ∧ (type_of% @Bool.false_eq_true) ∧ (type_of% @Option.map_some.{0, 0}) ∧ (type_of% @Option.map_none.{0, 0}) ∧ (type_of% @List.length_cons.{0}) ∧ (type_of% @List.length_nil.{0}) ∧ (type_of% @List.drop_zero.{0}) ∧ (type_of% @List.drop_succ_cons.{0}) ∧ (type_of% @List.take_succ_cons.{0}) ∧ (type_of% @List.take_zero.{0}) ∧ (type_of% @List.cons_append.{0}) ∧ (type_of% @List.nil_append.{0}) ∧ (type_of% @List.all_cons.{0}) ∧ (type_of% @List.all_nil.{0}) ∧ (type_of% @Bool.and_true) ∧ (type_of% @Bool.true_and) ∧ (type_of% @List.getElem?_cons_zero.{0}) ∧ (type_of% @List.getElem?_cons_succ.{0}) ∧ (type_of% @beq_self_eq_true.{0}) ∧ (type_of% @decide_true) ∧ (type_of% @Nat.zero_add) ∧ (type_of% @Nat.add_zero) :=
 ⟨@if_true.{1}, @if_false.{1}, @ite_true.{1}, @ite_false.{1}, @true_and, @and_true, @and_self, @ne_eq.{1}, @not_true_eq_false, @not_false_eq_true, @Bool.false_eq_true, @Option.map_some.{0, 0}, @Option.map_none.{0, 0}, @List.length_cons.{0}, @List.length_nil.{0}, @List.drop_zero.{0}, @List.drop_succ_cons.{0}, @List.take_succ_cons.{0}, @List.take_zero.{0}, @List.cons_append.{0}, @List.nil_append.{0}, @List.all_cons.{0}, @List.all_nil.{0}, @Bool.and_true, @Bool.true_and, @List.getElem?_cons_zero.{0}, @List.getElem?_cons_succ.{0}, @beq_self_eq_true.{0}, @decide_true, @Nat.zero_add, @Nat.add_zero⟩
theorem zs : (type_of% @snap_int) ∧ (type_of% @snapV_int) ∧ (type_of% @snap_bool) ∧ (type_of% @snapV_bool) ∧ (type_of% @snap_str) ∧ (type_of% @snapV_str) ∧ (type_of% @snap_nilp) ∧ (type_of% @snapV_nilp) ∧ (type_of% @snap_nils) ∧ (type_of% @snapV_nils) ∧ (type_of% @snap_nilfn) ∧ (type_of% @snapV_nilfn) ∧ (type_of% @snap_nilm) ∧ (type_of% @snapV_nilm) ∧ (type_of% @snap_sl) ∧ (type_of% @snapV_sl) ∧ (type_of% @snap_cptr) ∧ (type_of% @snapV_cptr) ∧ (type_of% @snap_mp) ∧ (type_of% @snapV_mp) ∧ (type_of% @snap_ptr) ∧ (type_of% @snapV_ptr) ∧ (type_of% @snap_fn) ∧ (type_of% @snapV_fn) ∧ (type_of% @snapV_msl) ∧ (type_of% @snapV_mref) ∧ (type_of% @snap_msl) ∧ (type_of% @snap_mref) ∧ (type_of% @snapV_agg) ∧ (type_of% @snapR_tup) ∧ (type_of% @snapR_int) ∧ (type_of% @snapR_bool) ∧ (type_of% @snapR_str) ∧ (type_of% @snapR_nilp) ∧ (type_of% @snapR_nils) ∧ (type_of% @snapR_nilfn) ∧ (type_of% @snapR_nilm) ∧ (type_of% @snapR_sl) ∧ (type_of% @snapR_cptr) ∧ (type_of% @snapR_mp) ∧ (type_of% @snapR_ptr) ∧ (type_of% @snapR_fn) ∧ (type_of% @snapR_msl) ∧ (type_of% @snapR_mref) ∧ (type_of% @snapR_agg) ∧ (type_of% @snap_nili) ∧ (type_of% @snap_ifc) ∧ (type_of% @snap_ifr) ∧ (type_of% @snap_iter) ∧ (type_of% @snapV_nili) ∧ (type_of% @snapV_ifc) ∧ (type_of% @snapV_ifr) ∧ (type_of% @snapV_iter) ∧ (type_of% @snapR_nili) ∧ (type_of% @snapR_ifc) ∧ (type_of% @snapR_ifr) ∧ (type_of% @snapR_iter) :=
 ⟨@snap_int, @snapV_int, @snap_bool, @snapV_bool, @snap_str, @snapV_str, @snap_nilp, @snapV_nilp, @snap_nils, @snapV_nils, @snap_nilfn, @snapV_nilfn, @snap_nilm, @snapV_nilm, @snap_sl, @snapV_sl, @snap_cptr, @snapV_cptr, @snap_mp, @snapV_mp, @snap_ptr, @snapV_ptr, @snap_fn, @snapV_fn, @snapV_msl, @snapV_mref, @snap_msl, @snap_mref, @snapV_agg, @snapR_tup, @snapR_int, @snapR_bool, @snapR_str, @snapR_nilp, @snapR_nils, @snapR_nilfn, @snapR_nilm, @snapR_sl, @snapR_cptr, @snapR_mp, @snapR_ptr, @snapR_fn, @snapR_msl, @snapR_mref, @snapR_agg, @snap_nili, @snap_ifc, @snap_ifr, @snap_iter, @snapV_nili, @snapV_ifc, @snapV_ifr, @snapV_iter, @snapR_nili, @snapR_ifc, @snapR_ifr, @snapR_iter⟩
theorem zf : (type_of% @free_int) ∧ (type_of% @freeV_int) ∧ (type_of% @freeR_int) ∧ (type_of% @free_bool) ∧ (type_of% @freeV_bool) ∧ (type_of% @freeR_bool) ∧ (type_of% @free_str) ∧ (type_of% @freeV_str) ∧ (type_of% @freeR_str) ∧ (type_of% @free_nilp) ∧ (type_of% @freeV_nilp) ∧ (type_of% @freeR_nilp) ∧ (type_of% @free_nils) ∧ (type_of% @freeV_nils) ∧ (type_of% @freeR_nils) ∧ (type_of% @free_nilfn) ∧ (type_of% @freeV_nilfn) ∧ (type_of% @freeR_nilfn) ∧ (type_of% @free_nilm) ∧ (type_of% @freeV_nilm) ∧ (type_of% @freeR_nilm) ∧ (type_of% @free_sl) ∧ (type_of% @freeV_sl) ∧ (type_of% @freeR_sl) ∧ (type_of% @free_cptr) ∧ (type_of% @freeV_cptr) ∧ (type_of% @freeR_cptr) ∧ (type_of% @free_mp) ∧ (type_of% @freeV_mp) ∧ (type_of% @freeR_mp) ∧ (type_of% @free_ptr) ∧ (type_of% @freeV_ptr) ∧ (type_of% @freeR_ptr) ∧ (type_of% @free_fn) ∧ (type_of% @freeV_fn) ∧ (type_of% @freeR_fn) ∧ (type_of% @free_msl) ∧ (type_of% @freeV_msl) ∧ (type_of% @freeR_msl) ∧ (type_of% @free_mref) ∧ (type_of% @freeV_mref) ∧ (type_of% @freeR_mref) ∧ (type_of% @freeV_agg) ∧ (type_of% @freeR_agg) ∧ (type_of% @freeR_tup) ∧ (type_of% @free_nili) ∧ (type_of% @free_ifc) ∧ (type_of% @free_ifr) ∧ (type_of% @free_iter) ∧ (type_of% @freeV_nili) ∧ (type_of% @freeV_ifc) ∧ (type_of% @freeV_ifr) ∧ (type_of% @freeV_iter) ∧ (type_of% @freeR_nili) ∧ (type_of% @freeR_ifc) ∧ (type_of% @freeR_ifr) ∧ (type_of% @freeR_iter) :=
 ⟨@free_int, @freeV_int, @freeR_int, @free_bool, @freeV_bool, @freeR_bool, @free_str, @freeV_str, @freeR_str, @free_nilp, @freeV_nilp, @freeR_nilp, @free_nils, @freeV_nils, @freeR_nils, @free_nilfn, @freeV_nilfn, @freeR_nilfn, @free_nilm, @freeV_nilm, @freeR_nilm, @free_sl, @freeV_sl, @freeR_sl, @free_cptr, @freeV_cptr, @freeR_cptr, @free_mp, @freeV_mp, @freeR_mp, @free_ptr, @freeV_ptr, @freeR_ptr, @free_fn, @freeV_fn, @freeR_fn, @free_msl, @freeV_msl, @freeR_msl, @free_mref, @freeV_mref, @freeR_mref, @freeV_agg, @freeR_agg, @freeR_tup, @free_nili, @free_ifc, @free_ifr, @free_iter, @freeV_nili, @freeV_ifc, @freeV_ifr, @freeV_iter, @freeR_nili, @freeR_ifc, @freeR_ifr, @freeR_iter⟩
theorem zc : (type_of% @isCell_int) ∧ (type_of% @val_int) ∧ (type_of% @cells_int) ∧ (type_of% @isCell_bool) ∧ (type_of% @val_bool) ∧ (type_of% @cells_bool) ∧ (type_of% @isCell_str) ∧ (type_of% @val_str) ∧ (type_of% @cells_str) ∧ (type_of% @isCell_nilp) ∧ (type_of% @val_nilp) ∧ (type_of% @cells_nilp) ∧ (type_of% @isCell_nils) ∧ (type_of% @val_nils) ∧ (type_of% @cells_nils) ∧ (type_of% @isCell_nilfn) ∧ (type_of% @val_nilfn) ∧ (type_of% @cells_nilfn) ∧ (type_of% @isCell_nilm) ∧ (type_of% @val_nilm) ∧ (type_of% @cells_nilm) ∧ (type_of% @isCell_sl) ∧ (type_of% @val_sl) ∧ (type_of% @cells_sl) ∧ (type_of% @isCell_cptr) ∧ (type_of% @val_cptr) ∧ (type_of% @cells_cptr) ∧ (type_of% @isCell_mp) ∧ (type_of% @val_mp) ∧ (type_of% @cells_mp) ∧ (type_of% @isCell_ptr) ∧ (type_of% @val_ptr) ∧ (type_of% @cells_ptr) ∧ (type_of% @isCell_fn) ∧ (type_of% @val_fn) ∧ (type_of% @cells_fn) ∧ (type_of% @isCell_msl) ∧ (type_of% @val_msl) ∧ (type_of% @cells_msl) ∧ (type_of% @isCell_mref) ∧ (type_of% @val_mref) ∧ (type_of% @cells_mref) ∧ (type_of% @val_agg) ∧ (type_of% @cells_agg) ∧ (type_of% @isCell_nili) ∧ (type_of% @isCell_ifc) ∧ (type_of% @isCell_ifr) ∧ (type_of% @isCell_iter) ∧ (type_of% @val_nili) ∧ (type_of% @val_ifc) ∧ (type_of% @val_ifr) ∧ (type_of% @val_iter) ∧ (type_of% @cells_nili) ∧ (type_of% @cells_ifc) ∧ (type_of% @cells_ifr) ∧ (type_of% @cells_iter) :=
 ⟨@isCell_int, @val_int, @cells_int, @isCell_bool, @val_bool, @cells_bool, @isCell_str, @val_str, @cells_str, @isCell_nilp, @val_nilp, @cells_nilp, @isCell_nils, @val_nils, @cells_nils, @isCell_nilfn, @val_nilfn, @cells_nilfn, @isCell_nilm, @val_nilm, @cells_nilm, @isCell_sl, @val_sl, @cells_sl, @isCell_cptr, @val_cptr, @cells_cptr, @isCell_mp, @val_mp, @cells_mp, @isCell_ptr, @val_ptr, @cells_ptr, @isCell_fn, @val_fn, @cells_fn, @isCell_msl, @val_msl, @cells_msl, @isCell_mref, @val_mref, @cells_mref, @val_agg, @cells_agg, @isCell_nili, @isCell_ifc, @isCell_ifr, @isCell_iter, @val_nili, @val_ifc, @val_ifr, @val_iter, @cells_nili, @cells_ifc, @cells_ifr, @cells_iter⟩
theorem zn : (type_of% @List.set_cons_zero.{0}) ∧ (type_of% @List.set_cons_succ.{0}) :=
 ⟨@List.set_cons_zero.{0}, @List.set_cons_succ.{0}⟩
theorem zq : (type_of% @fp_load_cptr) ∧ (type_of% @fp_load_ptr) ∧ (type_of% @fp_iaddr_sl) ∧ (type_of% @fp_iaddr_msl) ∧ (type_of% @fp_call) ∧ (type_of% @fp_callv) ∧ (type_of% @fp_append) ∧ (type_of% @fp_bslice) ∧ (type_of% @fp_store) ∧ (type_of% @fp_box) ∧ (type_of% @fp_alloc) ∧ (type_of% @fp_bstr) ∧ (type_of% @fp_strb) ∧ (type_of% @fp_slice_sl) ∧ (type_of% @fp_slice_msl) ∧ (type_of% @fp_mapget) ∧ (type_of% @fp_mkslice) ∧ (type_of% @fpAll_f) ∧ (type_of% @fpAll_t) :=
 ⟨@fp_load_cptr, @fp_load_ptr, @fp_iaddr_sl, @fp_iaddr_msl, @fp_call, @fp_callv, @fp_append, @fp_bslice, @fp_store, @fp_box, @fp_alloc, @fp_bstr, @fp_strb, @fp_slice_sl, @fp_slice_msl, @fp_mapget, @fp_mkslice, @fpAll_f, @fpAll_t⟩
theorem zg : (type_of% @List.getD_cons_zero.{0}) ∧ (type_of% @List.getD_cons_succ.{0}) ∧ (type_of% @List.getD_nil.{0}) :=
 ⟨@List.getD_cons_zero.{0}, @List.getD_cons_succ.{0}, @List.getD_nil.{0}⟩
theorem ze : (∀ (v e : List D), exports [] v e = e) ∧ (∀ (i d : Nat) (l : List (Nat × Nat)) (v e : List D), exports ((i, d) :: l) v e = exports l v (e.set i (v.getD d .undef))) ∧ (type_of% @List.set_cons_zero.{0}) ∧ (type_of% @List.set_cons_succ.{0}) ∧ (type_of% @List.getD_cons_zero.{0}) ∧ (type_of% @List.getD_cons_succ.{0}) ∧ (type_of% @List.getD_nil.{0}) :=
 ⟨by intros; rfl, by intros; rfl, @List.set_cons_zero.{0}, @List.set_cons_succ.{0}, @List.getD_cons_zero.{0}, @List.getD_cons_succ.{0}, @List.getD_nil.{0}⟩
theorem zb : (type_of% @eq_self.{1}) ∧ (type_of% @ne_eq.{1}) ∧ (type_of% @not_false_eq_true) ∧ (type_of% @true_and) ∧ (type_of% @ite_true.{1}) ∧ (type_of% @ite_false.{1}) ∧ (type_of% @not_true_eq_false) :=
 ⟨@eq_self.{1}, @ne_eq.{1}, @not_false_eq_true, @true_and, @ite_true.{1}, @ite_false.{1}, @not_true_eq_false⟩
theorem zw : (type_of% @List.length_nil.{0}) ∧ (type_of% @List.length_cons.{0}) ∧ (type_of% @List.range_succ) ∧ (type_of% @List.range_zero) ∧ (type_of% @List.nil_append.{0}) ∧ (type_of% @List.map_nil.{0, 0}) ∧ (type_of% @List.reverse_nil.{0}) ∧ (type_of% @List.cons_append.{0}) ∧ (type_of% @List.map_cons.{0, 0}) ∧ (type_of% @List.reverse_cons.{0}) ∧ (type_of% @Nat.zero_add) ∧ (type_of% @Nat.add_zero) ∧ (type_of% @List.append_nil.{0}) :=
 ⟨@List.length_nil.{0}, @List.length_cons.{0}, @List.range_succ, @List.range_zero, @List.nil_append.{0}, @List.map_nil.{0, 0}, @List.reverse_nil.{0}, @List.cons_append.{0}, @List.map_cons.{0, 0}, @List.reverse_cons.{0}, @Nat.zero_add, @Nat.add_zero, @List.append_nil.{0}⟩
theorem zk : (type_of% @Option.map_some.{0, 0}) ∧ (type_of% @List.all_cons.{0}) ∧ (type_of% @List.all_nil.{0}) ∧ (type_of% @Bool.and_self) ∧ (type_of% @Bool.and_true) ∧ (type_of% @if_true.{1}) ∧ (type_of% @if_false.{1}) ∧ (type_of% @Bool.false_eq_true) ∧ (type_of% @List.length_nil.{0}) ∧ (type_of% @Nat.le_refl) ∧ (type_of% @Nat.zero_le) :=
 ⟨@Option.map_some.{0, 0}, @List.all_cons.{0}, @List.all_nil.{0}, @Bool.and_self, @Bool.and_true, @if_true.{1}, @if_false.{1}, @Bool.false_eq_true, @List.length_nil.{0}, @Nat.le_refl, @Nat.zero_le⟩
theorem zd : (type_of% @loadD_cptr) ∧ (type_of% @loadD_ptr) :=
 ⟨@loadD_cptr, @loadD_ptr⟩
section
variable {call : CallF} {vals env : List D} {S : St} {K : List D → St → Prop} {os : List LOper} {od : List Bool} {ho : Option Nat} {n : Nat} {news : List (TypeId × List D)} {fps : List FP} {r : D} {j : Nat}
theorem getD_of {l : List D} (h : l[j]? = some r) : l.getD j .undef = r := by rw [List.getD_eq_getElem?_getD, h]; rfl
theorem ow_me (h : env[j]? = some r) (k : OW call os (r :: vals) env S K) : OW call (⟨.mv, [.env j], none, od, ho⟩ :: os) vals env S K := ow_pop rfl (by simp only [pop, List.map_cons, List.map_nil, opd, getD_of h]) k
theorem ow_ml (h : vals[j]? = some r) (k : OW call os (r :: vals) env S K) : OW call (⟨.mv, [.loc j], none, od, ho⟩ :: os) vals env S K := ow_pop rfl (by simp only [pop, List.map_cons, List.map_nil, opd, getD_of h]) k
theorem ow_mc (k : OW call os (r :: vals) env S K) : OW call (⟨.mv, [.const r], none, od, ho⟩ :: os) vals env S K := ow_pop rfl rfl k
theorem dw_me (h : env[j]? = some r) (hn : od.length = fps.length) (k : DW call n news os (fpQuiet :: fps) (r :: vals) env S K) : DW call n news (⟨.mv, [.env j], none, od, none⟩ :: os) fps vals env S K := dw_pop rfl (by simp only [pop, List.map_cons, List.map_nil, opd, getD_of h]) hn k
theorem dw_ml (h : vals[j]? = some r) (hn : od.length = fps.length) (k : DW call n news os (fpQuiet :: fps) (r :: vals) env S K) : DW call n news (⟨.mv, [.loc j], none, od, none⟩ :: os) fps vals env S K := dw_pop rfl (by simp only [pop, List.map_cons, List.map_nil, opd, getD_of h]) hn k
theorem dw_mc (hn : od.length = fps.length) (k : DW call n news os (fpQuiet :: fps) (r :: vals) env S K) : DW call n news (⟨.mv, [.const r], none, od, none⟩ :: os) fps vals env S K := dw_pop rfl rfl hn k
end
theorem zo : (∀ (v e : List D) (j : Nat), opd v e (.env j) = e.getD j .undef) ∧ (∀ (v e : List D) (j : Nat), opd v e (.loc j) = v.getD j .undef) ∧ (∀ (v e : List D) (d : D), opd v e (.const d) = d) ∧ (∀ (c : CallF) (S : St) (f : FuncId) (xs : List D), exOp c (.call f) xs S = c f xs S) ∧ (∀ (c : CallF) (S : St) (f : FuncId) (k ys : List D), exOp c .callv (.fn f k :: ys) S = c f (ys ++ k) S) ∧ (∀ (c : CallF) (S : St) (tab : List (TypeId × FuncId)) (t : TypeId) (x : D) (ys : List D), exOp c (.invoke tab) (.ifc t x :: ys) S = match tab.lookup t with | some f => c f (x :: ys) S | none => none) ∧ (∀ (c : CallF) (S : St) (tab : List (TypeId × FuncId)) (t : TypeId) (x : D) (ys : List D), exOp c (.invoke tab) (.ifr t x :: ys) S = match tab.lookup t with | some f => c f (x :: ys) S | none => none) ∧ (∀ (c : CallF) (S : St) (x : D), exOp c .mv [x] S = some (x, S, false)) ∧ (∀ (c : CallF) (S : St) (b : Bool) (x y : D), exOp c .pick [.bool b, x, y] S = some (if b then x else y, S, false)) ∧ (∀ (c : CallF) (S : St) (o : BinOp) (x y : D), exOp c (.bin o) [x, y] S = (binD o x y).map fun r => (r, S, false)) ∧ (∀ (c : CallF) (S : St) (g a b : Bool), exOp c (.eqb g) [.bool a, .bool b] S = some (.bool ((a == b) != g), S, false)) ∧ (∀ (c : CallF) (S : St) (g : Bool) (fs : List Nat) (a b : List D), exOp c (.eqs g fs) [.agg a, .agg b] S = ((eqCells fs a b).map fun r => D.bool (r != g)).map fun r => (r, S, false)) ∧ (∀ (c : CallF) (S : St) (o : UnOp) (x : D), exOp c (.un o) [x] S = (unD o x).map fun r => (r, S, false)) ∧ (∀ (c : CallF) (S : St) (o z : Nat) (g : Bool) (a : List D), exOp c (.field o z g) [.agg a] S = (partD a o z g).map fun r => (r, S, false)) ∧ (∀ (c : CallF) (S : St) (z : List D) (ps : List (Nat × Nat)) (xs : List D), exOp c (.build z ps) xs S = ((fillD z ps xs).map .agg).map fun r => (r, S, false)) ∧ (∀ (c : CallF) (S : St) (g v i o : Nat), exOp c .nilck [.ptr g v i o] S = some (.ptr g v i o, S, false)) ∧ (∀ (c : CallF) (S : St) (r : List D) (o : Nat), exOp c .nilck [.cptr r o] S = some (.cptr r o, S, false)) ∧ (∀ (c : CallF) (S : St) (f : FuncId) (k : List D), exOp c .nilck [.fn f k] S = some (.fn f k, S, false)) ∧ (∀ (c : CallF) (S : St) (o : Nat) (a : D), exOp c (.faddr o) [a] S = (faddrD o a).map fun r => (r, S, false)) ∧ (∀ (c : CallF) (S : St) (z n : Nat) (x i : D), exOp c (.aaddr z n) [x, i] S = (aaddrD z n x i).map fun r => (r, S, false)) ∧ (∀ (c : CallF) (S : St) (x i : D), exOp c .index [x, i] S = (indexD x i).map fun r => (r, S, false)) ∧ (∀ (c : CallF) (S : St) (z n : Nat) (g : Bool) (a : List D) (k : IntKind) (i : Int), exOp c (.aindex z n g) [.agg a, .int k i] S = (if 0 ≤ i ∧ i < n then partD a (i.toNat * z) z g else none).map fun r => (r, S, false)) ∧ (∀ (c : CallF) (S : St) (z : Nat) (a b d : Bool) (s : ByteArray) (xs : List D), exOp c (.slice true z a b d) (.str s :: xs) S = (match sliceArgs a b d xs with | some (a, b, none) => (boundsD s.size a b).map fun (l, h) => D.str (s.extract l h) | _ => none).map fun r => (r, S, false)) ∧ (∀ (c : CallF) (S : St) (g : Bool) (x : D), exOp c (.len g) [x] S = (lenD g x).map fun r => (r, S, false)) ∧ (∀ (c : CallF) (S : St) (n : Nat) (x : D), exOp c (.lenc n) [x] S = some (.int .i64 n, S, false)) ∧ (∀ (c : CallF) (S : St) (x : D), exOp c .cap [x] S = (capD x).map fun r => (r, S, false)) ∧ (∀ (c : CallF) (S : St) (x : D) (l : List D), exOp c .max (x :: l) S = (foldD maxD x l).map fun r => (r, S, false)) ∧ (∀ (c : CallF) (S : St) (x : D) (l : List D), exOp c .min (x :: l) S = (foldD minD x l).map fun r => (r, S, false)) ∧ (∀ (c : CallF) (S : St) (f : FuncId) (xs : List D), exOp c (.mkfn f) xs S = some (.fn f xs, S, false)) ∧ (∀ (c : CallF) (S : St) (i : Nat) (a : List D), exOp c (.extract i) [.tup a] S = (a[i]?).map fun r => (r, S, false)) ∧ (∀ (c : CallF) (S : St) (k k' : IntKind) (n : Int), exOp c (.conv k) [.int k' n] S = some (.int k (k.wrap n), S, false)) ∧ (∀ (c : CallF) (S : St) (s : ByteArray), exOp c .sconv [.str s] S = some (.str s, S, false)) ∧ (∀ (c : CallF) (S : St) (s : ByteArray) (n : Int), exOp c .idxb [.str s, .int .u8 n] S = some (.int .i64 (match (List.range s.size).find? (fun i => s[i]! == UInt8.ofNat n.toNat) with | some i => (i : Int) | none => -1), S, false)) ∧ (∀ (c : CallF) (S : St) (s : ByteArray) (n : Int), exOp c .cntb [.str s, .int .u8 n] S = some (.int .i64 (s.foldl (fun k x => if x == UInt8.ofNat n.toNat then k + 1 else k) (0 : Nat)), S, false)) ∧ (∀ (c : CallF) (S : St) (g : Bool) (n : Nat) (x y : D), exOp c (.eqnil g n) [x, y] S = ((eqnilD n x y).map fun b => D.bool (b != g)).map fun r => (r, S, false)) ∧ (∀ (c : CallF) (S : St) (t : TypeId) (x : D), exOp c (.mkif t) [x] S = (if x.val then some (if x.freeV then .ifc t x else .ifr t x) else none).map fun r => (r, S, false)) ∧ (type_of% @List.map_cons.{0, 0}) ∧ (type_of% @List.map_nil.{0, 0}) ∧ (type_of% @List.getD_cons_zero.{0}) ∧ (type_of% @List.getD_cons_succ.{0}) ∧ (type_of% @List.getD_nil.{0}) ∧ (type_of% @if_false.{1}) ∧ (type_of% @if_true.{1}) ∧ (type_of% @Bool.false_eq_true) ∧ (type_of% @Option.map_some.{0, 0}) :=
 ⟨by intros; rfl, by intros; rfl, by intros; rfl, by intros; rfl, by intros; rfl, by intros; rfl, by intros; rfl, by intros; rfl, by intros; rfl, by intros; rfl, by intros; rfl, by intros; rfl, by intros; rfl, by intros; rfl, by intros; rfl, by intros; rfl, by intros; rfl, by intros; rfl, by intros; rfl, by intros; rfl, by intros; rfl, by intros; rfl, by intros; rfl, by intros; rfl, by intros; rfl, by intros; rfl, by intros; rfl, by intros; rfl, by intros; rfl, by intros; rfl, by intros; rfl, by intros; rfl, by intros; rfl, by intros; rfl, by intros; rfl, by intros; rfl, @List.map_cons.{0, 0}, @List.map_nil.{0, 0}, @List.getD_cons_zero.{0}, @List.getD_cons_succ.{0}, @List.getD_nil.{0}, @if_false.{1}, @if_true.{1}, @Bool.false_eq_true, @Option.map_some.{0, 0}⟩
theorem zl : (∀ (v e : List D) (j : Nat), opd v e (.env j) = e.getD j .undef) ∧ (∀ (v e : List D) (j : Nat), opd v e (.loc j) = v.getD j .undef) ∧ (∀ (v e : List D) (d : D), opd v e (.const d) = d) ∧ (∀ (c : CallF) (S : St) (e : TypeId) (z : List D), exOp c (.alloc e z) [] S = some (.ptr S.heap.length 0 0 0, newAt S ⟨e, z.length, [z], 0, 0, false⟩, true)) ∧ (∀ (c : CallF) (S : St) (e : TypeId) (z : Nat) (x : D), exOp c (.box e z) [x] S = if x.val && x.cells.length == z then some (.ptr S.heap.length 0 0 0, newAt S ⟨e, z, [x.cells], 0, 0, false⟩, true) else none) ∧ (∀ (c : CallF) (S : St) (e z n : Nat) (d : List D) (ps : List Nat) (k : Nat) (xs : List D), exOp c (.bslice e z n d ps k) xs S = if k = 0 then (match fillRows0 (List.replicate n d) z ps xs with | some rs => some (.msl S.heap.length 0 0 n none, newAt S ⟨e, z, rs, 0, 0, false⟩, true) | none => none) else match snapVs S.heap.length S.heap xs with | some ys => (match fillRows (List.replicate n d) z ps ys with | some rs => if k = 2 then some (.msl S.heap.length 0 0 n none, newAt S ⟨e, z, rs, 0, 2, false⟩, true) else some (.sl z rs (some n), S, false) | none => none) | none => none) ∧ (∀ (c : CallF) (S : St) (z : Nat) (g : Bool) (a : D), exOp c (.load z g) [a] S = (loadD z g S a).map fun r => (r, S, false)) ∧ (∀ (c : CallF) (S : St) (z : Nat) (a x : D), exOp c (.store z) [a, x] S = (storeD z S a x).map fun S' => (.undef, S', true)) ∧ (∀ (c : CallF) (S : St) (z : Nat) (x i : D), exOp c (.iaddr z) [x, i] S = (iaddrD S z x i).map fun r => (r, S, false)) ∧ (∀ (c : CallF) (S : St) (z : Nat) (a b d : Bool) (x : D) (xs : List D), exOp c (.slice false z a b d) (x :: xs) S = match sliceArgs a b d xs with | some (a, b, m) => (sliceD S z x a b m).map fun r => (r, S, false) | none => none) ∧ (∀ (c : CallF) (S : St) (e z n k : Nat) (s x : D), exOp c (.append e z n k) [s, x] S = appendD e z n k s x S) ∧ (∀ (c : CallF) (S : St) (e z n : Nat) (d : List D) (g : Nat) (k k' : IntKind) (l m : Int), exOp c (.mkslice e z n d g) [.int k l, .int k' m] S = if 0 ≤ l ∧ l ≤ m ∧ m.toNat * n ≤ 140737488355328 then some (.msl S.heap.length 0 0 l.toNat none, newAt S ⟨e, z, List.replicate l.toNat d, 0, g, decide (l ≠ m)⟩, true) else none) ∧ (∀ (c : CallF) (S : St) (x : D), exOp c .bstr [x] S = match readRows S 1 x with | some rows => (bytesOf rows).map fun b => (.str ⟨b.toArray⟩, S, false) | none => none) ∧ (∀ (c : CallF) (S : St) (s : ByteArray), exOp c .strb [.str s] S = some (.sl 1 (byteRows s) none, S, false)) ∧ (∀ (c : CallF) (S : St) (e z n : Nat) (d : List D) (k : IntKind) (m : Int), exOp c (.appmk e z n d) [.nils, .int k m] S = if 0 < m ∧ m.toNat * n ≤ 140737488355328 then some (.msl S.heap.length 0 0 m.toNat none, newAt S ⟨e, z, List.replicate m.toNat d, 0, 2, true⟩, true) else none) ∧ (∀ (c : CallF) (S : St) (e n k : Nat) (s : D) (t : ByteArray), exOp c (.appstr e n k) [s, .str t] S = appendRows e 1 n k s (byteRows t) S) ∧ (∀ (c : CallF) (S : St) (g : Bool) (x y : D), exOp c (.eqp g) [x, y] S = (eqpD S x y).map fun b => (.bool (b != g), S, false)) ∧ (∀ (c : CallF) (S : St) (t : TypeId) (n : Nat) (x : D), exOp c (.toU t n) [x] S = (wholeD S t n x).map fun r => (r, S, false)) ∧ (∀ (c : CallF) (S : St) (t : TypeId) (n : Nat) (x : D), exOp c (.ofU t n) [x] S = (wholeD S t n x).map fun r => (r, S, false)) ∧ (∀ (c : CallF) (S : St) (x : D), exOp c .sdata [x] S = (sdataD S x).map fun r => (r, S, false)) ∧ (∀ (c : CallF) (S : St) (e : TypeId) (x : D) (n : Int), exOp c (.ustr e) [x, .int .i64 n] S = ustrD S e x n) ∧ (∀ (c : CallF) (S : St) (x : D), exOp c .strsh [x] S = strshD S x) ∧ (∀ (c : CallF) (S : St) (s : ByteArray), exOp c .rngs [.str s] S = some (.iter S.heap.length 0, newAt S ⟨1, 2, [[.str s, .int .i64 0]], 0, 3, false⟩, true)) ∧ (∀ (c : CallF) (S : St) (g v : Nat), exOp c .nexts [.iter g v] S = nextsD S g v) ∧ (∀ (c : CallF) (S : St), exOp c .mkmap [] S = some (.mref S.heap.length 0, newAt S ⟨0, 2, [], 0, 3, false⟩, true)) ∧ (∀ (c : CallF) (S : St) (k : Nat) (a b d : D), exOp c (.mapset k) [a, b, d] S = (mapsetD S k a b d).map fun S' => (.undef, S', true)) ∧ (∀ (c : CallF) (S : St) (k : Nat) (z : D) (g : Bool) (a b : D), exOp c (.mapget k z g) [a, b] S = (mapgetD S k z g a b).map fun r => (r, S, false)) ∧ (∀ (c : CallF) (S : St) (k : List Nat) (a b d : D), exOp c (.mapsetS k) [a, b, d] S = (mapsetSD S k a b d).map fun S' => (.undef, S', true)) ∧ (∀ (c : CallF) (S : St) (k : List Nat) (z : D) (g : Bool) (a b : D), exOp c (.mapgetS k z g) [a, b] S = (mapgetSD S k z g a b).map fun r => (r, S, false)) ∧ (∀ (c : CallF) (S : St) (z k : Nat) (d x : D), exOp c (.copy z k) [d, x] S = match readK k S z x with | some src => copyRows z k d src S | none => none) ∧ (∀ (c : CallF) (S : St) (k : Nat) (d : D) (s : ByteArray), exOp c (.copys k) [d, .str s] S = if k = 0 then none else copyRows 1 k d (byteRows s) S) ∧ (∀ (c : CallF) (S : St) (e : TypeId) (n : Int), exOp c (.mknz e) [.int .i64 n] S = if 0 ≤ n ∧ n ≤ 140737488355328 then some (.msl S.heap.length 0 0 n.toNat none, newAt S ⟨e, 1, List.replicate n.toNat [.junk], 0, 2, true⟩, true) else none) ∧ (∀ (S : St) (g v : Nat), rowsOf S g v = match S.heap[g]? with | some o => if o.ver = v then some o else none | none => none) ∧ (∀ (S : St) (o : AObj), newAt S o = ⟨S.heap ++ [o], S.low⟩) ∧ (∀ (S : St) (g : Nat) (o : AObj), setAt S g o = ⟨S.heap.set g o, min S.low g⟩) ∧ (type_of% @List.map_cons.{0, 0}) ∧ (type_of% @List.map_nil.{0, 0}) ∧ (type_of% @List.getD_cons_zero.{0}) ∧ (type_of% @List.getD_cons_succ.{0}) ∧ (type_of% @List.getD_nil.{0}) ∧ (type_of% @at_app) ∧ (type_of% @at_app0) ∧ (type_of% @set_app) ∧ (type_of% @set_app0) ∧ (type_of% @min_low) ∧ (type_of% @List.append_assoc.{0}) ∧ (type_of% @List.length_append.{0}) ∧ (type_of% @List.length_set.{0}) ∧ (type_of% @List.set_cons_zero.{0}) ∧ (type_of% @List.set_cons_succ.{0}) ∧ (type_of% @Nat.min_self) ∧ (type_of% @Nat.zero_min) ∧ (type_of% @Nat.min_zero) :=
 ⟨by intros; rfl, by intros; rfl, by intros; rfl, by intros; rfl, by intros; rfl, by intros; rfl, by intros; rfl, by intros; rfl, by intros; rfl, by intros; rfl, by intros; rfl, by intros; rfl, by intros; rfl, by intros; rfl, by intros; rfl, by intros; rfl, by intros; rfl, by intros; rfl, by intros; rfl, by intros; rfl, by intros; rfl, by intros; rfl, by intros; rfl, by intros; rfl, by intros; rfl, by intros; rfl, by intros; rfl, by intros; rfl, by intros; rfl, by intros; rfl, by intros; rfl, by intros; rfl, by intros; rfl, by intros; rfl, by intros; rfl, @List.map_cons.{0, 0}, @List.map_nil.{0, 0}, @List.getD_cons_zero.{0}, @List.getD_cons_succ.{0}, @List.getD_nil.{0}, @at_app, @at_app0, @set_app, @set_app0, @min_low, @List.append_assoc.{0}, @List.length_append.{0}, @List.length_set.{0}, @List.set_cons_zero.{0}, @List.set_cons_succ.{0}, @Nat.min_self, @Nat.zero_min, @Nat.min_zero⟩
end Go.Proofs.YtabgobmeibjeeaaGreatDoor

namespace Go.Proofs.YtabgobmeibjeeaaGreatDoor
open Go.RowKit
set_option linter.unusedVariables false

def rho0 (G : Nat → Option (List D)) : RMap := ⟨fun _ => none, ⟨fun _ _ => False, G⟩⟩
def GlobOK (G : Nat → Option (List D)) (w : World) : Prop := ∀ g row, G g = some row → VR w (rho0 G) [] (.cptr row 0) (.pointer (some ⟨g, 0, none⟩))
theorem glob_none (w : World) : GlobOK (fun _ => none) w := fun g row h => by simp at h
theorem rel0 {G : Nat → Option (List D)} {w : World} (hG : GlobOK G w) : Rel w (rho0 G) [] := ⟨fun g g' b h => by simp [rho0] at h, fun g b h => by simp [rho0] at h, fun b q h => h.elim, hG⟩
theorem imm0 {G : Nat → Option (List D)} {w : World} {b q : Nat} (h : b < w.heap.size) : Imm w (rho0 G) [] b q := ⟨h, fun h => h, fun g hg => by simp [rho0] at hg⟩
theorem call0 {P : Program} {G : Nat → Option (List D)} {L : Prg} (hm : P.follows .mixedOrders = true) (hL : PrgOK P G L) {N d : Nat} {f : FuncId} {ds : List D} {b : Bool} (h : runF L N d f ds ⟨[], 0⟩ = some (.bool b, ⟨[], 0⟩, false)) {w : World} (hG : GlobOK G w) {vs : List Value} (hv : VL w (rho0 G) [] ds vs) :
  Calls P f vs.toArray w fun e w' => e = .returned (.bool b) ∧ Below w.heap.size w w' := by
 obtain ⟨_, hc⟩ := run_ok hm hL N d f ds ⟨[], 0⟩ (.bool b) ⟨[], 0⟩ false h w (rho0 G) vs rfl (rel0 hG) hv
 refine hc.mono ?_
 rintro e w' ⟨v, rfl, hp⟩
 obtain ⟨ρ', hr, hs, hv', _⟩ := hp
 refine ⟨?_, ?_⟩
 ·
  cases hv'
  rfl
 ·
  exact ⟨hs.os, hs.tape, hs.output, hs.size, fun k hk => (hs.out k hk (fun g hg => by simp [rho0] at hg)).1⟩
/-! an argument, as it is read, in the machine -/
section
variable {G : Nat → Option (List D)} {H : Type} {enc : TypeId × Value → H} {P : Program} {w : World} {base : Nat} {spare : Nat → Bool} {held : Bool}
def tileT (P : Program) : List Field → Nat → Option Nat
 | [], o => some o
 | f :: l, o => if f.offset = o then tileT P l (o + P.cellsOf f.type) else none
def okT (P : Program) : Nat → TypeId → Bool
 | 0, _ => false
 | n + 1, t => match P.underlying t with
  | some (.int _) | some .bool | some .string => P.cellsOf t == 1
  | some (.slice e) => P.cellsOf t == 1 && okT P n e && decide (0 < P.cellsOf e)
  | some (.array k e) => okT P n e && P.cellsOf t == k * P.cellsOf e
  | some (.struct fs) => tileT P fs.toList 0 == some (P.cellsOf t) && fs.all fun f => okT P n f.type
  | _ => false
def Sh (P : Program) : Nat → TypeId → List D → Prop
 | 0, _, _ => False
 | n + 1, t, ds => match P.underlying t with
  | some (.int k) => ∃ m, ds = [.int k m] ∧ (Lit.int k m).wf = true
  | some .bool => ∃ b, ds = [.bool b]
  | some .string => ∃ s : ByteArray, ds = [.str s] ∧ s.size ≤ maxLen
  | some (.slice e) => ∃ x rows, ds = [x] ∧ SlD (P.cellsOf e) rows x ∧ rows.length ≤ maxLen ∧ ∀ r ∈ rows, Sh P n e r
  | some (.array k e) => ∃ parts : List (List D), ds = parts.flatten ∧ parts.length = k ∧ ∀ r ∈ parts, Sh P n e r
  | some (.struct fs) => ∃ parts : List (List D), ds = parts.flatten ∧ parts.length = fs.size ∧ ∀ (j : Nat) (f : Field), fs[j]? = some f → ∃ r, parts[j]? = some r ∧ Sh P n f.type r
  | _ => False
theorem Sh.int {n : Nat} {t : TypeId} {k : IntKind} {ds : List D} (hu : P.underlying t = some (.int k)) (h : Sh P (n + 1) t ds) : ∃ m, ds = [.int k m] ∧ (Lit.int k m).wf = true := by simpa only [Sh, hu] using h
theorem Sh.bool {n : Nat} {t : TypeId} {ds : List D} (hu : P.underlying t = some .bool) (h : Sh P (n + 1) t ds) : ∃ b, ds = [.bool b] := by simpa only [Sh, hu] using h
theorem Sh.str {n : Nat} {t : TypeId} {ds : List D} (hu : P.underlying t = some .string) (h : Sh P (n + 1) t ds) : ∃ s : ByteArray, ds = [.str s] ∧ s.size ≤ maxLen := by simpa only [Sh, hu] using h
theorem Sh.slice {n : Nat} {t e : TypeId} {ds : List D} (hu : P.underlying t = some (.slice e)) (h : Sh P (n + 1) t ds) : ∃ x rows, ds = [x] ∧ SlD (P.cellsOf e) rows x ∧ rows.length ≤ maxLen ∧ ∀ r ∈ rows, Sh P n e r := by simpa only [Sh, hu] using h
theorem Sh.array {n k : Nat} {t e : TypeId} {ds : List D} (hu : P.underlying t = some (.array k e)) (h : Sh P (n + 1) t ds) : ∃ parts : List (List D), ds = parts.flatten ∧ parts.length = k ∧ ∀ r ∈ parts, Sh P n e r := by simpa only [Sh, hu] using h
theorem Sh.struct {n : Nat} {t : TypeId} {fs : Array Field} {ds : List D} (hu : P.underlying t = some (.struct fs)) (h : Sh P (n + 1) t ds) : ∃ parts : List (List D), ds = parts.flatten ∧ parts.length = fs.size ∧ ∀ (j : Nat) (f : Field), fs[j]? = some f → ∃ r, parts[j]? = some r ∧ Sh P n f.type r := by simpa only [Sh, hu] using h
theorem rows_of {α : Type} {f : α → List D} : ∀ {rows : List (List D)}, (∀ r ∈ rows, ∃ a, r = f a) → ∃ l : List α, rows = l.map f
 | [], _ => ⟨[], rfl⟩
 | r :: rows, h => by
  obtain ⟨l, rfl⟩ := rows_of (fun r' hr' => h r' (List.mem_cons_of_mem _ hr'))
  obtain ⟨a, rfl⟩ := h r List.mem_cons_self
  exact ⟨a :: l, rfl⟩
theorem u8_nat {n : Int} (h : (Lit.int .u8 n).wf = true) : ∃ m : Nat, n = m ∧ m < 256 := by
 have b : 0 ≤ n ∧ n ≤ 255 := by simpa [Lit.wf, IntKind.min, IntKind.max, IntKind.signed, IntKind.bits] using h
 exact ⟨n.toNat, by omega, by omega⟩
def freeL (ds : List D) : Prop := ∀ d ∈ ds, d.free = true
theorem cell_plain {a : Addr} {v : Value} (h : w.cell? a = some v) : a.spot = none ∧ a.block < w.heap.size := by
 refine ⟨?_, World.block_lt_of_cell? w _ h⟩
 unfold World.cell? at h
 split at h
 ·
  split at h
  ·
   simp at h
  ·
   rename_i hs; simpa using hs
 ·
  simp at h
theorem vr_rows {sz len cap : Nat} {a : Addr} {rows : List (List D)} {vals : List (List Value)} (h0z : 0 < sz) (hlen : rows.length = len) (hvl : vals.length = len) (hcap : len ≤ cap) (hz : ∀ r ∈ rows, r.length = sz) (hfree : ∀ r ∈ rows, freeL r)
    (hi : ∀ i r vs, rows[i]? = some r → vals[i]? = some vs → VL w (rho0 G) [] r vs ∧ ∀ j, j < sz → w.cell? (a.add (i * sz + j)) = vs[j]?) :
    VR w (rho0 G) [] (.sl sz rows none) (.slice (some a) len cap) := by
  by_cases hne : rows ≠ []
  · have h0 : 0 < rows.length := List.length_pos_iff.2 hne
    have hv0 : 0 < vals.length := by omega
    have hr0 : rows[0]? = some rows[0] := List.getElem?_eq_getElem h0
    obtain ⟨hl, hc⟩ := hi 0 _ _ hr0 (List.getElem?_eq_getElem hv0)
    have hs0 := hz rows[0] (List.getElem_mem h0)
    have hc := hc 0 h0z
    have hl := hl.len
    rw [List.getElem?_eq_getElem (by omega)] at hc
    rw [show a.add (0 * sz + 0) = a by simp [Addr.add]] at hc
    obtain ⟨hsp, _⟩ := cell_plain hc
    obtain ⟨b, o, sp⟩ := a
    have hsp : sp = none := hsp
    subst hsp
    have hb : b < w.heap.size := World.block_lt_of_cell? w _ hc
    refine VR.sl sz rows none ⟨b, o, none⟩ len cap hlen.symm hcap (fun k h => by simp at h) hz b o (fun i j => ((vals[i]?.getD [])[j]?).getD .nilFunc) (fun _ => rfl) ?_ ?_
    · intro i r j d h1 h2
      obtain ⟨i1, _⟩ := List.getElem?_eq_some_iff.1 h1
      have hv1 : vals[i]? = some (vals[i]'(by omega)) := List.getElem?_eq_getElem (by omega)
      obtain ⟨hl', hc'⟩ := hi i r _ h1 hv1
      have hz' := hz r (List.mem_of_getElem? h1)
      have hj := (List.getElem?_eq_some_iff.1 h2).1
      have hc' := hc' j (by omega)
      rw [add_plain, ← Nat.add_assoc] at hc'
      have hl'' := hl'.len
      refine ⟨?_, imm0 hb, hfree r (List.mem_of_getElem? h1) d (List.mem_of_getElem? h2)⟩
      rw [hc', hv1]
      simp [List.getElem?_eq_getElem (show j < (vals[i]'(by omega)).length by omega)]
    · intro i r j d h1 h2
      obtain ⟨i1, _⟩ := List.getElem?_eq_some_iff.1 h1
      have hv1 : vals[i]? = some (vals[i]'(by omega)) := List.getElem?_eq_getElem (by omega)
      obtain ⟨hl', _⟩ := hi i r _ h1 hv1
      have hj := (List.getElem?_eq_some_iff.1 h2).1
      have hl'' := hl'.len
      refine hl'.get h2 ?_
      rw [hv1]
      simp [List.getElem?_eq_getElem (show j < (vals[i]'(by omega)).length by omega)]
  · have he : rows = [] := Classical.byContradiction hne
    subst he
    exact VR.sl sz [] none a len cap hlen.symm hcap (fun k h => by simp at h) hz 0 0 (fun _ _ => .nilFunc) (fun h => absurd rfl h) (fun i r j d h1 => by simp at h1) (fun i r j d h1 => by simp at h1)
theorem choose_rows {α β : Type} {p : Nat → α → β → Prop} : ∀ n, (∀ i, i < n → ∃ a b, p i a b) → ∃ (l : List α) (m : List β), l.length = n ∧ m.length = n ∧ ∀ i a b, l[i]? = some a → m[i]? = some b → p i a b
 | 0, _ => ⟨[], [], rfl, rfl, fun i a b h => by simp at h⟩
 | n + 1, h => by
  obtain ⟨l, m, h1, h2, h3⟩ := choose_rows n (fun i hi => h i (by omega))
  obtain ⟨a, b, hab⟩ := h n (by omega)
  refine ⟨l ++ [a], m ++ [b], by simp [h1], by simp [h2], fun i a' b' e1 e2 => ?_⟩
  rw [List.getElem?_append] at e1 e2
  rw [h1] at e1
  rw [h2] at e2
  by_cases hi : i < n
  ·
   rw [if_pos hi] at e1 e2
   exact h3 i a' b' e1 e2
  ·
   rw [if_neg hi] at e1 e2
   have : i = n := by
    rcases Nat.lt_trichotomy i n with h | h | h
    ·
     omega
    ·
     exact h
    ·
     rw [List.getElem?_eq_none (by simp; omega)] at e1; simp at e1
   subst this
   simp at e1 e2
   subst e1 e2
   exact hab
theorem vl_parts {n : Nat} {cs : List Value} : ∀ (fs : List Field) (o e : Nat), tileT P fs o = some e → (∀ (j : Nat) (f : Field), fs[j]? = some f → ∃ r, VL w (rho0 G) [] r ((cs.drop f.offset).take (P.cellsOf f.type)) ∧ Sh P n f.type r ∧ freeL r) →
    ∃ parts : List (List D), parts.length = fs.length ∧ o ≤ e ∧ VL w (rho0 G) [] parts.flatten ((cs.drop o).take (e - o)) ∧ freeL parts.flatten ∧ ∀ (j : Nat) (f : Field), fs[j]? = some f → ∃ r, parts[j]? = some r ∧ Sh P n f.type r
  | [], o, e, h, _ => by
    simp only [tileT, Option.some.injEq] at h
    subst h
    exact ⟨[], rfl, Nat.le_refl _, by simpa using VL.nil, fun d hd => by simp at hd, fun j f h => by simp at h⟩
  | f :: l, o, e, h, hf => by
    simp only [tileT] at h
    split at h
    · rename_i ho
      obtain ⟨parts, h1, h2, h3, h4, h5⟩ := vl_parts l _ e h (fun j g hg => hf (j + 1) g (by simpa using hg))
      obtain ⟨r, r1, r2, r3⟩ := hf 0 f rfl
      rw [ho] at r1
      refine ⟨r :: parts, by simp [h1], by omega, ?_, ?_, ?_⟩
      · have e1 : (cs.drop o).take (e - o) = (cs.drop o).take (P.cellsOf f.type) ++ (cs.drop (o + P.cellsOf f.type)).take (e - (o + P.cellsOf f.type)) := by
          have : e - o = P.cellsOf f.type + (e - (o + P.cellsOf f.type)) := by omega
          rw [this, List.take_add, List.drop_drop]
        rw [List.flatten_cons, e1]
        exact r1.append h3
      · rw [List.flatten_cons]
        intro d hd
        rcases List.mem_append.1 hd with hd | hd
        · exact r3 d hd
        · exact h4 d hd
      · intro j g hg
        cases j with
        | zero => simp at hg; subst hg; exact ⟨r, rfl, r2⟩
        | succ j => simpa using h5 j g (by simpa using hg)
    · simp at h
theorem open_any : ∀ (n : Nat) (t : TypeId) (fuel : Nat) (cs : List Value) (x : DataW H × List MemPlace), okT P n t = true → DataW.trod enc P w base spare held fuel t cs = some x → ∃ ds, VL w (rho0 G) [] ds cs ∧ Sh P n t ds ∧ freeL ds ∧ ds.length = P.cellsOf t
  | 0, t, fuel, cs, x, ho, h => by simp [okT] at ho
  | n + 1, t, fuel, cs, x, ho, h => by
    simp only [okT] at ho
    split at ho
    · rename_i k hu
      obtain ⟨m, rfl, _, hw⟩ := DataW.trod_int hu h
      exact ⟨[.int k m], .cons (.int k m) .nil, by simp only [Sh, hu]; exact ⟨m, rfl, hw⟩, by simp [freeL, free_int], by simpa using (beq_iff_eq.1 ho).symm⟩
    · rename_i hu
      obtain ⟨b, rfl, _⟩ := DataW.trod_bool hu h
      exact ⟨[.bool b], .cons (.bool b) .nil, by simp only [Sh, hu]; exact ⟨b, rfl⟩, by simp [freeL, free_bool], by simpa using (beq_iff_eq.1 ho).symm⟩
    · rename_i hu
      obtain ⟨s, rfl, _, hs⟩ := DataW.trod_string hu h
      exact ⟨[.str s], .cons (.str s) .nil, by simp only [Sh, hu]; exact ⟨s, rfl, hs⟩, by simp [freeL, free_str], by simpa using (beq_iff_eq.1 ho).symm⟩
    · rename_i e hu
      simp only [Bool.and_eq_true, beq_iff_eq, decide_eq_true_eq] at ho
      obtain ⟨⟨hc1, ho⟩, hpos⟩ := ho
      rcases DataW.trod_slice hu h with ⟨rfl, _⟩ | ⟨a, len, cap, elems, rest, m, _, rfl, _, hb, hl, hm, hel, hi, _⟩
      · exact ⟨[.nils], .cons .nils .nil, by simp only [Sh, hu]; exact ⟨_, [], rfl, .nil _, by simp, by simp⟩, by simp [freeL, free_nils], by simp [hc1]⟩
      · have key : ∀ i, i < len → ∃ (r : List D) (vs : List Value), (VL w (rho0 G) [] r vs ∧ ∀ j, j < P.cellsOf e → w.cell? (a.add (i * P.cellsOf e + j)) = vs[j]?) ∧ Sh P n e r ∧ freeL r ∧ r.length = P.cellsOf e := by
          intro i hi'
          have h1 := hi i hi'
          rw [List.getElem?_eq_getElem (by omega), Option.bind_eq_some_iff] at h1
          obtain ⟨vs, hv, ht⟩ := h1
          obtain ⟨r, r1, r2, r3, r4⟩ := open_any n e m vs _ ho ht
          refine ⟨r, vs, ⟨r1, fun j hj => ?_⟩, r2, r3, r4⟩
          obtain ⟨_, _, hat⟩ := World.cells?_some hv
          rw [← Go.Deep.add_add]
          exact hat j hj
        obtain ⟨rows, vals, h1, h2, h3⟩ := choose_rows len key
        have hall : ∀ r ∈ rows, Sh P n e r ∧ freeL r ∧ r.length = P.cellsOf e := by
          intro r hr
          obtain ⟨i, hi1, rfl⟩ := List.getElem_of_mem hr
          exact (h3 i _ _ (List.getElem?_eq_getElem hi1) (List.getElem?_eq_getElem (show i < vals.length by omega))).2
        refine ⟨[.sl (P.cellsOf e) rows none], .cons (vr_rows hpos h1 h2 hl (fun r hr => (hall r hr).2.2) (fun r hr => (hall r hr).2.1) (fun i r vs e1 e2 => (h3 i r vs e1 e2).1)) .nil, ?_, by simp [freeL, free_sl], by simp [hc1]⟩
        simp only [Sh, hu]
        exact ⟨_, rows, rfl, .of _ _ _, by omega, fun r hr => (hall r hr).1⟩
    · rename_i k e hu
      simp only [Bool.and_eq_true, beq_iff_eq] at ho
      obtain ⟨ho, hsz⟩ := ho
      obtain ⟨xs, m, _, _, hcl, hxl, hi⟩ := DataW.trod_array hu h
      have key : ∀ k', k' ≤ k → ∃ parts : List (List D), parts.length = k' ∧ VL w (rho0 G) [] parts.flatten (cs.take (k' * P.cellsOf e)) ∧ freeL parts.flatten ∧ ∀ r ∈ parts, Sh P n e r := by
        intro k'
        induction k' with
        | zero => intro _; exact ⟨[], rfl, by simpa using VL.nil, fun d hd => by simp at hd, by simp⟩
        | succ k' ih =>
          intro hk
          obtain ⟨parts, p1, p2, p3, p4⟩ := ih (by omega)
          have h1 := hi k' (by omega)
          rw [List.getElem?_eq_getElem (by omega)] at h1
          obtain ⟨r, r1, r2, r3, r4⟩ := open_any n e m _ _ ho h1
          refine ⟨parts ++ [r], by simp [p1], ?_, ?_, ?_⟩
          · rw [List.flatten_append, Nat.succ_mul, List.take_add]
            simpa using p2.append r1
          · rw [List.flatten_append]
            intro d hd
            rcases List.mem_append.1 hd with hd | hd
            · exact p3 d hd
            · exact r3 d (by simpa using hd)
          · intro r' hr'
            rcases List.mem_append.1 hr' with h | h
            · exact p4 r' h
            · simp at h; subst h; exact r2
      obtain ⟨parts, p1, p2, p3, p4⟩ := key k (Nat.le_refl _)
      rw [← hsz, ← hcl, List.take_length] at p2
      exact ⟨parts.flatten, p2, by simp only [Sh, hu]; exact ⟨parts, rfl, p1, p4⟩, p3, by rw [← p2.len, hcl]⟩
    · rename_i fs hu
      simp only [Bool.and_eq_true, beq_iff_eq, Array.all_eq_true] at ho
      obtain ⟨htile, ho⟩ := ho
      obtain ⟨xs, m, _, _, hcl, hxl, hi⟩ := DataW.trod_struct hu h
      obtain ⟨parts, p1, p2, p3, p4, p5⟩ := vl_parts (P := P) (n := n) (cs := cs) fs.toList 0 _ htile (fun j f hf => by
        have hf' : fs[j]? = some f := by simpa using hf
        obtain ⟨hj, hfe⟩ := Array.getElem?_eq_some_iff.1 hf'
        have h1 := hi j f hf'
        rw [List.getElem?_eq_getElem (by omega)] at h1
        obtain ⟨r, r1, r2, r3, r4⟩ := open_any n f.type m _ _ (by have := ho j hj; rw [hfe] at this; exact this) h1
        exact ⟨r, r1, r2, r3⟩)
      rw [Nat.sub_zero, List.drop_zero, ← hcl, List.take_length] at p3
      refine ⟨parts.flatten, p3, ?_, p4, by rw [← p3.len, hcl]⟩
      simp only [Sh, hu]
      exact ⟨parts, rfl, by simpa using p1, fun j f hf => p5 j f (by simpa using hf)⟩
    · simp at ho
end
end Go.Proofs.YtabgobmeibjeeaaGreatDoor

namespace Go.Proofs.YtabgobmeibjeeaaGreatDoor
set_option linter.unusedVariables false
set_option linter.unusedSimpArgs false

/-! rows that are appended to, somewhere in the heap -/
def appY (sz : Nat) : List (List D) → D
 | [] => .nils
 | rows => .sl sz rows none
theorem appY_S (sz : Nat) (rows : List (List D)) : SlD sz rows (appY sz rows) := by
 cases rows with
 | nil => exact .nil _
 | cons r l => exact .of _ _ _
def AppAt (e : TypeId) (sz : Nat) (rows : List (List D)) (H : List AObj) (x : D) : Prop :=
 (rows = [] ∧ x = .nils) ∨ (rows ≠ [] ∧ ∃ g v, x = .msl g v 0 rows.length none ∧ H[g]? = some ⟨e, sz, rows, v, 1, true⟩)
theorem get_app {α : Type} {H : List α} {g : Nat} {o : α} (h : H[g]? = some o) (l : List α) : (H ++ l)[g]? = some o := by
 rw [List.getElem?_append_left (List.getElem?_eq_some_iff.1 h).1]; exact h
theorem get_set_ne {α : Type} {H : List α} {g k : Nat} {o : α} (h : H[g]? = some o) (hk : k ≠ g) (x : α) : (H.set k x)[g]? = some o := by
 rw [List.getElem?_set_ne hk]; exact h
theorem get_set_self {α : Type} {H : List α} {g : Nat} {o : α} (h : H[g]? = some o) (x : α) : (H.set g x)[g]? = some x := by
 rw [List.getElem?_set_self (List.getElem?_eq_some_iff.1 h).1]
section
variable {e : TypeId} {sz : Nat} {rows : List (List D)} {H : List AObj} {x : D}
theorem AppAt.nil (e : TypeId) (sz : Nat) (H : List AObj) : AppAt e sz [] H .nils := .inl ⟨rfl, rfl⟩
theorem AppAt.keep {H' : List AObj} (h : AppAt e sz rows H x) (hk : ∀ (g : Nat) (o : AObj), H[g]? = some o → o.kind = 1 → o.elem = e → H'[g]? = some o) : AppAt e sz rows H' x := by
 rcases h with h | ⟨h0, g, v, h1, h2⟩
 ·
  exact .inl h
 ·
  exact .inr ⟨h0, g, v, h1, hk g _ h2 rfl rfl⟩
theorem AppAt.push (h : AppAt e sz rows H x) (l : List AObj) : AppAt e sz rows (H ++ l) x := h.keep fun g o ho _ _ => get_app ho l
theorem AppAt.put (h : AppAt e sz rows H x) {k : Nat} {o' : AObj} (hk : H[k]? = some o') (hne : o'.kind = 0 ∨ o'.elem ≠ e) (n : AObj) : AppAt e sz rows (H.set k n) x := h.keep fun g o ho h1 h2 => by
 refine get_set_ne ho (fun hkg => ?_) n
 subst hkg
 rw [hk] at ho
 simp only [Option.some.injEq] at ho
 subst ho
 rcases hne with h | h
 ·
  rw [h1] at h; simp at h
 ·
  exact h h2
theorem AppAt.len (h : AppAt e sz rows H x) : lenD false x = some (.int .i64 rows.length) := by
 rcases h with ⟨rfl, rfl⟩ | ⟨h0, g, v, rfl, h2⟩ <;> rfl
theorem AppAt.snap (h : AppAt e sz rows H x) (m : Nat) : snap m H x = some (appY sz rows) := by
 rcases h with ⟨rfl, rfl⟩ | ⟨h0, g, v, rfl, h2⟩
 ·
  rfl
 ·
  cases rows with
  | nil => exact absurd rfl h0
  | cons r l => simp [snap_msl, h2, appY]
theorem AppAt.snapV (h : AppAt e sz rows H x) (m : Nat) : snapV m H x = some (appY sz rows) := by
 rw [← h.snap m]
 rcases h with ⟨rfl, rfl⟩ | ⟨h0, g, v, rfl, h2⟩ <;> rfl
theorem AppAt.snapR (h : AppAt e sz rows H x) (m : Nat) : snapR m H x = some (appY sz rows) := by
 rw [← h.snap m]
 rcases h with ⟨rfl, rfl⟩ | ⟨h0, g, v, rfl, h2⟩ <;> rfl
theorem AppAt.isCell (h : AppAt e sz rows H x) : x.isCell = true := by rcases h with ⟨rfl, rfl⟩ | ⟨h0, g, v, rfl, h2⟩ <;> rfl
theorem AppAt.val (h : AppAt e sz rows H x) : x.val = true := by rcases h with ⟨rfl, rfl⟩ | ⟨h0, g, v, rfl, h2⟩ <;> rfl
theorem AppAt.cells (h : AppAt e sz rows H x) : x.cells = [x] := by rcases h with ⟨rfl, rfl⟩ | ⟨h0, g, v, rfl, h2⟩ <;> rfl
theorem AppAt.app (h : AppAt e sz rows H x) (bytes : Nat) {new : List (List D)} {c : Option Nat} (hn : new.isEmpty = false) (hb : (rows.length + new.length) * bytes ≤ 140737488355328) :
    ∃ x' H', appendD e sz bytes 1 x (.sl sz new c) ⟨H, 0⟩ = some (x', ⟨H', 0⟩, true) ∧ AppAt e sz (rows ++ new) H' x' ∧ H.length ≤ H'.length ∧ ∀ (g : Nat) (o : AObj), H[g]? = some o → (o.kind = 0 ∨ o.elem ≠ e) → H'[g]? = some o := by
  have hne : rows ++ new ≠ [] := by cases new <;> simp at hn ⊢
  rcases h with ⟨rfl, rfl⟩ | ⟨h0, g, v, rfl, h2⟩
  · refine ⟨.msl H.length 0 0 new.length none, H ++ [⟨e, sz, new, 0, 1, true⟩], ?_, .inr ⟨hne, H.length, 0, by simp, by simp⟩, by simp, fun g o ho _ => get_app ho _⟩
    simp only [List.length_nil, Nat.zero_add] at hb
    simp [appendD, appendRows, readRows, hn, hb, newAt]
  · refine ⟨.msl g (v + 1) 0 (rows.length + new.length) none, H.set g ⟨e, sz, rows ++ new, v + 1, 1, true⟩, ?_, .inr ⟨hne, g, v + 1, by simp, get_set_self h2 _⟩, by simp, fun g' o ho hk => ?_⟩
    · simp [appendD, appendRows, readRows, rowsOf, h2, hb, setAt]
    · refine get_set_ne ho (fun hgg => ?_) _
      subst hgg
      rw [h2] at ho
      simp only [Option.some.injEq] at ho
      subst ho
      rcases hk with h | h
      · simp at h
      · exact h rfl
end
section
variable {call : CallF} {vals env : List D} {S : St} {K : List D → St → Prop} {n : Nat} {news : List (TypeId × List D)} {fps : List FP}
theorem ow_know {ops : List LOper} {vt : List D} (d : Nat) {b : Bool} (hg : vals.getD d .undef = .bool b) (ht : vals.set d (.bool b) = vt) (h : OW call ops vt env S K) : OW call ops vals env S K := by
 rw [set_getD hg (by simp)] at ht; rw [ht]; exact h
end
theorem AppAt.plainV {e : TypeId} {sz : Nat} {rows : List (List D)} {H : List AObj} {x : D} (h : AppAt e sz rows H x) (hne : rows ≠ []) : plainV x = false := by
 rcases h with ⟨rfl, rfl⟩ | ⟨h0, g, v, rfl, h2⟩
 ·
  exact absurd rfl hne
 ·
  rfl
theorem leaveP_app {S2 T : St} {g e sz v n : Nat} {rows : List (List D)} (h : S2.heap[g]? = some ⟨e, sz, rows, v, 1, true⟩) (hn : rows.length = n) : leaveP T (.msl g v 0 n none) S2 = some (.sl sz rows none, T, false) := by
 subst hn
 simp [leaveP, leave, snapR_msl, snapV_msl, snap_msl, h, freeR_sl]
end Go.Proofs.YtabgobmeibjeeaaGreatDoor

namespace Go.Proofs.YtabgobmeibjeeaaGreatDoor
set_option linter.unusedVariables false
def GT : Nat → Option (List D) := fun _ => none
def KD (mt : List Nat) (bx : List Nat) : Kd := ⟨fun e => if List.contains [65] e then 0 else if mt.contains e then 2 else 1, GT, bxL bx⟩
abbrev qe (n : Nat) : LOper := ⟨.mv, [.env n], none, [], none⟩
abbrev ql (n : Nat) : LOper := ⟨.mv, [.loc n], none, [], none⟩
abbrev qi (n : Int) : LOper := ⟨.mv, [.const (.int .i64 n)], none, [], none⟩
abbrev qbb (b : Bool) : LOper := ⟨.mv, [.const (.bool b)], none, [], none⟩
abbrev qd (s n : Nat) : LOper := ⟨.load s false, [.loc n], none, [], none⟩
abbrev qfe (o n : Nat) : LOper := ⟨.faddr o, [.env n], none, [], none⟩
abbrev qx (i n : Nat) : LOper := ⟨.extract i, [.loc n], none, [], none⟩
abbrev qpt (a b : Nat) : LOper := ⟨.pick, [.loc a, .const (.bool true), .loc b], none, [], none⟩
abbrev qpf (a b : Nat) : LOper := ⟨.pick, [.loc a, .loc b, .const (.bool false)], none, [], none⟩
abbrev qk (f n : Nat) : LOper := ⟨.call f, [.loc n], none, [], none⟩
abbrev qkk (f n m : Nat) : LOper := ⟨.call f, [.loc n, .loc m], none, [], none⟩
abbrev qln (b : Bool) (n : Nat) : LOper := ⟨.len b, [.loc n], none, [], none⟩
end Go.Proofs.YtabgobmeibjeeaaGreatDoor

namespace Go.Proofs.YtabgobmeibjeeaaGreatDoor
set_option maxRecDepth 100000
set_option maxHeartbeats 4000000
set_option linter.unusedVariables false

def F8 : LFunc := ⟨[0, 1, 2, 4, 5, 6, 7, 8, 9, 10, 11, 12, 13, 15, 17, 19, 20, 21, 22, 23, 25, 26, 35, 43, 51, 57, 72, 115, 138, 140, 145, 147, 156, 172, 223, 226, 260], 3,
.seq (.region [qo (.box 57 2) [.env 1],
qo (.box 75 5) [.env 2],
qbb false] [(3, 2), (4, 1), (5, 0)])
(.seq (.seq (.region [qfe 4 4,
qd 1 0,
qln false 0,
qo (.bin .gtr) [.loc 0, .const (.int .i64 40)],
ql 0,
qg (.faddr 3) [.env 4] 0 false,
qg (.load 1 false) [.loc 0] 1 false,
qg (.bin .gtr) [.loc 0, .const (.int .u8 20)] 2 false,
qpt 3 0] [(22, 0)])
(.cond (.env 22) (.seq (.region [qo (.call 9) [],
ql 0] [(5, 0)])
(.ret)) (.skip)))
(.seq (.region [qfe 0 4,
qd 1 0,
qo (.bin .rem) [.loc 0, .const (.int .u8 40)],
qo (.conv .i64) [.loc 0],
qk 27 0,
qo (.alloc 51 [.int .u8 0, .int .u8 0, .str ⟨#[]⟩, .int .i64 0, .int .i64 0, .bool false, .bool false, .bool false, .bool false, .bool false, .int .i64 0]) [],
qo (.store 11) [.loc 0, .loc 1]] [(6, 1)])
(.seq (.seq (.region [qfe 1 4,
qd 1 0] [(23, 0)])
(.cond (.env 23) (.region [qfe 0 4,
qd 1 0,
qo (.bin .rem) [.loc 0, .const (.int .u8 18)],
qo (.conv .i64) [.loc 0],
qo (.bin .add) [.const (.int .i64 1), .loc 0],
qk 28 0,
qo (.store 11) [.env 6, .loc 0]] []) (.skip)))
(.seq (.seq (.region [qfe 2 4,
qd 1 0] [(24, 0)])
(.cond (.env 24) (.region [qfe 0 6,
qo (.store 1) [.loc 0, .const (.int .u8 5)]] []) (.skip)))
(.seq (.region [qo .mv [.const (.nils)]] [(7, 0)])
(.seq (.seq (.region [qi 0] [(8, 0)])
(.block 0 (.loop (.seq (.seq (.region [qe 8,
qfe 3 4,
qd 1 0,
qo (.conv .i64) [.loc 0],
qo (.bin .lss) [.loc 3, .loc 0]] [(25, 0)])
(.cond (.env 25) (.skip) (.exit 0)))
(.seq (.block 1 (.region [qe 7,
qo (.load 2 true) [.env 3],
qo (.load 11 true) [.env 6],
qo (.build [.int .i64 0, .int .i64 0, .int .u8 0, .int .u8 0, .str ⟨#[]⟩, .int .i64 0, .int .i64 0, .bool false, .bool false, .bool false, .bool false, .bool false, .int .i64 0, .bool false] [(0, 2), (2, 11)]) [.loc 1, .loc 0],
qo (.bslice 59 14 1 [.int .i64 0, .int .i64 0, .int .u8 0, .int .u8 0, .str ⟨#[]⟩, .int .i64 0, .int .i64 0, .bool false, .bool false, .bool false, .bool false, .bool false, .int .i64 0, .bool false] [0] 1) [.loc 0],
qo (.append 59 14 80 1) [.loc 4, .loc 0],
ql 0] [(7, 0)]))
(.region [qe 8,
qo (.bin .add) [.loc 0, .const (.int .i64 1)],
ql 0] [(8, 0)]))))))
(.seq (.region [qi 0] [(9, 0)])
(.seq (.seq (.region [qfe 3 4,
qd 1 0,
qo (.bin .gtr) [.loc 0, .const (.int .u8 8)],
ql 0,
qg .mv [.env 0] 0 false,
qg (.bin .gtr) [.loc 0, .const (.int .i64 4096)] 1 false,
qpt 2 0] [(26, 0)])
(.cond (.env 26) (.region [qi 3] [(9, 0)]) (.seq (.region [qfe 3 4,
qd 1 0,
qo (.bin .eql) [.loc 0, .const (.int .u8 0)],
ql 0,
qg .mv [.env 0] 0 false,
qg (.bin .lss) [.loc 0, .const (.int .i64 1)] 1 false,
qpt 2 0,
ql 0,
qg (.faddr 0) [.env 3] 0 false,
qg (.load 1 false) [.loc 0] 1 false,
qg (.bin .lss) [.loc 0, .const (.int .i64 0)] 2 false,
qpt 3 0,
ql 0,
qg (.faddr 1) [.env 3] 0 false,
qg (.load 1 false) [.loc 0] 1 false,
qg (.bin .lss) [.loc 0, .const (.int .i64 1)] 2 false,
qpt 3 0,
ql 0,
qg (.faddr 1) [.env 3] 0 false,
qg (.load 1 false) [.loc 0] 1 false,
qg .mv [.env 0] 2 false,
qg (.bin .gtr) [.loc 1, .loc 0] 3 false,
qpt 4 0,
ql 0,
qg (.faddr 0) [.env 3] 0 false,
qg (.load 1 false) [.loc 0] 1 false,
qg .mv [.env 0] 2 false,
qg (.faddr 1) [.env 3] 3 false,
qg (.load 1 false) [.loc 0] 4 false,
qg (.bin .sub) [.loc 2, .loc 0] 5 false,
qg (.bin .gtr) [.loc 4, .loc 0] 6 false,
qpt 7 0,
ql 0,
qg (.faddr 10) [.env 6] 0 false,
qg (.load 1 false) [.loc 0] 1 false,
qg (.faddr 1) [.env 3] 2 false,
qg (.load 1 false) [.loc 0] 3 false,
qg (.bin .neq) [.loc 2, .loc 0] 4 false,
qpt 5 0,
ql 0,
qg (.faddr 2) [.env 4] 0 false,
qg (.load 1 false) [.loc 0] 1 false,
qpt 2 0] [(27, 0)])
(.cond (.env 27) (.region [qi 1] [(9, 0)]) (.skip)))))
(.seq (.region [qe 7,
qe 0,
qkk 22 1 0,
ql 0,
qx 0 0,
qx 1 1,
ql 1,
ql 1] [(10, 1), (11, 0)])
(.seq (.seq (.region [qe 7,
qe 0,
qkk 29 1 0,
qe 9,
qo (.bin .neq) [.loc 1, .loc 0],
ql 0,
qg .mv [.env 11] 0 false,
qg .mv [.env 9] 1 false,
qg (.bin .neq) [.loc 1, .loc 0] 2 false,
qpt 3 0,
ql 0,
qg .mv [.env 10] 0 false,
qg (.eqp false) [.loc 0, .const (.nilp)] 1 false,
qg .mv [.env 11] 2 false,
qg (.bin .neq) [.loc 0, .const (.int .i64 0)] 3 false,
qg (.eqb true) [.loc 2, .loc 0] 4 false,
qpt 5 0] [(28, 0)])
(.cond (.env 28) (.seq (.region [qbb false] [(5, 0)])
(.ret)) (.skip)))
(.seq (.seq (.region [qe 9,
qo (.bin .eql) [.loc 0, .const (.int .i64 0)]] [(29, 0)])
(.cond (.env 29) (.seq (.region [qfe 4 4,
qd 1 0,
qln false 0,
qe 0,
qo (.bin .neq) [.loc 1, .loc 0]] [(30, 0)])
(.cond (.env 30) (.region [qi 5] [(9, 0)]) (.seq (.region [qfe 1 4,
qd 1 0] [(31, 0)])
(.cond (.env 31) (.seq (.region [qfe 0 3,
qd 1 0,
ql 0] [(12, 0)])
(.block 2 (.loop (.seq (.seq (.region [qe 12,
qfe 0 3,
qd 1 0,
qfe 1 3,
qd 1 0,
qo (.bin .add) [.loc 2, .loc 0],
qo (.bin .lss) [.loc 5, .loc 0]] [(32, 0)])
(.cond (.env 32) (.skip) (.exit 2)))
(.seq (.block 3 (.seq (.region [qfe 4 4,
qd 1 0,
qe 12,
qo (.iaddr 1) [.loc 1, .loc 0],
qd 1 0,
qo (.bin .lss) [.loc 0, .const (.int .u8 48)],
ql 0,
qg (.faddr 4) [.env 4] 0 false,
qg (.load 1 false) [.loc 0] 1 false,
qg .mv [.env 12] 2 false,
qg (.iaddr 1) [.loc 1, .loc 0] 3 false,
qg (.load 1 false) [.loc 0] 4 false,
qg (.bin .gtr) [.loc 0, .const (.int .u8 57)] 5 false,
qpt 6 0] [(33, 0)])
(.cond (.env 33) (.region [qi 15] [(9, 0)]) (.skip))))
(.region [qe 12,
qo (.bin .add) [.loc 0, .const (.int .i64 1)],
ql 0] [(12, 0)])))))) (.skip))))) (.skip)))
(.seq (.region [qe 7,
qe 0,
qfe 4 4,
qd 1 0,
qfe 4 4,
qd 1 0,
qo (.call 15) [.loc 5, .loc 4, .loc 2, .loc 0],
ql 0,
qx 0 0,
qx 1 1,
ql 1,
ql 1] [(13, 0)])
(.seq (.region [qe 7,
qe 0,
qfe 4 4,
qd 1 0,
qo (.bslice 43 1 1 [.nils] [0] 1) [.loc 0],
qo (.call 12) [.loc 4, .loc 3, .loc 0],
ql 0,
qx 0 0,
qx 1 1,
ql 1,
ql 1] [(14, 0)])
(.seq (.region [qe 7,
qe 0,
qfe 4 4,
qd 1 0,
qo (.bslice 43 1 1 [.nils] [0] 1) [.loc 0],
qo (.bslice 28 1 1 [.nils] [0] 1) [.loc 0],
qo (.call 21) [.loc 5, .loc 4, .loc 0],
ql 0,
qx 0 0,
qx 1 1,
ql 1,
ql 1] [(15, 0)])
(.seq (.seq (.region [qe 7,
qe 0,
qfe 4 4,
qd 1 0,
qo (.call 30) [.loc 3, .loc 2, .loc 0],
qe 9,
qo (.bin .neq) [.loc 1, .loc 0],
ql 0,
qg .mv [.env 13] 0 false,
qg .mv [.env 9] 1 false,
qg (.bin .neq) [.loc 1, .loc 0] 2 false,
qpt 3 0,
ql 0,
qg .mv [.env 14] 0 false,
qg .mv [.env 9] 1 false,
qg (.bin .neq) [.loc 1, .loc 0] 2 false,
qpt 3 0,
ql 0,
qg .mv [.env 15] 0 false,
qg .mv [.env 9] 1 false,
qg (.bin .neq) [.loc 1, .loc 0] 2 false,
qpt 3 0] [(34, 0)])
(.cond (.env 34) (.seq (.region [qbb false] [(5, 0)])
(.ret)) (.skip)))
(.seq (.region [qo (.alloc 80 [.nils, .int .i64 0, .nils, .bool false]) []] [(16, 0)])
(.seq (.region [qo (.bslice 65 1 2 [.nilp] [0, 1] 0) [.const (.nilp), .env 16],
ql 0] [(17, 0)])
(.seq (.seq (.region [qi 0] [(18, 0)])
(.block 4 (.loop (.seq (.seq (.region [qe 18,
qo (.bin .lss) [.loc 0, .const (.int .i64 2)]] [(35, 0)])
(.cond (.env 35) (.skip) (.exit 4)))
(.seq (.block 5 (.seq (.region [qe 17,
qe 18,
qo (.iaddr 1) [.loc 1, .loc 0],
qd 1 0,
ql 0] [(19, 0)])
(.seq (.region [qe 19,
qk 25 0,
ql 0,
qx 0 0,
qx 1 1,
qx 2 2,
ql 2,
ql 2,
ql 2] [(20, 1), (21, 0)])
(.seq (.region [qe 19,
qfe 4 4,
qd 1 0,
qkk 23 2 0,
qo (.bin .neq) [.loc 0, .const (.int .i64 2)],
ql 0,
qg .mv [.env 19] 0 false,
qg (.call 24) [.loc 0] 1 false,
qg (.bin .neq) [.loc 0, .const (.int .i64 2)] 2 false,
qpt 3 0,
ql 0,
qg .mv [.env 21] 0 false,
qg (.bin .neq) [.loc 0, .const (.int .i64 2)] 1 false,
qpt 2 0,
ql 0,
qg .mv [.env 20] 0 false,
qpt 1 0,
ql 0,
qg .mv [.env 19] 0 false,
qg (.call 26) [.loc 0] 1 false,
qg (.bin .neq) [.loc 0, .const (.int .i64 0)] 2 false,
qpt 3 0] [(36, 0)])
(.cond (.env 36) (.seq (.region [qbb false] [(5, 0)])
(.ret)) (.skip))))))
(.region [qe 18,
qo (.bin .add) [.loc 0, .const (.int .i64 1)],
ql 0] [(18, 0)]))))))
(.seq (.region [qo (.call 9) [],
ql 0] [(5, 0)])
(.ret)))))))))))))))))))),
[.tmp 5]⟩
theorem F8_low : lowFn Tryz.prog (KD [] []) [0, 1, 2, 4, 5, 6, 7, 8, 9, 10, 11, 12, 13, 15, 17, 19, 20, 21, 22, 23, 25, 26, 35, 43, 51, 57, 72, 115, 138, 140, 145, 147, 156, 172, 223, 226, 260] Tryz.f8 = some F8 := by as_aux_lemma => kernel_rfl
def F9 : LFunc := ⟨[0, 1, 2, 3], 0,
.seq (.region [qbb false] [(0, 0)])
(.seq (.region [qo (.build [.int .i64 0, .int .i64 0] [(1, 1)]) [.const (.int .i64 1)],
qo (.call 27) [.const (.int .i64 1)],
qo (.build [.int .i64 0, .int .i64 0, .int .u8 0, .int .u8 0, .str ⟨#[]⟩, .int .i64 0, .int .i64 0, .bool false, .bool false, .bool false, .bool false, .bool false, .int .i64 0, .bool false] [(0, 2), (2, 11), (13, 1)]) [.loc 1, .loc 0, .const (.bool true)],
qo (.build [.int .i64 0, .int .i64 0] [(0, 1), (1, 1)]) [.const (.int .i64 1), .const (.int .i64 2)],
qo (.call 28) [.const (.int .i64 2)],
qo (.build [.int .i64 0, .int .i64 0, .int .u8 0, .int .u8 0, .str ⟨#[]⟩, .int .i64 0, .int .i64 0, .bool false, .bool false, .bool false, .bool false, .bool false, .int .i64 0, .bool false] [(0, 2), (2, 11)]) [.loc 1, .loc 0],
qo (.bslice 59 14 2 [.int .i64 0, .int .i64 0, .int .u8 0, .int .u8 0, .str ⟨#[]⟩, .int .i64 0, .int .i64 0, .bool false, .bool false, .bool false, .bool false, .bool false, .int .i64 0, .bool false] [0, 1] 1) [.loc 3, .loc 0],
ql 0] [(1, 0)])
(.seq (.region [qe 1,
qo (.bslice 5 1 3 [.int .u8 0] [0, 1, 2] 2) [.const (.int .u8 65), .const (.int .u8 50), .const (.int .u8 48)],
qo .strsh [.loc 0],
qo (.bslice 5 1 3 [.int .u8 0] [0, 1, 2] 2) [.const (.int .u8 66), .const (.int .u8 48), .const (.int .u8 51)],
qo .strsh [.loc 0],
qo (.bslice 5 1 3 [.int .u8 0] [0, 1, 2] 2) [.const (.int .u8 65), .const (.int .u8 48), .const (.int .u8 55)],
qo .strsh [.loc 0],
qo (.bslice 5 1 3 [.int .u8 0] [0, 1, 2] 2) [.const (.int .u8 66), .const (.int .u8 48), .const (.int .u8 51)],
qo .strsh [.loc 0],
qo (.bslice 43 1 4 [.nils] [0, 1, 2, 3] 1) [.loc 6, .loc 4, .loc 2, .loc 0],
qo (.call 12) [.loc 9, .const (.int .i64 3), .loc 0],
ql 0,
qx 0 0,
qx 1 1,
ql 1,
ql 1] [(2, 1), (3, 0)])
(.seq (.region [qe 3,
qo (.bin .eql) [.loc 0, .const (.int .i64 0)],
ql 0,
qg .mv [.env 2] 0 true,
qg (.bslice 5 1 3 [.int .u8 0] [0, 1, 2] 2) [.const (.int .u8 66), .const (.int .u8 48), .const (.int .u8 51)] 1 true,
qg .strsh [.loc 0] 2 true,
qg (.bslice 5 1 3 [.int .u8 0] [0, 1, 2] 2) [.const (.int .u8 66), .const (.int .u8 48), .const (.int .u8 51)] 3 true,
qg .strsh [.loc 0] 4 true,
qg (.bslice 5 1 3 [.int .u8 0] [0, 1, 2] 2) [.const (.int .u8 65), .const (.int .u8 48), .const (.int .u8 55)] 5 true,
qg .strsh [.loc 0] 6 true,
qg (.bslice 5 1 3 [.int .u8 0] [0, 1, 2] 2) [.const (.int .u8 65), .const (.int .u8 50), .const (.int .u8 48)] 7 true,
qg .strsh [.loc 0] 8 true,
qg (.bslice 43 1 4 [.nils] [0, 1, 2, 3] 1) [.loc 6, .loc 4, .loc 2, .loc 0] 9 true,
qg (.call 13) [.loc 9, .loc 0] 10 true,
qpf 11 0,
ql 0] [(0, 0)])
(.ret)))),
[.tmp 0]⟩
theorem F9_low : lowFn Tryz.prog (KD [] []) [0, 1, 2, 3] Tryz.f9 = some F9 := by as_aux_lemma => kernel_rfl
def F12 : LFunc := ⟨[0, 1, 2, 6, 7, 8, 15], 3,
.seq (.region [qo .mv [.const (.nils)],
qi 0] [(3, 1), (4, 0)])
(.seq (.seq (.region [qe 0,
qe 1,
qe 2,
qo (.bslice 28 1 1 [.nils] [0] 1) [.loc 0],
qo (.call 31) [.loc 3, .loc 2, .loc 0],
ql 0] [(5, 0)])
(.seq (.region [qe 5,
qo (.bin .neq) [.loc 0, .const (.int .i64 0)]] [(6, 0)])
(.cond (.env 6) (.seq (.region [qe 5,
qo .mv [.const (.nils)],
ql 1] [(3, 1), (4, 0)])
(.ret)) (.skip))))
(.seq (.region [qe 0,
qe 2,
qkk 32 1 0,
ql 0,
qi 0] [(3, 1), (4, 0)])
(.ret))),
[.tmp 3, .tmp 4]⟩
theorem F12_low : lowFn Tryz.prog (KD [] []) [0, 1, 2, 6, 7, 8, 15] Tryz.f12 = some F12 := by as_aux_lemma => kernel_rfl
def F13 : LFunc := ⟨[0, 1, 4, 5, 10, 14, 27], 2,
.seq (.region [qbb false] [(2, 0)])
(.seq (.seq (.region [qe 0,
qln false 0,
qe 1,
qln false 0,
qo (.bin .neq) [.loc 2, .loc 0]] [(4, 0)])
(.cond (.env 4) (.seq (.region [qbb false] [(2, 0)])
(.ret)) (.skip)))
(.seq (.seq (.region [qi 0] [(3, 0)])
(.block 0 (.loop (.seq (.seq (.region [qe 3,
qe 0,
qln false 0,
qo (.bin .lss) [.loc 2, .loc 0]] [(5, 0)])
(.cond (.env 5) (.skip) (.exit 0)))
(.seq (.block 1 (.seq (.drawn [qe 0,
qw .mv [.env 3] 0 1,
qw (.iaddr 1) [.loc 1, .loc 0] 3 2,
qw (.load 1 false) [.loc 0] 7 3,
qw .bstr [.loc 0] 15 4,
qw .mv [.env 1] 0 5,
qw .mv [.env 3] 0 6,
qw (.iaddr 1) [.loc 1, .loc 0] 96 7,
qw (.load 1 false) [.loc 0] 224 8,
qw .bstr [.loc 0] 480 9,
qw (.bin .neq) [.loc 5, .loc 0] 1023 10] [(6, 0)] [])
(.cond (.env 6) (.seq (.region [qbb false] [(2, 0)])
(.ret)) (.skip))))
(.region [qe 3,
qo (.bin .add) [.loc 0, .const (.int .i64 1)],
ql 0] [(3, 0)]))))))
(.seq (.region [qbb true] [(2, 0)])
(.ret)))),
[.tmp 2]⟩
theorem F13_low : lowFn Tryz.prog (KD [] []) [0, 1, 4, 5, 10, 14, 27] Tryz.f13 = some F13 := by as_aux_lemma => kernel_rfl
def F15 : LFunc := ⟨[0, 1, 2, 3, 8, 9, 11, 12, 15, 16, 17, 18, 26], 4,
.seq (.region [qi 0,
qi 0] [(4, 1), (5, 0)])
(.seq (.seq (.region [qe 2,
qe 3,
qo (.bslice 43 1 2 [.nils] [0, 1] 1) [.loc 1, .loc 0],
qln false 0,
qi 0] [(8, 2), (9, 1), (10, 0)])
(.block 0 (.loop (.seq (.region [qo (.bin .lss) [.env 10, .env 9]] [(11, 0)])
(.seq (.cond (.env 11) (.skip) (.exit 0))
(.seq (.block 1 (.seq (.region [qo (.iaddr 1) [.env 8, .env 10],
qd 1 0,
ql 0] [(6, 0)])
(.seq (.region [qe 0,
qe 1,
qe 6,
qo (.call 30) [.loc 2, .loc 1, .loc 0],
ql 0] [(7, 0)])
(.seq (.region [qe 7,
qo (.bin .neq) [.loc 0, .const (.int .i64 0)]] [(12, 0)])
(.cond (.env 12) (.seq (.region [qe 7,
qi 0,
ql 1] [(4, 1), (5, 0)])
(.ret)) (.skip))))))
(.region [qo (.bin .add) [.env 10, .const (.int .i64 1)],
ql 0] [(10, 0)])))))))
(.seq (.region [qe 0,
qe 2,
qe 3,
qo (.call 33) [.loc 2, .loc 1, .loc 0],
ql 0,
qi 0] [(4, 1), (5, 0)])
(.ret))),
[.tmp 4, .tmp 5]⟩
theorem F15_low : lowFn Tryz.prog (KD [] []) [0, 1, 2, 3, 8, 9, 11, 12, 15, 16, 17, 18, 26] Tryz.f15 = some F15 := by as_aux_lemma => kernel_rfl
def F18 : LFunc := ⟨[0, 2, 3, 4, 5, 7, 8, 9, 16, 19, 20, 21, 22, 31, 37], 1,
.seq (.region [qo (.alloc 51 [.int .u8 0, .int .u8 0, .str ⟨#[]⟩, .int .i64 0, .int .i64 0, .bool false, .bool false, .bool false, .bool false, .bool false, .int .i64 0]) [],
qi 0] [(1, 1), (2, 0)])
(.seq (.region [qe 0,
qk 34 0,
ql 0,
qx 0 0,
qx 1 1,
ql 1,
ql 1] [(3, 1), (4, 0)])
(.seq (.seq (.region [qe 4,
qo (.bin .neq) [.loc 0, .const (.int .i64 0)]] [(8, 0)])
(.cond (.env 8) (.seq (.region [qo (.build [.int .u8 0, .int .u8 0, .str ⟨#[]⟩, .int .i64 0, .int .i64 0, .bool false, .bool false, .bool false, .bool false, .bool false, .int .i64 0] []) [],
qe 4,
qo (.store 11) [.env 1, .loc 1],
ql 1] [(2, 0)])
(.ret)) (.skip)))
(.seq (.seq (.region [qo (.bslice 87 1 3 [.nilfn] [0, 1, 2] 1) [.const (.fn 35 []), .const (.fn 36 []), .const (.fn 37 [])],
qln false 0,
qi 0] [(9, 2), (10, 1), (11, 0)])
(.block 0 (.loop (.seq (.region [qo (.bin .lss) [.env 11, .env 10]] [(12, 0)])
(.seq (.cond (.env 12) (.skip) (.exit 0))
(.seq (.block 1 (.seq (.region [qo (.iaddr 1) [.env 9, .env 11],
qd 1 0,
ql 0] [(5, 0)])
(.seq (.region [qe 5,
qe 3,
qo .callv [.loc 1, .loc 0],
ql 0,
qx 0 0,
qx 1 1,
qo (.alloc 51 [.int .u8 0, .int .u8 0, .str ⟨#[]⟩, .int .i64 0, .int .i64 0, .bool false, .bool false, .bool false, .bool false, .bool false, .int .i64 0]) [],
qo (.store 11) [.loc 0, .loc 2],
ql 2] [(6, 2), (7, 0)])
(.seq (.region [qe 7] [(13, 0)])
(.cond (.env 13) (.seq (.seq (.drawn [qfe 3 6,
qw (.load 1 false) [.loc 0] 1 1,
qw .mv [.env 3] 0 2,
qw (.call 38) [.loc 0, .const (.str ⟨#[80]⟩)] 4 3,
qw (.bin .add) [.loc 2, .loc 0] 15 4,
qw (.bin .gtr) [.loc 0, .const (.int .i64 18)] 31 5] [(14, 0)] [])
(.cond (.env 14) (.seq (.region [qo (.build [.int .u8 0, .int .u8 0, .str ⟨#[]⟩, .int .i64 0, .int .i64 0, .bool false, .bool false, .bool false, .bool false, .bool false, .int .i64 0] []) [],
qo (.store 11) [.env 1, .loc 0],
qi 3] [(2, 0)])
(.ret)) (.skip)))
(.seq (.region [qo (.load 11 true) [.env 6],
qo (.store 11) [.env 1, .loc 0],
qi 0] [(2, 0)])
(.ret))) (.skip))))))
(.region [qo (.bin .add) [.env 11, .const (.int .i64 1)],
ql 0] [(11, 0)])))))))
(.seq (.region [qo (.build [.int .u8 0, .int .u8 0, .str ⟨#[]⟩, .int .i64 0, .int .i64 0, .bool false, .bool false, .bool false, .bool false, .bool false, .int .i64 0] []) [],
qo (.store 11) [.env 1, .loc 0],
qi 4] [(2, 0)])
(.ret))))),
[.cell 1 11 true, .tmp 2]⟩
theorem F18_low : lowFn Tryz.prog (KD [] []) [0, 2, 3, 4, 5, 7, 8, 9, 16, 19, 20, 21, 22, 31, 37] Tryz.f18 = some F18 := by as_aux_lemma => kernel_rfl
def F21 : LFunc := ⟨[0, 1, 2, 3, 6, 7, 8, 10, 16, 18, 19, 20, 21, 27], 3,
.seq (.region [qo (.box 26 1) [.env 0],
qo .mv [.const (.nils)],
qi 0] [(3, 2), (4, 1), (5, 0)])
(.seq (.seq (.region [qo (.load 1 false) [.env 3],
qe 1,
qe 2,
qo (.call 31) [.loc 2, .loc 1, .loc 0],
ql 0] [(6, 0)])
(.seq (.region [qe 6,
qo (.bin .neq) [.loc 0, .const (.int .i64 0)]] [(8, 0)])
(.cond (.env 8) (.seq (.region [qe 6,
qo .mv [.const (.nils)],
ql 1] [(4, 1), (5, 0)])
(.ret)) (.skip))))
(.seq (.seq (.region [qe 2,
qln false 0,
qi 0] [(9, 2), (10, 1), (11, 0)])
(.block 0 (.loop (.seq (.region [qo (.bin .lss) [.env 11, .env 10]] [(12, 0)])
(.seq (.cond (.env 12) (.skip) (.exit 0))
(.seq (.block 1 (.seq (.region [qo (.iaddr 1) [.env 9, .env 11],
qd 1 0,
ql 0] [(7, 0)])
(.seq (.region [qe 7,
qo (.mkfn 40) [.env 3],
qkk 39 1 0,
qo (.un .not) [.loc 0]] [(13, 0)])
(.cond (.env 13) (.seq (.region [qo .mv [.const (.nils)],
qi 6] [(4, 1), (5, 0)])
(.ret)) (.skip)))))
(.region [qo (.bin .add) [.env 11, .const (.int .i64 1)],
ql 0] [(11, 0)])))))))
(.seq (.drawn [qo (.load 1 false) [.env 3],
qw .mv [.env 2] 0 1,
qw (.call 41) [.loc 0] 2 2,
qw (.call 32) [.loc 2, .loc 0] 7 3,
qw .mv [.loc 0] 15 4,
qw .mv [.const (.int .i64 0)] 31 5] [(4, 1), (5, 0)] [])
(.ret)))),
[.tmp 4, .tmp 5]⟩
theorem F21_low : lowFn Tryz.prog (KD [] []) [0, 1, 2, 3, 6, 7, 8, 10, 16, 18, 19, 20, 21, 27] Tryz.f21 = some F21 := by as_aux_lemma => kernel_rfl
def F22 : LFunc := ⟨[0, 1, 4, 5, 6, 11], 2,
.seq (.region [qo .mv [.const (.nilp)],
qi 0] [(2, 1), (3, 0)])
(.seq (.seq (.region [qe 0,
qe 1,
qkk 29 1 0,
ql 0] [(4, 0)])
(.seq (.region [qe 4,
qo (.bin .neq) [.loc 0, .const (.int .i64 0)]] [(5, 0)])
(.cond (.env 5) (.seq (.region [qe 4,
qo .mv [.const (.nilp)],
ql 1] [(2, 1), (3, 0)])
(.ret)) (.skip))))
(.seq (.region [qe 0,
qk 42 0,
qe 1,
qo (.build [.nils, .int .i64 0, .nils, .bool false] [(0, 1), (1, 1)]) [.loc 1, .loc 0],
qo (.box 80 4) [.loc 0],
ql 0,
qi 0] [(2, 1), (3, 0)])
(.ret))),
[.tmp 2, .tmp 3]⟩
theorem F22_low : lowFn Tryz.prog (KD [] []) [0, 1, 4, 5, 6, 11] Tryz.f22 = some F22 := by as_aux_lemma => kernel_rfl
def F23 : LFunc := ⟨[0, 1, 4, 5, 6, 9, 25, 32], 2,
.seq (.region [qi 0] [(2, 0)])
(.seq (.block 0 (.seq (.region [qe 0,
qk 43 0,
ql 0] [(4, 0)])
(.cond (.env 4) (.seq (.region [qi 2] [(2, 0)])
(.ret)) (.seq (.region [qe 0,
qo .nilck [.loc 0],
qo (.faddr 3) [.loc 0],
qd 1 0,
ql 0] [(5, 0)])
(.cond (.env 5) (.seq (.region [qi 6] [(2, 0)])
(.ret)) (.skip))))))
(.seq (.seq (.drawn [qe 0,
qw .nilck [.loc 0] 1 1,
qw (.faddr 0) [.loc 0] 3 2,
qw (.load 1 false) [.loc 0] 7 3,
qw .mv [.env 0] 0 4,
qw .nilck [.loc 0] 16 5,
qw (.faddr 1) [.loc 0] 48 6,
qw (.load 1 false) [.loc 0] 112 7,
qw .mv [.env 1] 0 8,
qw (.call 44) [.loc 5, .loc 1, .loc 0] 511 9,
qw .mv [.loc 0] 1023 10] [(3, 0)] [])
(.seq (.region [qe 3,
qo (.bin .neq) [.loc 0, .const (.int .i64 0)]] [(6, 0)])
(.cond (.env 6) (.seq (.region [qe 3,
ql 0] [(2, 0)])
(.ret)) (.skip))))
(.seq (.seq (.region [qe 0,
qo .nilck [.loc 0],
qo (.faddr 2) [.loc 0],
qd 1 0,
qln false 0,
qo (.bin .geq) [.loc 0, .const (.int .i64 65536)]] [(7, 0)])
(.cond (.env 7) (.seq (.region [qi 9] [(2, 0)])
(.ret)) (.skip)))
(.seq (.drawn [qe 0,
qw .mv [.env 0] 0 1,
qw .nilck [.loc 0] 2 2,
qw (.faddr 2) [.loc 0] 6 3,
qw (.load 1 false) [.loc 0] 14 4,
qw .mv [.env 1] 0 5,
qw (.call 45) [.loc 0] 32 6,
qw (.bslice 43 1 1 [.nils] [0] 1) [.loc 0] 96 7,
qw (.append 43 1 24 1) [.loc 3, .loc 0] 254 8,
qw .nilck [.loc 8] 511 9,
qw (.faddr 2) [.loc 0] 1023 10,
qw (.store 1) [.loc 0, .loc 2] 2047 11] [] [])
(.seq (.region [qi 0] [(2, 0)])
(.ret)))))),
[.tmp 2]⟩
theorem F23_low : lowFn Tryz.prog (KD [] []) [0, 1, 4, 5, 6, 9, 25, 32] Tryz.f23 = some F23 := by as_aux_lemma => kernel_rfl
def F24 : LFunc := ⟨[0, 2, 3, 6], 1,
.seq (.region [qi 0] [(1, 0)])
(.seq (.block 0 (.seq (.region [qe 0,
qk 43 0,
ql 0] [(2, 0)])
(.cond (.env 2) (.seq (.region [qi 2] [(1, 0)])
(.ret)) (.seq (.region [qe 0,
qo .nilck [.loc 0],
qo (.faddr 3) [.loc 0],
qd 1 0,
ql 0] [(3, 0)])
(.cond (.env 3) (.seq (.region [qi 6] [(1, 0)])
(.ret)) (.skip))))))
(.seq (.region [qe 0,
qo .nilck [.loc 0],
qo (.faddr 3) [.loc 0],
qo (.store 1) [.loc 0, .const (.bool true)]] [])
(.seq (.drawn [qe 0,
qw .mv [.env 0] 0 1,
qw .nilck [.loc 0] 2 2,
qw (.faddr 0) [.loc 0] 6 3,
qw (.load 1 false) [.loc 0] 14 4,
qw .mv [.env 0] 0 5,
qw .nilck [.loc 0] 32 6,
qw (.faddr 2) [.loc 0] 96 7,
qw (.load 1 false) [.loc 0] 224 8,
qw (.call 32) [.loc 4, .loc 0] 510 9,
qw .nilck [.loc 9] 1023 10,
qw (.faddr 2) [.loc 0] 2047 11,
qw (.store 1) [.loc 0, .loc 2] 4095 12] [] [])
(.seq (.region [qi 0] [(1, 0)])
(.ret))))),
[.tmp 1]⟩
theorem F24_low : lowFn Tryz.prog (KD [] []) [0, 2, 3, 6] Tryz.f24 = some F24 := by as_aux_lemma => kernel_rfl
def F25 : LFunc := ⟨[0, 2, 3, 4, 5, 6, 9, 15], 1,
.seq (.region [qo .mv [.const (.nils)],
qbb false,
qi 0] [(1, 2), (2, 1), (3, 0)])
(.seq (.block 0 (.seq (.region [qe 0,
qk 43 0,
ql 0] [(5, 0)])
(.cond (.env 5) (.seq (.region [qo .mv [.const (.nils)],
qbb false,
qi 2] [(1, 2), (2, 1), (3, 0)])
(.ret)) (.seq (.region [qe 0,
qo .nilck [.loc 0],
qo (.faddr 3) [.loc 0],
qd 1 0,
qo (.un .not) [.loc 0],
ql 0] [(6, 0)])
(.cond (.env 6) (.seq (.region [qo .mv [.const (.nils)],
qbb false,
qi 6] [(1, 2), (2, 1), (3, 0)])
(.ret)) (.seq (.region [qe 0,
qo .nilck [.loc 0],
qo (.faddr 2) [.loc 0],
qd 1 0,
qln false 0,
qo (.bin .eql) [.loc 0, .const (.int .i64 0)],
ql 0] [(7, 0)])
(.cond (.env 7) (.seq (.region [qo .mv [.const (.nils)],
qbb false,
qi 0] [(1, 2), (2, 1), (3, 0)])
(.ret)) (.skip))))))))
(.seq (.region [qe 0,
qo .nilck [.loc 0],
qo (.faddr 2) [.loc 0],
qd 1 0,
qo (.iaddr 1) [.loc 0, .const (.int .i64 0)],
qd 1 0,
ql 0] [(4, 0)])
(.seq (.region [qe 0,
qe 0,
qo .nilck [.loc 0],
qo (.faddr 2) [.loc 0],
qd 1 0,
qo (.slice false 1 true false false) [.loc 0, .const (.int .i64 1)],
qo .nilck [.loc 5],
qo (.faddr 2) [.loc 0],
qo (.store 1) [.loc 0, .loc 2]] [])
(.seq (.region [qe 4,
ql 0,
qbb true,
qi 0] [(1, 2), (2, 1), (3, 0)])
(.ret))))),
[.tmp 1, .tmp 2, .tmp 3]⟩
theorem F25_low : lowFn Tryz.prog (KD [] []) [0, 2, 3, 4, 5, 6, 9, 15] Tryz.f25 = some F25 := by as_aux_lemma => kernel_rfl
def F26 : LFunc := ⟨[0, 2, 4], 1,
.seq (.region [qi 0] [(1, 0)])
(.seq (.seq (.region [qe 0,
qk 43 0] [(2, 0)])
(.cond (.env 2) (.seq (.region [qi 0] [(1, 0)])
(.ret)) (.skip)))
(.seq (.region [qe 0,
qo .nilck [.loc 0],
qo (.faddr 2) [.loc 0],
qd 1 0,
qln false 0,
ql 0] [(1, 0)])
(.ret))),
[.tmp 1]⟩
theorem F26_low : lowFn Tryz.prog (KD [] []) [0, 2, 4] Tryz.f26 = some F26 := by as_aux_lemma => kernel_rfl
def F27 : LFunc := ⟨[0, 2, 3, 4, 5, 9], 1,
.seq (.region [qo (.alloc 51 [.int .u8 0, .int .u8 0, .str ⟨#[]⟩, .int .i64 0, .int .i64 0, .bool false, .bool false, .bool false, .bool false, .bool false, .int .i64 0]) []] [(1, 0)])
(.seq (.region [qo .mv [.const (.str ⟨#[]⟩)]] [(2, 0)])
(.seq (.seq (.region [qi 0] [(3, 0)])
(.block 0 (.loop (.seq (.seq (.region [qe 3,
qe 0,
qo (.bin .lss) [.loc 1, .loc 0]] [(5, 0)])
(.cond (.env 5) (.skip) (.exit 0)))
(.seq (.block 1 (.region [qe 2,
qo (.bin .add) [.loc 0, .const (.str ⟨#[88]⟩)],
ql 0] [(2, 0)]))
(.region [qe 3,
qo (.bin .add) [.loc 0, .const (.int .i64 1)],
ql 0] [(3, 0)]))))))
(.seq (.region [qe 2,
qk 18 0,
ql 0,
qx 0 0,
qx 1 1,
qo (.alloc 51 [.int .u8 0, .int .u8 0, .str ⟨#[]⟩, .int .i64 0, .int .i64 0, .bool false, .bool false, .bool false, .bool false, .bool false, .int .i64 0]) [],
qo (.store 11) [.loc 0, .loc 2],
ql 2] [(4, 2)])
(.seq (.region [qo (.load 11 true) [.env 4],
qo (.store 11) [.env 1, .loc 0]] [])
(.ret))))),
[.cell 1 11 true]⟩
theorem F27_low : lowFn Tryz.prog (KD [] []) [0, 2, 3, 4, 5, 9] Tryz.f27 = some F27 := by as_aux_lemma => kernel_rfl
def F28 : LFunc := ⟨[0, 2, 3, 4, 5, 9], 1,
.seq (.region [qo (.alloc 51 [.int .u8 0, .int .u8 0, .str ⟨#[]⟩, .int .i64 0, .int .i64 0, .bool false, .bool false, .bool false, .bool false, .bool false, .int .i64 0]) []] [(1, 0)])
(.seq (.region [qo .mv [.const (.str ⟨#[]⟩)]] [(2, 0)])
(.seq (.seq (.region [qi 0] [(3, 0)])
(.block 0 (.loop (.seq (.seq (.region [qe 3,
qe 0,
qo (.bin .lss) [.loc 1, .loc 0]] [(5, 0)])
(.cond (.env 5) (.skip) (.exit 0)))
(.seq (.block 1 (.region [qe 2,
qo (.bin .add) [.loc 0, .const (.str ⟨#[57]⟩)],
ql 0] [(2, 0)]))
(.region [qe 3,
qo (.bin .add) [.loc 0, .const (.int .i64 1)],
ql 0] [(3, 0)]))))))
(.seq (.region [qe 2,
qk 18 0,
ql 0,
qx 0 0,
qx 1 1,
qo (.alloc 51 [.int .u8 0, .int .u8 0, .str ⟨#[]⟩, .int .i64 0, .int .i64 0, .bool false, .bool false, .bool false, .bool false, .bool false, .int .i64 0]) [],
qo (.store 11) [.loc 0, .loc 2],
ql 2] [(4, 2)])
(.seq (.region [qo (.load 11 true) [.env 4],
qo (.store 11) [.env 1, .loc 0]] [])
(.ret))))),
[.cell 1 11 true]⟩
theorem F28_low : lowFn Tryz.prog (KD [] []) [0, 2, 3, 4, 5, 9] Tryz.f28 = some F28 := by as_aux_lemma => kernel_rfl
def F29 : LFunc := ⟨[0, 1, 4, 6, 7, 15, 23, 24, 25, 26, 32], 2,
.seq (.region [qi 0] [(2, 0)])
(.seq (.block 0 (.seq (.region [qe 0,
qln false 0,
qo (.bin .gtr) [.loc 0, .const (.int .i64 8)],
ql 0,
qg .mv [.env 1] 0 false,
qg (.bin .gtr) [.loc 0, .const (.int .i64 4096)] 1 false,
qpt 2 0,
ql 0] [(4, 0)])
(.cond (.env 4) (.seq (.region [qi 3] [(2, 0)])
(.ret)) (.seq (.region [qe 0,
qln false 0,
qo (.bin .eql) [.loc 0, .const (.int .i64 0)],
ql 0,
qg .mv [.env 1] 0 false,
qg (.bin .lss) [.loc 0, .const (.int .i64 1)] 1 false,
qpt 2 0,
ql 0] [(5, 0)])
(.cond (.env 5) (.seq (.region [qi 1] [(2, 0)])
(.ret)) (.skip))))))
(.seq (.seq (.region [qe 0,
qln false 0,
qi 0] [(6, 2), (7, 1), (8, 0)])
(.block 1 (.loop (.seq (.region [qo (.bin .lss) [.env 8, .env 7]] [(9, 0)])
(.seq (.cond (.env 9) (.skip) (.exit 1))
(.seq (.block 2 (.seq (.region [qo (.iaddr 14) [.env 6, .env 8],
qo (.load 14 true) [.loc 0],
qo (.alloc 59 [.int .i64 0, .int .i64 0, .int .u8 0, .int .u8 0, .str ⟨#[]⟩, .int .i64 0, .int .i64 0, .bool false, .bool false, .bool false, .bool false, .bool false, .int .i64 0, .bool false]) [],
qo (.store 14) [.loc 0, .loc 1]] [(3, 1)])
(.seq (.region [qo (.load 14 true) [.env 3],
qe 1,
qkk 46 1 0,
qo (.un .not) [.loc 0]] [(10, 0)])
(.cond (.env 10) (.seq (.region [qi 1] [(2, 0)])
(.ret)) (.skip)))))
(.region [qo (.bin .add) [.env 8, .const (.int .i64 1)],
ql 0] [(8, 0)])))))))
(.seq (.region [qi 0] [(2, 0)])
(.ret)))),
[.tmp 2]⟩
theorem F29_low : lowFn Tryz.prog (KD [] []) [0, 1, 4, 6, 7, 15, 23, 24, 25, 26, 32] Tryz.f29 = some F29 := by as_aux_lemma => kernel_rfl
def F30 : LFunc := ⟨[0, 1, 2, 6, 7, 12], 3,
.seq (.region [qi 0] [(3, 0)])
(.seq (.seq (.region [qe 0,
qe 1,
qkk 29 1 0,
ql 0] [(4, 0)])
(.seq (.region [qe 4,
qo (.bin .neq) [.loc 0, .const (.int .i64 0)]] [(5, 0)])
(.cond (.env 5) (.seq (.region [qe 4,
ql 0] [(3, 0)])
(.ret)) (.skip))))
(.seq (.region [qe 0,
qe 1,
qe 2,
qo (.call 44) [.loc 2, .loc 1, .loc 0],
ql 0] [(3, 0)])
(.ret))),
[.tmp 3]⟩
theorem F30_low : lowFn Tryz.prog (KD [] []) [0, 1, 2, 6, 7, 12] Tryz.f30 = some F30 := by as_aux_lemma => kernel_rfl
def F31 : LFunc := ⟨[0, 1, 2, 6, 7, 8, 10, 12, 14, 15, 20, 22, 23, 24, 25, 34, 35, 36, 37, 38, 41, 42, 43, 44, 52], 3,
.seq (.region [qi 0] [(3, 0)])
(.seq (.seq (.region [qe 0,
qe 1,
qkk 29 1 0,
ql 0] [(4, 0)])
(.seq (.region [qe 4,
qo (.bin .neq) [.loc 0, .const (.int .i64 0)]] [(10, 0)])
(.cond (.env 10) (.seq (.region [qe 4,
ql 0] [(3, 0)])
(.ret)) (.skip))))
(.seq (.region [qi 0] [(5, 0)])
(.seq (.seq (.region [qe 2,
qln false 0,
qi 0] [(11, 2), (12, 1), (13, 0)])
(.block 0 (.loop (.seq (.region [qo (.bin .lss) [.env 13, .env 12]] [(14, 0)])
(.seq (.cond (.env 14) (.skip) (.exit 0))
(.seq (.block 1 (.seq (.region [qo (.iaddr 1) [.env 11, .env 13],
qd 1 0,
ql 0] [(6, 0)])
(.region [qe 5,
qe 6,
qln false 0,
qo (.bin .add) [.loc 2, .loc 0],
ql 0] [(5, 0)])))
(.region [qo (.bin .add) [.env 13, .const (.int .i64 1)],
ql 0] [(13, 0)])))))))
(.seq (.seq (.region [qe 5,
qo (.bin .gtr) [.loc 0, .const (.int .i64 65536)]] [(15, 0)])
(.cond (.env 15) (.seq (.region [qi 3] [(3, 0)])
(.ret)) (.skip)))
(.seq (.seq (.region [qe 2,
qln false 0,
qi 0] [(16, 2), (17, 1), (18, 0)])
(.block 2 (.loop (.seq (.region [qo (.bin .lss) [.env 18, .env 17]] [(19, 0)])
(.seq (.cond (.env 19) (.skip) (.exit 2))
(.seq (.block 3 (.seq (.region [qo (.iaddr 1) [.env 16, .env 18],
qd 1 0,
ql 0] [(7, 0)])
(.seq (.region [qe 7,
qln false 0,
qi 0] [(20, 2), (21, 1), (22, 0)])
(.block 4 (.loop (.seq (.region [qo (.bin .lss) [.env 22, .env 21]] [(23, 0)])
(.seq (.cond (.env 23) (.skip) (.exit 4))
(.seq (.block 5 (.seq (.region [qo (.iaddr 1) [.env 20, .env 22],
qd 1 0,
ql 0] [(8, 0)])
(.seq (.region [qe 0,
qe 1,
qe 8,
qo (.call 44) [.loc 2, .loc 1, .loc 0],
ql 0] [(9, 0)])
(.seq (.region [qe 9,
qo (.bin .neq) [.loc 0, .const (.int .i64 0)]] [(24, 0)])
(.cond (.env 24) (.seq (.region [qe 9,
ql 0] [(3, 0)])
(.ret)) (.skip))))))
(.region [qo (.bin .add) [.env 22, .const (.int .i64 1)],
ql 0] [(22, 0)])))))))))
(.region [qo (.bin .add) [.env 18, .const (.int .i64 1)],
ql 0] [(18, 0)])))))))
(.seq (.region [qi 0] [(3, 0)])
(.ret))))))),
[.tmp 3]⟩
theorem F31_low : lowFn Tryz.prog (KD [] []) [0, 1, 2, 6, 7, 8, 10, 12, 14, 15, 20, 22, 23, 24, 25, 34, 35, 36, 37, 38, 41, 42, 43, 44, 52] Tryz.f31 = some F31 := by as_aux_lemma => kernel_rfl
def F32 : LFunc := ⟨[0, 1, 2, 4, 5, 6, 7, 11, 12, 13, 14], 2,
.seq (.region [qo (.box 26 1) [.env 0],
qo .mv [.const (.nils)]] [(2, 1), (3, 0)])
(.seq (.region [qe 1,
qln false 0,
qo (.mkslice 43 1 24 [.nils] 2) [.loc 0, .loc 0],
ql 0] [(4, 0)])
(.seq (.seq (.region [qe 1,
qln false 0,
qi 0] [(7, 2), (8, 1), (9, 0)])
(.block 0 (.loop (.seq (.region [qo (.bin .lss) [.env 9, .env 8]] [(10, 0)])
(.seq (.cond (.env 10) (.skip) (.exit 0))
(.seq (.block 1 (.seq (.region [qe 9,
qo (.iaddr 1) [.env 7, .env 9],
qd 1 0,
ql 2,
ql 1] [(5, 1), (6, 0)])
(.region [qe 4,
qe 5,
qe 6,
qk 45 0,
qk 47 0,
qo (.iaddr 1) [.loc 4, .loc 3],
qo (.store 1) [.loc 0, .loc 1]] [])))
(.region [qo (.bin .add) [.env 9, .const (.int .i64 1)],
ql 0] [(9, 0)])))))))
(.seq (.region [qe 4,
qo (.mkfn 49) [.env 2],
qkk 48 1 0] [])
(.seq (.region [qe 4,
ql 0] [(3, 0)])
(.ret))))),
[.tmp 3]⟩
theorem F32_low : lowFn Tryz.prog (KD [43] []) [0, 1, 2, 4, 5, 6, 7, 11, 12, 13, 14] Tryz.f32 = some F32 := by as_aux_lemma => kernel_rfl
def F33 : LFunc := ⟨[0, 1, 2, 6, 8, 9, 10, 11, 12, 14, 16, 17, 18, 19, 31, 53, 56], 3,
.seq (.region [qi 0] [(3, 0)])
(.seq (.skip)
(.seq (.seq (.region [qe 0,
qln false 0,
qi 0] [(10, 2), (11, 1), (12, 0)])
(.block 0 (.loop (.seq (.region [qo (.bin .lss) [.env 12, .env 11]] [(13, 0)])
(.seq (.cond (.env 13) (.skip) (.exit 0))
(.seq (.block 1 (.seq (.region [qo (.iaddr 14) [.env 10, .env 12],
qo (.load 14 true) [.loc 0],
qo (.alloc 59 [.int .i64 0, .int .i64 0, .int .u8 0, .int .u8 0, .str ⟨#[]⟩, .int .i64 0, .int .i64 0, .bool false, .bool false, .bool false, .bool false, .bool false, .int .i64 0, .bool false]) [],
qo (.store 14) [.loc 0, .loc 1]] [(4, 1)])
(.seq (.drawn [qo (.load 14 true) [.env 4],
qw .mv [.env 1] 0 1,
qw (.call 50) [.loc 1, .loc 0] 3 2,
qw (.load 14 true) [.env 4] 0 3,
qw .mv [.env 2] 0 4,
qw (.call 50) [.loc 1, .loc 0] 31 5,
⟨.mv, [.loc 7], none, ob 0 6, some 0⟩,
⟨.mv, [.loc 7], none, ob 0 7, some 1⟩,
qw (.store 12) [.loc 1, .loc 5] 255 8,
qw (.store 12) [.loc 1, .loc 3] 511 9] [(5, 3), (6, 2)] [(99, [.int .u8 0, .int .u8 0, .str ⟨#[]⟩, .int .i64 0, .int .i64 0, .bool false, .bool false, .bool false, .bool false, .bool false, .int .i64 0, .nils]), (99, [.int .u8 0, .int .u8 0, .str ⟨#[]⟩, .int .i64 0, .int .i64 0, .bool false, .bool false, .bool false, .bool false, .bool false, .int .i64 0, .nils])])
(.seq (.region [qi 0] [(7, 0)])
(.seq (.seq (.region [qfe 2 4,
qo (.faddr 0) [.loc 0],
qd 1 0,
qo (.bin .eql) [.loc 0, .const (.int .u8 4)]] [(14, 0)])
(.cond (.env 14) (.seq (.region [qo (.load 12 true) [.env 5],
qk 51 0,
ql 0,
qx 0 0,
qx 1 1,
qo (.alloc 102 [.bool false, .str ⟨#[]⟩, .int .i64 0]) [],
qo (.store 3) [.loc 0, .loc 2],
ql 2] [(8, 2)])
(.seq (.region [qo (.load 12 true) [.env 6],
qk 51 0,
ql 0,
qx 0 0,
qx 1 1,
qo (.alloc 102 [.bool false, .str ⟨#[]⟩, .int .i64 0]) [],
qo (.store 3) [.loc 0, .loc 2],
ql 2] [(9, 2)])
(.region [qo (.load 3 true) [.env 8],
qo (.load 3 true) [.env 9],
qkk 52 1 0,
ql 0,
qx 0 0,
qx 1 1,
ql 1] [(7, 0)]))) (.region [qfe 11 5,
qd 1 0,
qfe 11 6,
qd 1 0,
qkk 53 2 0,
ql 0] [(7, 0)])))
(.seq (.block 2 (.seq (.region [qe 7,
qo (.bin .eql) [.loc 0, .const (.int .i64 0)],
ql 0] [(15, 0)])
(.cond (.env 15) (.exit 1) (.seq (.region [qfe 13 4,
qd 1 0,
ql 0] [(16, 0)])
(.cond (.env 16) (.seq (.region [qe 7,
qo (.un .neg) [.loc 0],
ql 0] [(3, 0)])
(.ret)) (.skip))))))
(.seq (.region [qe 7,
ql 0] [(3, 0)])
(.ret))))))))
(.region [qo (.bin .add) [.env 12, .const (.int .i64 1)],
ql 0] [(12, 0)])))))))
(.seq (.region [qi 0] [(3, 0)])
(.ret)))),
[.tmp 3]⟩
theorem F33_low : lowFn Tryz.prog (KD [] []) [0, 1, 2, 6, 8, 9, 10, 11, 12, 14, 16, 17, 18, 19, 31, 53, 56] Tryz.f33 = some F33 := by as_aux_lemma => kernel_rfl
def F34 : LFunc := ⟨[0, 2, 3, 4, 5, 6, 7, 8, 9, 10, 14, 34, 39, 50, 53], 1,
.seq (.region [qo .mv [.const (.str ⟨#[]⟩)],
qi 0] [(1, 1), (2, 0)])
(.seq (.region [qo (.alloc 108 [.nilp, .nils]) []] [(3, 0)])
(.seq (.region [qi 0] [(4, 0)])
(.seq (.seq (.region [qi 0] [(5, 0)])
(.block 0 (.loop (.seq (.seq (.region [qe 5,
qe 0,
qln true 0,
qo (.bin .lss) [.loc 2, .loc 0]] [(10, 0)])
(.cond (.env 10) (.skip) (.exit 0)))
(.block 1 (.seq (.region [qe 0,
qe 5,
qo .index [.loc 1, .loc 0],
ql 0] [(6, 0)])
(.seq (.region [qe 0,
qe 5,
qo (.bin .add) [.loc 0, .const (.int .i64 1)],
qo (.slice true 0 true false false) [.loc 2, .loc 0],
qk 54 0,
ql 0,
qx 0 0,
qx 1 1,
qx 2 2,
ql 2,
ql 2,
ql 2] [(7, 2), (8, 1), (9, 0)])
(.seq (.seq (.region [qe 9,
qo (.un .not) [.loc 0],
ql 0,
qg (.call 55) [.const (.str ⟨#[65, 88, 57, 83, 86, 80, 90, 42, 43, 45, 46, 44, 36, 66, 48, 47, 67, 82, 68]⟩)] 0 false,
qg .mv [.env 6] 1 false,
qg .callv [.loc 1, .loc 0] 2 false,
qg (.un .not) [.loc 0] 3 false,
qpt 4 0] [(11, 0)])
(.cond (.env 11) (.seq (.region [qo .mv [.const (.str ⟨#[]⟩)],
qi 4] [(1, 1), (2, 0)])
(.ret)) (.skip)))
(.seq (.seq (.region [qe 4,
qe 7,
qo (.bin .add) [.loc 1, .loc 0],
ql 0] [(4, 0)])
(.seq (.region [qe 4,
qo (.bin .leq) [.loc 0, .const (.int .i64 256)]] [(12, 0)])
(.cond (.env 12) (.region [qe 6,
qo (.bslice 5 1 1 [.int .u8 0] [0] 1) [.loc 0],
qo .bstr [.loc 0],
qe 7,
qkk 57 1 0,
qo (.call 56) [.env 3, .loc 0]] []) (.skip))))
(.region [qe 5,
qe 8,
qo (.bin .add) [.const (.int .i64 1), .loc 0],
qo (.bin .add) [.loc 2, .loc 0],
ql 0] [(5, 0)]))))))))))
(.seq (.block 2 (.seq (.region [qe 4,
qo (.bin .eql) [.loc 0, .const (.int .i64 0)],
ql 0] [(13, 0)])
(.cond (.env 13) (.seq (.region [qo .mv [.const (.str ⟨#[]⟩)],
qi 4] [(1, 1), (2, 0)])
(.ret)) (.seq (.region [qe 4,
qo (.bin .gtr) [.loc 0, .const (.int .i64 256)],
ql 0] [(14, 0)])
(.cond (.env 14) (.seq (.region [qo .mv [.const (.str ⟨#[]⟩)],
qi 3] [(1, 1), (2, 0)])
(.ret)) (.skip))))))
(.seq (.region [qo (.call 58) [.env 3],
ql 0,
qi 0] [(1, 1), (2, 0)])
(.ret)))))),
[.tmp 1, .tmp 2]⟩
theorem F34_low : lowFn Tryz.prog (KD [] []) [0, 2, 3, 4, 5, 6, 7, 8, 9, 10, 14, 34, 39, 50, 53] Tryz.f34 = some F34 := by as_aux_lemma => kernel_rfl
def F35 : LFunc := ⟨[0, 2, 3, 4, 10, 18, 23, 31], 1,
.seq (.region [qo (.alloc 51 [.int .u8 0, .int .u8 0, .str ⟨#[]⟩, .int .i64 0, .int .i64 0, .bool false, .bool false, .bool false, .bool false, .bool false, .int .i64 0]) [],
qbb false] [(1, 1), (2, 0)])
(.seq (.region [qe 0,
qe 0,
qln true 0,
qo (.build [.int .u8 0, .int .u8 0, .str ⟨#[]⟩, .int .i64 0, .int .i64 0, .bool false, .bool false, .bool false, .bool false, .bool false, .int .i64 0] [(2, 1), (10, 1)]) [.loc 2, .loc 0],
qo (.alloc 51 [.int .u8 0, .int .u8 0, .str ⟨#[]⟩, .int .i64 0, .int .i64 0, .bool false, .bool false, .bool false, .bool false, .bool false, .int .i64 0]) [],
qo (.store 11) [.loc 0, .loc 1]] [(3, 1)])
(.seq (.block 0 (.seq (.region [qe 0,
qo (.call 55) [.const (.str ⟨#[65]⟩)],
qo (.call 59) [.loc 1, .const (.int .i64 0), .loc 0],
qe 0,
qln true 0,
qo (.bin .eql) [.loc 2, .loc 0],
ql 0] [(4, 0)])
(.cond (.env 4) (.region [qfe 0 3,
qo (.store 1) [.loc 0, .const (.int .u8 1)]] []) (.seq (.region [qe 0,
qo (.call 60) [.loc 0, .const (.str ⟨#[65, 88]⟩)],
qo (.un .not) [.loc 0],
ql 0] [(5, 0)])
(.cond (.env 5) (.seq (.region [qo (.load 11 true) [.env 3],
qo (.store 11) [.env 1, .loc 0],
qbb false] [(2, 0)])
(.ret)) (.seq (.region [qe 0,
qo (.call 55) [.const (.str ⟨#[65, 88, 57]⟩)],
qo (.call 59) [.loc 1, .const (.int .i64 0), .loc 0],
qe 0,
qln true 0,
qo (.bin .eql) [.loc 2, .loc 0],
ql 0] [(6, 0)])
(.cond (.env 6) (.region [qfe 0 3,
qo (.store 1) [.loc 0, .const (.int .u8 2)]] []) (.seq (.region [qe 0,
qo (.call 55) [.const (.str ⟨#[65, 88, 57, 66, 48, 47]⟩)],
qo (.call 59) [.loc 1, .const (.int .i64 0), .loc 0],
qe 0,
qln true 0,
qo (.bin .eql) [.loc 2, .loc 0],
ql 0] [(7, 0)])
(.cond (.env 7) (.region [qfe 0 3,
qo (.store 1) [.loc 0, .const (.int .u8 3)]] []) (.seq (.region [qo (.load 11 true) [.env 3],
qo (.store 11) [.env 1, .loc 0],
qbb false] [(2, 0)])
(.ret)))))))))))
(.seq (.region [qo (.load 11 true) [.env 3],
qo (.store 11) [.env 1, .loc 0],
qbb true] [(2, 0)])
(.ret)))),
[.cell 1 11 true, .tmp 2]⟩
theorem F35_low : lowFn Tryz.prog (KD [] []) [0, 2, 3, 4, 10, 18, 23, 31] Tryz.f35 = some F35 := by as_aux_lemma => kernel_rfl
def F36 : LFunc := ⟨[0, 2, 3, 4, 5, 6, 7, 8, 9, 10, 11, 12, 13, 38, 48, 63], 1,
.seq (.region [qo (.alloc 51 [.int .u8 0, .int .u8 0, .str ⟨#[]⟩, .int .i64 0, .int .i64 0, .bool false, .bool false, .bool false, .bool false, .bool false, .int .i64 0]) [],
qbb false] [(1, 1), (2, 0)])
(.seq (.region [qe 0,
qo (.call 61) [.loc 0, .const (.str ⟨#[83]⟩)],
ql 0,
qx 0 0,
qx 1 1,
ql 1,
ql 1] [(3, 1), (4, 0)])
(.seq (.region [qe 0,
qe 4,
qo (.build [.int .u8 0, .int .u8 0, .str ⟨#[]⟩, .int .i64 0, .int .i64 0, .bool false, .bool false, .bool false, .bool false, .bool false, .int .i64 0] [(0, 1), (2, 1), (5, 1)]) [.const (.int .u8 4), .loc 1, .loc 0],
qo (.alloc 51 [.int .u8 0, .int .u8 0, .str ⟨#[]⟩, .int .i64 0, .int .i64 0, .bool false, .bool false, .bool false, .bool false, .bool false, .int .i64 0]) [],
qo (.store 11) [.loc 0, .loc 1]] [(5, 1)])
(.seq (.region [qe 3,
qo (.call 62) [.loc 0, .const (.str ⟨#[86]⟩)],
ql 0,
qx 0 0,
qx 1 1,
qx 2 2,
ql 2,
ql 2,
ql 2] [(6, 2), (7, 1), (8, 0)])
(.seq (.region [qe 3,
qo (.call 38) [.loc 0, .const (.str ⟨#[80]⟩)],
ql 0] [(9, 0)])
(.seq (.region [qo .mv [.const (.fn 63 [])]] [(10, 0)])
(.seq (.region [qe 3,
qo (.call 38) [.loc 0, .const (.str ⟨#[57]⟩)],
qfe 3 5,
qo (.store 1) [.loc 0, .loc 1]] [])
(.seq (.region [qfe 3 5,
qd 1 0,
qfe 10 5,
qo (.store 1) [.loc 0, .loc 1]] [])
(.seq (.region [qe 3,
qo (.call 64) [.loc 0, .const (.str ⟨#[86, 80]⟩)],
ql 0] [(11, 0)])
(.seq (.block 0 (.seq (.region [qfe 3 5,
qd 1 0,
qo (.bin .eql) [.loc 0, .const (.int .i64 0)],
ql 0,
qg .mv [.env 3] 0 false,
qg (.call 38) [.loc 0, .const (.str ⟨#[86]⟩)] 1 false,
qg (.bin .gtr) [.loc 0, .const (.int .i64 1)] 2 false,
qpt 3 0,
ql 0] [(13, 0)])
(.cond (.env 13) (.seq (.region [qo (.load 11 true) [.env 5],
qo (.store 11) [.env 1, .loc 0],
qbb false] [(2, 0)])
(.ret)) (.seq (.region [qe 9,
qo (.bin .eql) [.loc 0, .const (.int .i64 0)],
ql 0] [(14, 0)])
(.cond (.env 14) (.seq (.region [qe 7,
qln true 0,
qfe 4 5,
qo (.store 1) [.loc 0, .loc 1]] [])
(.seq (.drawn [qo (.load 11 true) [.env 5],
qw .mv [.env 10] 0 1,
qw .mv [.env 6] 0 2,
qw .callv [.loc 1, .loc 0] 6 3,
qw .mv [.loc 0] 14 4,
qh .mv [.env 10] 0 true 30 5,
qh .mv [.env 7] 1 true 30 6,
qh .callv [.loc 1, .loc 0] 2 true 126 7,
qw .pick [.loc 3, .loc 0, .const (.bool false)] 254 8,
qw (.store 11) [.env 1, .loc 8] 255 9,
qw .mv [.loc 1] 1023 10] [(2, 0)] [])
(.ret))) (.seq (.region [qe 10,
qe 11,
qo .callv [.loc 1, .loc 0],
ql 0,
qg .mv [.env 8] 0 true,
qg (.un .not) [.loc 0] 1 true,
qg .mv [.loc 0] 2 true,
qg .mv [.env 3] 0 false,
qg .index [.loc 0, .const (.int .i64 0)] 1 false,
qg (.bin .eql) [.loc 0, .const (.int .u8 86)] 2 false,
qg .pick [.loc 3, .const (.bool true), .loc 0] 6 true,
qpf 7 0,
ql 0] [(15, 0)])
(.cond (.env 15) (.seq (.region [qfe 3 5,
qd 1 0,
qe 9,
qo (.bin .add) [.loc 1, .loc 0],
qfe 4 5,
qo (.store 1) [.loc 0, .loc 1]] [])
(.seq (.region [qo (.load 11 true) [.env 5],
qo (.store 11) [.env 1, .loc 0],
qbb true] [(2, 0)])
(.ret))) (.skip))))))))
(.seq (.region [qe 9,
qo (.un .neg) [.loc 0],
qfe 4 5,
qo (.store 1) [.loc 0, .loc 1]] [])
(.seq (.region [qe 3,
qo (.call 65) [.loc 0, .const (.str ⟨#[86]⟩)],
ql 0] [(12, 0)])
(.seq (.drawn [qo (.load 11 true) [.env 5],
qw .mv [.env 10] 0 1,
qw .mv [.env 12] 0 2,
qw (.call 66) [.loc 0, .const (.str ⟨#[80]⟩)] 4 3,
qw .callv [.loc 2, .loc 0] 14 4,
qw (.store 11) [.env 1, .loc 4] 31 5,
qw .mv [.loc 1] 63 6] [(2, 0)] [])
(.ret))))))))))))),
[.cell 1 11 true, .tmp 2]⟩
theorem F36_low : lowFn Tryz.prog (KD [] []) [0, 2, 3, 4, 5, 6, 7, 8, 9, 10, 11, 12, 13, 38, 48, 63] Tryz.f36 = some F36 := by as_aux_lemma => kernel_rfl
def F38 : LFunc := ⟨[0, 1, 4, 5, 6, 9, 15, 24], 2,
.seq (.region [qi 0] [(2, 0)])
(.seq (.seq (.region [qe 1,
qln true 0,
qo (.bin .eql) [.loc 0, .const (.int .i64 0)]] [(5, 0)])
(.cond (.env 5) (.seq (.region [qe 0,
qk 74 0,
qo (.bin .add) [.loc 0, .const (.int .i64 1)],
ql 0] [(2, 0)])
(.ret)) (.skip)))
(.seq (.seq (.region [qe 1,
qln true 0,
qo (.bin .eql) [.loc 0, .const (.int .i64 1)]] [(6, 0)])
(.cond (.env 6) (.seq (.region [qe 0,
qe 1,
qo .index [.loc 0, .const (.int .i64 0)],
qo .cntb [.loc 2, .loc 0],
ql 0] [(2, 0)])
(.ret)) (.skip)))
(.seq (.region [qi 0] [(3, 0)])
(.block 0 (.loop (.block 1 (.seq (.region [qe 0,
qe 1,
qkk 76 1 0,
ql 0] [(4, 0)])
(.seq (.seq (.region [qe 4,
qo (.bin .eql) [.loc 0, .const (.int .i64 (-1))]] [(7, 0)])
(.cond (.env 7) (.seq (.region [qe 3,
ql 0] [(2, 0)])
(.ret)) (.skip)))
(.seq (.region [qe 3,
qo (.bin .add) [.loc 0, .const (.int .i64 1)],
ql 0] [(3, 0)])
(.region [qe 0,
qe 4,
qe 1,
qln true 0,
qo (.bin .add) [.loc 2, .loc 0],
qo (.slice true 0 true false false) [.loc 4, .loc 0],
ql 0] [(0, 0)])))))))))),
[.tmp 2]⟩
theorem F38_low : lowFn Tryz.prog (KD [] []) [0, 1, 4, 5, 6, 9, 15, 24] Tryz.f38 = some F38 := by as_aux_lemma => kernel_rfl
def F39 : LFunc := ⟨[0, 1, 4, 5, 10, 24], 2,
.seq (.region [qbb false] [(2, 0)])
(.seq (.seq (.region [qe 0,
qln false 0,
qo (.bin .sub) [.loc 0, .const (.int .i64 1)],
ql 0] [(3, 0)])
(.block 0 (.loop (.seq (.seq (.region [qe 3,
qo (.bin .gtr) [.loc 0, .const (.int .i64 0)]] [(4, 0)])
(.cond (.env 4) (.skip) (.exit 0)))
(.seq (.block 1 (.seq (.drawn [qe 1,
qw .mv [.env 0] 0 1,
qw .mv [.env 3] 0 2,
qw (.iaddr 1) [.loc 1, .loc 0] 6 3,
qw (.load 1 false) [.loc 0] 14 4,
qw .mv [.env 0] 0 5,
qw .mv [.env 3] 0 6,
qw (.bin .sub) [.loc 0, .const (.int .i64 1)] 64 7,
qw (.iaddr 1) [.loc 2, .loc 0] 224 8,
qw (.load 1 false) [.loc 0] 480 9,
qw .callv [.loc 9, .loc 5, .loc 0] 1023 10,
qw (.bin .lss) [.loc 0, .const (.int .i64 0)] 2047 11] [(5, 0)] [])
(.cond (.env 5) (.seq (.region [qbb false] [(2, 0)])
(.ret)) (.skip))))
(.region [qe 3,
qo (.bin .sub) [.loc 0, .const (.int .i64 1)],
ql 0] [(3, 0)]))))))
(.seq (.region [qbb true] [(2, 0)])
(.ret))),
[.tmp 2]⟩
theorem F39_low : lowFn Tryz.prog (KD [] []) [0, 1, 4, 5, 10, 24] Tryz.f39 = some F39 := by as_aux_lemma => kernel_rfl
def F40 : LFunc := ⟨[0, 1, 2, 5], 3,
.seq (.region [qi 0] [(3, 0)])
(.seq (.region [qo (.load 1 false) [.env 2],
qe 0,
qe 1,
qo (.call 33) [.loc 2, .loc 1, .loc 0],
ql 0] [(3, 0)])
(.ret)),
[.tmp 3]⟩
theorem F40_low : lowFn Tryz.prog (KD [] []) [0, 1, 2, 5] Tryz.f40 = some F40 := by as_aux_lemma => kernel_rfl
def F41 : LFunc := ⟨[0, 2, 3, 5, 6, 8, 9, 10, 11, 12, 20, 25, 26, 27, 28], 1,
.seq (.region [qo .mv [.const (.nils)]] [(1, 0)])
(.seq (.region [qi 0] [(2, 0)])
(.seq (.seq (.region [qe 0,
qln false 0,
qi 0] [(6, 2), (7, 1), (8, 0)])
(.block 0 (.loop (.seq (.region [qo (.bin .lss) [.env 8, .env 7]] [(9, 0)])
(.seq (.cond (.env 9) (.skip) (.exit 0))
(.seq (.block 1 (.seq (.region [qo (.iaddr 1) [.env 6, .env 8],
qd 1 0,
ql 0] [(3, 0)])
(.seq (.region [qe 2,
qe 3,
qln false 0,
qo (.bin .add) [.loc 2, .loc 0],
ql 0] [(2, 0)])
(.seq (.region [qe 2,
qo (.bin .lss) [.loc 0, .const (.int .i64 0)]] [(10, 0)])
(.cond (.env 10) (.region [qo (.mkif 9) [.const (.str ⟨#[108, 101, 110, 32, 111, 117, 116, 32, 111, 102, 32, 114, 97, 110, 103, 101]⟩)],
qo .fail []] []) (.skip))))))
(.region [qo (.bin .add) [.env 8, .const (.int .i64 1)],
ql 0] [(8, 0)])))))))
(.seq (.region [qe 2,
qo (.call 77) [.const (.nils), .loc 0],
ql 0] [(4, 0)])
(.seq (.seq (.region [qe 0,
qln false 0,
qi 0] [(11, 2), (12, 1), (13, 0)])
(.block 2 (.loop (.seq (.region [qo (.bin .lss) [.env 13, .env 12]] [(14, 0)])
(.seq (.cond (.env 14) (.skip) (.exit 2))
(.seq (.block 3 (.seq (.region [qo (.iaddr 1) [.env 11, .env 13],
qd 1 0,
ql 0] [(5, 0)])
(.region [qe 4,
qe 5,
qo (.append 43 1 24 1) [.loc 1, .loc 0],
ql 0] [(4, 0)])))
(.region [qo (.bin .add) [.env 13, .const (.int .i64 1)],
ql 0] [(13, 0)])))))))
(.seq (.region [qe 4,
ql 0] [(1, 0)])
(.ret)))))),
[.tmp 1]⟩
theorem F41_low : lowFn Tryz.prog (KD [] []) [0, 2, 3, 5, 6, 8, 9, 10, 11, 12, 20, 25, 26, 27, 28] Tryz.f41 = some F41 := by as_aux_lemma => kernel_rfl
def F42 : LFunc := ⟨[0, 2, 4], 1,
.seq (.region [qo .mv [.const (.nils)]] [(1, 0)])
(.seq (.seq (.region [qe 0,
qo (.eqnil false 0) [.loc 0, .const (.nils)]] [(2, 0)])
(.cond (.env 2) (.seq (.region [qo .mv [.const (.nils)]] [(1, 0)])
(.ret)) (.skip)))
(.seq (.region [qo (.bslice 59 14 0 [.int .i64 0, .int .i64 0, .int .u8 0, .int .u8 0, .str ⟨#[]⟩, .int .i64 0, .int .i64 0, .bool false, .bool false, .bool false, .bool false, .bool false, .int .i64 0, .bool false] [] 1) [],
qe 0,
qo (.append 59 14 80 1) [.loc 1, .loc 0],
ql 0] [(1, 0)])
(.ret))),
[.tmp 1]⟩
theorem F42_low : lowFn Tryz.prog (KD [] []) [0, 2, 4] Tryz.f42 = some F42 := by as_aux_lemma => kernel_rfl
def F43 : LFunc := ⟨[0, 2], 1,
.seq (.region [qbb false] [(1, 0)])
(.seq (.region [qe 0,
qo (.eqp false) [.loc 0, .const (.nilp)],
ql 0,
qg .mv [.env 0] 0 false,
qg .nilck [.loc 0] 1 false,
qg (.faddr 1) [.loc 0] 2 false,
qg (.load 1 false) [.loc 0] 3 false,
qg (.bin .eql) [.loc 0, .const (.int .i64 0)] 4 false,
qpt 5 0,
ql 0] [(1, 0)])
(.ret)),
[.tmp 1]⟩
theorem F43_low : lowFn Tryz.prog (KD [] []) [0, 2] Tryz.f43 = some F43 := by as_aux_lemma => kernel_rfl
def F44 : LFunc := ⟨[0, 1, 2, 6, 8, 12, 13, 14, 15, 16, 29], 3,
.seq (.region [qi 0] [(3, 0)])
(.seq (.seq (.region [qe 2,
qln false 0,
qe 1,
qo (.bin .neq) [.loc 1, .loc 0]] [(5, 0)])
(.cond (.env 5) (.seq (.region [qi 5] [(3, 0)])
(.ret)) (.skip)))
(.seq (.seq (.region [qe 0,
qln false 0,
qi 0] [(6, 2), (7, 1), (8, 0)])
(.block 0 (.loop (.seq (.region [qo (.bin .lss) [.env 8, .env 7]] [(9, 0)])
(.seq (.cond (.env 9) (.skip) (.exit 0))
(.seq (.block 1 (.seq (.region [qo (.iaddr 14) [.env 6, .env 8],
qo (.load 14 true) [.loc 0],
qo (.alloc 59 [.int .i64 0, .int .i64 0, .int .u8 0, .int .u8 0, .str ⟨#[]⟩, .int .i64 0, .int .i64 0, .bool false, .bool false, .bool false, .bool false, .bool false, .int .i64 0, .bool false]) [],
qo (.store 14) [.loc 0, .loc 1]] [(4, 1)])
(.seq (.region [qfe 2 4,
qo (.faddr 0) [.loc 0],
qd 1 0,
qo (.bin .eql) [.loc 0, .const (.int .u8 4)],
ql 0,
qg (.load 14 true) [.env 4] 0 true,
qg .mv [.env 2] 1 true,
qg (.call 50) [.loc 1, .loc 0] 2 true,
qg (.call 78) [.loc 0] 3 true,
qg (.bin .neq) [.loc 0, .const (.int .i64 0)] 4 true,
qpf 5 0] [(10, 0)])
(.cond (.env 10) (.seq (.region [qi 15] [(3, 0)])
(.ret)) (.skip)))))
(.region [qo (.bin .add) [.env 8, .const (.int .i64 1)],
ql 0] [(8, 0)])))))))
(.seq (.region [qi 0] [(3, 0)])
(.ret)))),
[.tmp 3]⟩
theorem F44_low : lowFn Tryz.prog (KD [] []) [0, 1, 2, 6, 8, 12, 13, 14, 15, 16, 29] Tryz.f44 = some F44 := by as_aux_lemma => kernel_rfl
def F45 : LFunc := ⟨[0, 2, 4], 1,
.seq (.region [qo .mv [.const (.nils)]] [(1, 0)])
(.seq (.seq (.region [qe 0,
qo (.eqnil false 0) [.loc 0, .const (.nils)]] [(2, 0)])
(.cond (.env 2) (.seq (.region [qo .mv [.const (.nils)]] [(1, 0)])
(.ret)) (.skip)))
(.seq (.region [qo (.bslice 5 1 0 [.int .u8 0] [] 1) [],
qe 0,
qo (.append 5 1 1 1) [.loc 1, .loc 0],
ql 0] [(1, 0)])
(.ret))),
[.tmp 1]⟩
theorem F45_low : lowFn Tryz.prog (KD [] []) [0, 2, 4] Tryz.f45 = some F45 := by as_aux_lemma => kernel_rfl
def F46 : LFunc := ⟨[0, 1, 2, 4, 5, 6, 39, 42, 43, 47], 2,
.seq (.region [qo (.box 59 14) [.env 0],
qbb false] [(2, 1), (3, 0)])
(.seq (.region [qfe 0 2,
qo (.load 2 true) [.loc 0],
qo (.alloc 57 [.int .i64 0, .int .i64 0]) [],
qo (.store 2) [.loc 0, .loc 1]] [(4, 1)])
(.seq (.seq (.region [qfe 0 4,
qd 1 0,
qo (.bin .lss) [.loc 0, .const (.int .i64 0)],
ql 0,
qg (.faddr 1) [.env 4] 0 false,
qg (.load 1 false) [.loc 0] 1 false,
qg (.bin .lss) [.loc 0, .const (.int .i64 1)] 2 false,
qpt 3 0,
ql 0,
qg (.faddr 1) [.env 4] 0 false,
qg (.load 1 false) [.loc 0] 1 false,
qg .mv [.env 1] 2 false,
qg (.bin .gtr) [.loc 1, .loc 0] 3 false,
qpt 4 0,
ql 0,
qg (.faddr 0) [.env 4] 0 false,
qg (.load 1 false) [.loc 0] 1 false,
qg .mv [.env 1] 2 false,
qg (.faddr 1) [.env 4] 3 false,
qg (.load 1 false) [.loc 0] 4 false,
qg (.bin .sub) [.loc 2, .loc 0] 5 false,
qg (.bin .gtr) [.loc 4, .loc 0] 6 false,
qpt 7 0,
ql 0,
qg (.faddr 2) [.env 2] 0 false,
qg (.faddr 10) [.loc 0] 1 false,
qg (.load 1 false) [.loc 0] 2 false,
qg (.faddr 1) [.env 4] 3 false,
qg (.load 1 false) [.loc 0] 4 false,
qg (.bin .neq) [.loc 2, .loc 0] 5 false,
qpt 6 0] [(6, 0)])
(.cond (.env 6) (.seq (.region [qbb false] [(3, 0)])
(.ret)) (.skip)))
(.seq (.seq (.region [qfe 2 2,
qo (.faddr 0) [.loc 0],
qd 1 0] [(7, 0)])
(.block 0 (.seq (.seq (.region [qo (.bin .eql) [.env 7, .const (.int .u8 0)],
ql 0] [(8, 0)])
(.cond (.env 8) (.skip) (.seq (.region [qo (.bin .eql) [.env 7, .const (.int .u8 1)],
ql 0] [(8, 0)])
(.cond (.env 8) (.skip) (.region [qo (.bin .eql) [.env 7, .const (.int .u8 2)],
ql 0] [(8, 0)])))))
(.cond (.env 8) (.seq (.region [qbb true] [(3, 0)])
(.ret)) (.seq (.region [qo (.bin .eql) [.env 7, .const (.int .u8 4)],
ql 0] [(9, 0)])
(.cond (.env 9) (.seq (.drawn [qfe 2 2,
qw (.load 11 true) [.loc 0] 1 1,
qw (.faddr 1) [.env 4] 0 2,
qw (.load 1 false) [.loc 0] 4 3,
qw (.mkslice 5 1 1 [.int .u8 0] 1) [.loc 0, .loc 0] 12 4,
qw (.build [.int .u8 0, .int .u8 0, .str ⟨#[]⟩, .int .i64 0, .int .i64 0, .bool false, .bool false, .bool false, .bool false, .bool false, .int .i64 0, .nils] [(0, 11), (11, 1)]) [.loc 3, .loc 0] 31 5,
qw (.call 78) [.loc 0] 63 6,
qw .mv [.loc 0] 127 7] [(5, 0)] [])
(.seq (.region [qe 5,
qo (.bin .eql) [.loc 0, .const (.int .i64 0)],
ql 0,
qg .mv [.env 5] 0 false,
qg (.bin .eql) [.loc 0, .const (.int .i64 15)] 1 false,
qpt 2 0,
ql 0] [(3, 0)])
(.ret))) (.skip)))))))
(.seq (.region [qbb false] [(3, 0)])
(.ret))))),
[.tmp 3]⟩
theorem F46_low : lowFn Tryz.prog (KD [] []) [0, 1, 2, 4, 5, 6, 39, 42, 43, 47] Tryz.f46 = some F46 := by as_aux_lemma => kernel_rfl
def F47 : LFunc := ⟨[0, 2], 1,
.seq (.region [qo .mv [.const (.nils)]] [(1, 0)])
(.seq (.region [qe 0,
qe 0,
qln false 0,
qe 0,
qln false 0,
qo (.slice false 1 false true true) [.loc 4, .loc 2, .loc 0],
ql 0] [(1, 0)])
(.ret)),
[.tmp 1]⟩
theorem F47_low : lowFn Tryz.prog (KD [] []) [0, 2] Tryz.f47 = some F47 := by as_aux_lemma => kernel_rfl
def F48 : LFunc := ⟨[0, 1], 2,
.region [qe 0,
qe 0,
qln false 0,
qe 1,
qo (.call 79) [.loc 3, .loc 1, .loc 0]] [],
[]⟩
theorem F48_low : lowFn Tryz.prog (KD [] []) [0, 1] Tryz.f48 = some F48 := by as_aux_lemma => kernel_rfl
def F49 : LFunc := ⟨[0, 1, 2, 5], 3,
.seq (.region [qi 0] [(3, 0)])
(.seq (.region [qo (.load 1 false) [.env 2],
qe 0,
qe 1,
qo (.call 33) [.loc 2, .loc 1, .loc 0],
ql 0] [(3, 0)])
(.ret)),
[.tmp 3]⟩
theorem F49_low : lowFn Tryz.prog (KD [] []) [0, 1, 2, 5] Tryz.f49 = some F49 := by as_aux_lemma => kernel_rfl
def F50 : LFunc := ⟨[0, 1, 2, 4], 2,
.seq (.region [qo (.box 59 14) [.env 0],
qo (.alloc 99 [.int .u8 0, .int .u8 0, .str ⟨#[]⟩, .int .i64 0, .int .i64 0, .bool false, .bool false, .bool false, .bool false, .bool false, .int .i64 0, .nils]) []] [(2, 1), (3, 0)])
(.seq (.drawn [qfe 2 2,
qw (.load 11 true) [.loc 0] 1 1,
qw .mv [.env 1] 0 2,
qw (.faddr 0) [.env 2] 0 3,
qw (.faddr 0) [.loc 0] 8 4,
qw (.load 1 false) [.loc 0] 24 5,
qw (.faddr 0) [.env 2] 0 6,
qw (.faddr 0) [.loc 0] 64 7,
qw (.load 1 false) [.loc 0] 192 8,
qw (.faddr 0) [.env 2] 0 9,
qw (.faddr 1) [.loc 0] 512 10,
qw (.load 1 false) [.loc 0] 1536 11,
qw (.bin .add) [.loc 3, .loc 0] 4032 12,
qw (.slice false 1 true true false) [.loc 10, .loc 7, .loc 0] 8188 13,
qw (.build [.int .u8 0, .int .u8 0, .str ⟨#[]⟩, .int .i64 0, .int .i64 0, .bool false, .bool false, .bool false, .bool false, .bool false, .int .i64 0, .nils] [(0, 11), (11, 1)]) [.loc 12, .loc 0] 16383 14,
qw (.store 12) [.env 3, .loc 0] 32767 15] [] [])
(.ret)),
[.cell 3 12 true]⟩
theorem F50_low : lowFn Tryz.prog (KD [] []) [0, 1, 2, 4] Tryz.f50 = some F50 := by as_aux_lemma => kernel_rfl
def F51 : LFunc := ⟨[0, 1, 2, 3, 4, 5, 6, 11, 20], 1,
.seq (.region [qo (.box 99 12) [.env 0],
qo (.alloc 102 [.bool false, .str ⟨#[]⟩, .int .i64 0]) [],
qi 0] [(1, 2), (2, 1), (3, 0)])
(.seq (.seq (.region [qfe 0 1,
qo (.load 11 true) [.loc 0],
qk 80 0,
ql 0] [(4, 0)])
(.seq (.region [qe 4,
qo (.bin .neq) [.loc 0, .const (.int .i64 0)]] [(7, 0)])
(.cond (.env 7) (.seq (.region [qo (.build [.bool false, .str ⟨#[]⟩, .int .i64 0] []) [],
qe 4,
qo (.store 3) [.env 2, .loc 1],
ql 1] [(3, 0)])
(.ret)) (.skip))))
(.seq (.region [qo (.load 12 true) [.env 1],
qk 81 0,
ql 0,
qx 0 0,
qx 1 1,
qo (.alloc 143 [.bool false, .str ⟨#[]⟩]) [],
qo (.store 2) [.loc 0, .loc 2],
ql 2] [(5, 2), (6, 0)])
(.seq (.seq (.region [qe 6,
qo (.bin .neq) [.loc 0, .const (.int .i64 0)]] [(8, 0)])
(.cond (.env 8) (.seq (.region [qo (.build [.bool false, .str ⟨#[]⟩, .int .i64 0] []) [],
qe 6,
qo (.store 3) [.env 2, .loc 1],
ql 1] [(3, 0)])
(.ret)) (.skip)))
(.seq (.region [qfe 0 5,
qd 1 0,
qfe 1 5,
qd 1 0,
qfe 0 1,
qo (.faddr 4) [.loc 0],
qd 1 0,
qo (.call 82) [.loc 5, .loc 3, .loc 0],
qx 0 0,
qx 1 1,
qo (.store 3) [.env 2, .loc 1],
ql 1] [(3, 0)])
(.ret))))),
[.cell 2 3 true, .tmp 3]⟩
theorem F51_low : lowFn Tryz.prog (KD [] []) [0, 1, 2, 3, 4, 5, 6, 11, 20] Tryz.f51 = some F51 := by as_aux_lemma => kernel_rfl
def F52 : LFunc := ⟨[0, 1, 2, 3, 4, 5, 6, 7, 8, 14, 23, 33, 39], 2,
.seq (.region [qo (.box 102 3) [.env 0],
qo (.box 102 3) [.env 1],
qi 0,
qi 0] [(2, 3), (3, 2), (4, 1), (5, 0)])
(.seq (.seq (.region [qo (.load 3 true) [.env 2],
qo (.load 3 true) [.env 3],
qkk 83 1 0,
ql 0] [(6, 0)])
(.seq (.region [qe 6,
qo (.bin .neq) [.loc 0, .const (.int .i64 0)]] [(9, 0)])
(.cond (.env 9) (.seq (.region [qe 6,
qi 0,
ql 1] [(4, 1), (5, 0)])
(.ret)) (.skip))))
(.seq (.region [qo (.load 3 true) [.env 2],
qo (.load 3 true) [.env 3],
qkk 84 1 0,
ql 0,
qx 0 0,
qx 1 1,
qx 2 2,
ql 2,
ql 2,
ql 2] [(7, 2), (8, 1)])
(.seq (.block 0 (.seq (.region [qfe 0 2,
qd 1 0,
qfe 0 3,
qd 1 0,
qo (.eqb true) [.loc 2, .loc 0],
ql 0,
qg (.faddr 0) [.env 2] 0 true,
qg (.load 1 false) [.loc 0] 1 true,
qpf 2 0,
ql 0] [(10, 0)])
(.cond (.env 10) (.seq (.region [qi (-1),
qi 0] [(4, 1), (5, 0)])
(.ret)) (.seq (.region [qfe 0 2,
qd 1 0,
qfe 0 3,
qd 1 0,
qo (.eqb true) [.loc 2, .loc 0],
ql 0] [(11, 0)])
(.cond (.env 11) (.seq (.region [qi 1,
qi 0] [(4, 1), (5, 0)])
(.ret)) (.seq (.region [qfe 0 2,
qd 1 0,
ql 0] [(12, 0)])
(.cond (.env 12) (.seq (.region [qe 8,
qe 7,
qkk 85 1 0,
ql 0,
qi 0] [(4, 1), (5, 0)])
(.ret)) (.skip))))))))
(.seq (.region [qe 7,
qe 8,
qkk 85 1 0,
ql 0,
qi 0] [(4, 1), (5, 0)])
(.ret))))),
[.tmp 4, .tmp 5]⟩
theorem F52_low : lowFn Tryz.prog (KD [] []) [0, 1, 2, 3, 4, 5, 6, 7, 8, 14, 23, 33, 39] Tryz.f52 = some F52 := by as_aux_lemma => kernel_rfl
def F53 : LFunc := ⟨[0, 1, 4, 5, 6, 11, 12, 13, 23], 2,
.seq (.region [qi 0] [(2, 0)])
(.seq (.seq (.region [qe 0,
qln false 0,
qe 1,
qln false 0,
qo .max [.loc 2, .loc 0],
qi 0] [(5, 1), (6, 0)])
(.block 0 (.loop (.seq (.region [qo (.bin .lss) [.env 6, .env 5]] [(7, 0)])
(.seq (.cond (.env 7) (.skip) (.exit 0))
(.seq (.block 1 (.seq (.region [qe 6,
ql 0] [(3, 0)])
(.seq (.region [qe 0,
qe 3,
qkk 87 1 0,
qe 1,
qe 3,
qkk 87 1 0,
qkk 86 3 0,
ql 0] [(4, 0)])
(.seq (.region [qe 4,
qo (.bin .neq) [.loc 0, .const (.int .i64 0)]] [(8, 0)])
(.cond (.env 8) (.seq (.region [qe 4,
ql 0] [(2, 0)])
(.ret)) (.skip))))))
(.region [qo (.bin .add) [.env 6, .const (.int .i64 1)],
ql 0] [(6, 0)])))))))
(.seq (.region [qi 0] [(2, 0)])
(.ret))),
[.tmp 2]⟩
theorem F53_low : lowFn Tryz.prog (KD [] []) [0, 1, 4, 5, 6, 11, 12, 13, 23] Tryz.f53 = some F53 := by as_aux_lemma => kernel_rfl
def F54 : LFunc := ⟨[0, 2, 3, 4, 5, 8, 31], 1,
.seq (.region [qi 0,
qi 0,
qbb false] [(1, 2), (2, 1), (3, 0)])
(.seq (.seq (.region [qe 0,
qo (.call 88) [.loc 0, .const (.str ⟨#[40]⟩)],
qo (.un .not) [.loc 0]] [(5, 0)])
(.cond (.env 5) (.seq (.region [qi 1,
qi 0,
qbb true] [(1, 2), (2, 1), (3, 0)])
(.ret)) (.skip)))
(.seq (.region [qe 0,
qo (.call 55) [.const (.str ⟨#[48, 49, 50, 51, 52, 53, 54, 55, 56, 57]⟩)],
qo (.call 59) [.loc 1, .const (.int .i64 1), .loc 0],
ql 0] [(4, 0)])
(.seq (.seq (.region [qe 4,
qo (.bin .lss) [.loc 0, .const (.int .i64 1)],
ql 0,
qg .mv [.env 4] 0 false,
qg (.bin .gtr) [.loc 0, .const (.int .i64 5)] 1 false,
qpt 2 0,
ql 0,
qg .mv [.env 4] 0 false,
qg (.bin .add) [.loc 0, .const (.int .i64 1)] 1 false,
qg .mv [.env 0] 2 false,
qg (.len true) [.loc 0] 3 false,
qg (.bin .geq) [.loc 2, .loc 0] 4 false,
qpt 5 0,
ql 0,
qg .mv [.env 0] 0 false,
qg .mv [.env 4] 1 false,
qg (.bin .add) [.loc 0, .const (.int .i64 1)] 2 false,
qg .index [.loc 2, .loc 0] 3 false,
qg (.bin .neq) [.loc 0, .const (.int .u8 41)] 4 false,
qpt 5 0] [(6, 0)])
(.cond (.env 6) (.seq (.region [qi 0,
qi 0,
qbb false] [(1, 2), (2, 1), (3, 0)])
(.ret)) (.skip)))
(.seq (.region [qe 0,
qe 4,
qo (.bin .add) [.loc 0, .const (.int .i64 1)],
qo (.slice true 0 true true false) [.loc 2, .const (.int .i64 1), .loc 0],
qk 89 0,
ql 0,
qx 0 0,
qx 1 1,
ql 1] [(1, 0)])
(.seq (.region [qe 1,
qe 4,
qo (.bin .add) [.loc 0, .const (.int .i64 2)],
qe 1,
qo (.bin .gtr) [.loc 0, .const (.int .i64 0)],
ql 4,
ql 3,
ql 2] [(1, 2), (2, 1), (3, 0)])
(.ret)))))),
[.tmp 1, .tmp 2, .tmp 3]⟩
theorem F54_low : lowFn Tryz.prog (KD [] []) [0, 2, 3, 4, 5, 8, 31] Tryz.f54 = some F54 := by as_aux_lemma => kernel_rfl
def F55 : LFunc := ⟨[0, 1, 2], 1,
.seq (.region [qo (.box 9 1) [.env 0],
qo .mv [.const (.nilfn)]] [(1, 1), (2, 0)])
(.seq (.region [qo (.mkfn 90) [.env 1],
ql 0] [(2, 0)])
(.ret)),
[.tmp 2]⟩
theorem F55_low : lowFn Tryz.prog (KD [] []) [0, 1, 2] Tryz.f55 = some F55 := by as_aux_lemma => kernel_rfl
def F56 : LFunc := ⟨[0, 1, 4, 5], 2,
.seq (.region [qi 0,
qo .mv [.const (.nili)]] [(2, 1), (3, 0)])
(.seq (.region [qe 0,
qk 92 0] [])
(.seq (.region [qe 0,
qe 0,
qo .nilck [.loc 0],
qo (.faddr 1) [.loc 0],
qd 1 0,
qe 1,
qo (.appstr 5 1 1) [.loc 1, .loc 0],
qo .nilck [.loc 6],
qo (.faddr 1) [.loc 0],
qo (.store 1) [.loc 0, .loc 2]] [])
(.seq (.region [qe 1,
qln true 0,
ql 0,
qo .mv [.const (.nili)]] [(2, 1), (3, 0)])
(.ret)))),
[.tmp 2, .tmp 3]⟩
theorem F56_low : lowFn Tryz.prog (KD [] []) [0, 1, 4, 5] Tryz.f56 = some F56 := by as_aux_lemma => kernel_rfl
def F57 : LFunc := ⟨[0, 1, 4, 5, 6, 7, 8, 9, 10, 11, 12, 14, 18, 34, 40, 42, 43, 49, 58, 67, 76, 85, 96, 104, 113], 2,
.seq (.region [qo .mv [.const (.str ⟨#[]⟩)]] [(2, 0)])
(.seq (.seq (.region [qe 1] [(9, 0)])
(.block 0 (.seq (.region [qo (.bin .eql) [.env 9, .const (.int .i64 0)],
ql 0] [(10, 0)])
(.cond (.env 10) (.seq (.region [qo .mv [.const (.str ⟨#[]⟩)]] [(2, 0)])
(.ret)) (.seq (.region [qo (.bin .eql) [.env 9, .const (.int .i64 1)],
ql 0] [(11, 0)])
(.cond (.env 11) (.seq (.region [qe 0,
ql 0] [(2, 0)])
(.ret)) (.skip)))))))
(.seq (.seq (.region [qe 1,
qo (.bin .lss) [.loc 0, .const (.int .i64 0)]] [(12, 0)])
(.cond (.env 12) (.region [qo (.mkif 9) [.const (.str ⟨#[115, 116, 114, 105, 110, 103, 115, 58, 32, 110, 101, 103, 97, 116, 105, 118, 101, 32, 82, 101, 112, 101, 97, 116, 32, 99, 111, 117, 110, 116]⟩)],
qo .fail []] []) (.skip)))
(.seq (.region [qe 0,
qln true 0,
qo (.conv .u64) [.loc 0],
qe 1,
qo (.conv .u64) [.loc 0],
qkk 93 2 0,
ql 0,
qx 0 0,
qx 1 1,
ql 1,
ql 1] [(3, 1), (4, 0)])
(.seq (.seq (.region [qe 3,
qo (.bin .gtr) [.loc 0, .const (.int .u64 0)],
ql 0,
qg .mv [.env 4] 0 false,
qg (.bin .gtr) [.loc 0, .const (.int .u64 9223372036854775807)] 1 false,
qpt 2 0] [(13, 0)])
(.cond (.env 13) (.region [qo (.mkif 9) [.const (.str ⟨#[115, 116, 114, 105, 110, 103, 115, 58, 32, 82, 101, 112, 101, 97, 116, 32, 111, 117, 116, 112, 117, 116, 32, 108, 101, 110, 103, 116, 104, 32, 111, 118, 101, 114, 102, 108, 111, 119]⟩)],
qo .fail []] []) (.skip)))
(.seq (.region [qe 4,
qo (.conv .i64) [.loc 0],
ql 0] [(5, 0)])
(.seq (.seq (.region [qe 0,
qln true 0,
qo (.bin .eql) [.loc 0, .const (.int .i64 0)]] [(14, 0)])
(.cond (.env 14) (.seq (.region [qo .mv [.const (.str ⟨#[]⟩)]] [(2, 0)])
(.ret)) (.skip)))
(.seq (.seq (.region [qe 0,
qo .index [.loc 0, .const (.int .i64 0)]] [(15, 0)])
(.block 1 (.seq (.seq (.region [qo (.bin .eql) [.env 15, .const (.int .u8 32)],
ql 0] [(16, 0)])
(.cond (.env 16) (.skip) (.seq (.region [qo (.bin .eql) [.env 15, .const (.int .u8 45)],
ql 0] [(16, 0)])
(.cond (.env 16) (.skip) (.seq (.region [qo (.bin .eql) [.env 15, .const (.int .u8 48)],
ql 0] [(16, 0)])
(.cond (.env 16) (.skip) (.seq (.region [qo (.bin .eql) [.env 15, .const (.int .u8 61)],
ql 0] [(16, 0)])
(.cond (.env 16) (.skip) (.region [qo (.bin .eql) [.env 15, .const (.int .u8 9)],
ql 0] [(16, 0)])))))))))
(.cond (.env 16) (.block 2 (.seq (.region [qe 5,
qo (.bin .leq) [.loc 0, .const (.int .i64 128)],
ql 0,
qg .mv [.env 0] 0 true,
qg (.call 88) [.const (.str ⟨#[32, 32, 32, 32, 32, 32, 32, 32, 32, 32, 32, 32, 32, 32, 32, 32, 32, 32, 32, 32, 32, 32, 32, 32, 32, 32, 32, 32, 32, 32, 32, 32, 32, 32, 32, 32, 32, 32, 32, 32, 32, 32, 32, 32, 32, 32, 32, 32, 32, 32, 32, 32, 32, 32, 32, 32, 32, 32, 32, 32, 32, 32, 32, 32, 32, 32, 32, 32, 32, 32, 32, 32, 32, 32, 32, 32, 32, 32, 32, 32, 32, 32, 32, 32, 32, 32, 32, 32, 32, 32, 32, 32, 32, 32, 32, 32, 32, 32, 32, 32, 32, 32, 32, 32, 32, 32, 32, 32, 32, 32, 32, 32, 32, 32, 32, 32, 32, 32, 32, 32, 32, 32, 32, 32, 32, 32, 32, 32]⟩), .loc 0] 1 true,
qpf 2 0,
ql 0] [(17, 0)])
(.cond (.env 17) (.seq (.region [qe 5,
qo (.slice true 0 false true false) [.const (.str ⟨#[32, 32, 32, 32, 32, 32, 32, 32, 32, 32, 32, 32, 32, 32, 32, 32, 32, 32, 32, 32, 32, 32, 32, 32, 32, 32, 32, 32, 32, 32, 32, 32, 32, 32, 32, 32, 32, 32, 32, 32, 32, 32, 32, 32, 32, 32, 32, 32, 32, 32, 32, 32, 32, 32, 32, 32, 32, 32, 32, 32, 32, 32, 32, 32, 32, 32, 32, 32, 32, 32, 32, 32, 32, 32, 32, 32, 32, 32, 32, 32, 32, 32, 32, 32, 32, 32, 32, 32, 32, 32, 32, 32, 32, 32, 32, 32, 32, 32, 32, 32, 32, 32, 32, 32, 32, 32, 32, 32, 32, 32, 32, 32, 32, 32, 32, 32, 32, 32, 32, 32, 32, 32, 32, 32, 32, 32, 32, 32]⟩), .loc 0],
ql 0] [(2, 0)])
(.ret)) (.seq (.region [qe 5,
qo (.bin .leq) [.loc 0, .const (.int .i64 128)],
ql 0,
qg .mv [.env 0] 0 true,
qg (.call 88) [.const (.str ⟨#[45, 45, 45, 45, 45, 45, 45, 45, 45, 45, 45, 45, 45, 45, 45, 45, 45, 45, 45, 45, 45, 45, 45, 45, 45, 45, 45, 45, 45, 45, 45, 45, 45, 45, 45, 45, 45, 45, 45, 45, 45, 45, 45, 45, 45, 45, 45, 45, 45, 45, 45, 45, 45, 45, 45, 45, 45, 45, 45, 45, 45, 45, 45, 45, 45, 45, 45, 45, 45, 45, 45, 45, 45, 45, 45, 45, 45, 45, 45, 45, 45, 45, 45, 45, 45, 45, 45, 45, 45, 45, 45, 45, 45, 45, 45, 45, 45, 45, 45, 45, 45, 45, 45, 45, 45, 45, 45, 45, 45, 45, 45, 45, 45, 45, 45, 45, 45, 45, 45, 45, 45, 45, 45, 45, 45, 45, 45, 45]⟩), .loc 0] 1 true,
qpf 2 0,
ql 0] [(18, 0)])
(.cond (.env 18) (.seq (.region [qe 5,
qo (.slice true 0 false true false) [.const (.str ⟨#[45, 45, 45, 45, 45, 45, 45, 45, 45, 45, 45, 45, 45, 45, 45, 45, 45, 45, 45, 45, 45, 45, 45, 45, 45, 45, 45, 45, 45, 45, 45, 45, 45, 45, 45, 45, 45, 45, 45, 45, 45, 45, 45, 45, 45, 45, 45, 45, 45, 45, 45, 45, 45, 45, 45, 45, 45, 45, 45, 45, 45, 45, 45, 45, 45, 45, 45, 45, 45, 45, 45, 45, 45, 45, 45, 45, 45, 45, 45, 45, 45, 45, 45, 45, 45, 45, 45, 45, 45, 45, 45, 45, 45, 45, 45, 45, 45, 45, 45, 45, 45, 45, 45, 45, 45, 45, 45, 45, 45, 45, 45, 45, 45, 45, 45, 45, 45, 45, 45, 45, 45, 45, 45, 45, 45, 45, 45, 45]⟩), .loc 0],
ql 0] [(2, 0)])
(.ret)) (.seq (.region [qe 5,
qo (.bin .leq) [.loc 0, .const (.int .i64 64)],
ql 0,
qg .mv [.env 0] 0 true,
qg (.call 88) [.const (.str ⟨#[48, 48, 48, 48, 48, 48, 48, 48, 48, 48, 48, 48, 48, 48, 48, 48, 48, 48, 48, 48, 48, 48, 48, 48, 48, 48, 48, 48, 48, 48, 48, 48, 48, 48, 48, 48, 48, 48, 48, 48, 48, 48, 48, 48, 48, 48, 48, 48, 48, 48, 48, 48, 48, 48, 48, 48, 48, 48, 48, 48, 48, 48, 48, 48]⟩), .loc 0] 1 true,
qpf 2 0,
ql 0] [(19, 0)])
(.cond (.env 19) (.seq (.region [qe 5,
qo (.slice true 0 false true false) [.const (.str ⟨#[48, 48, 48, 48, 48, 48, 48, 48, 48, 48, 48, 48, 48, 48, 48, 48, 48, 48, 48, 48, 48, 48, 48, 48, 48, 48, 48, 48, 48, 48, 48, 48, 48, 48, 48, 48, 48, 48, 48, 48, 48, 48, 48, 48, 48, 48, 48, 48, 48, 48, 48, 48, 48, 48, 48, 48, 48, 48, 48, 48, 48, 48, 48, 48]⟩), .loc 0],
ql 0] [(2, 0)])
(.ret)) (.seq (.region [qe 5,
qo (.bin .leq) [.loc 0, .const (.int .i64 128)],
ql 0,
qg .mv [.env 0] 0 true,
qg (.call 88) [.const (.str ⟨#[61, 61, 61, 61, 61, 61, 61, 61, 61, 61, 61, 61, 61, 61, 61, 61, 61, 61, 61, 61, 61, 61, 61, 61, 61, 61, 61, 61, 61, 61, 61, 61, 61, 61, 61, 61, 61, 61, 61, 61, 61, 61, 61, 61, 61, 61, 61, 61, 61, 61, 61, 61, 61, 61, 61, 61, 61, 61, 61, 61, 61, 61, 61, 61, 61, 61, 61, 61, 61, 61, 61, 61, 61, 61, 61, 61, 61, 61, 61, 61, 61, 61, 61, 61, 61, 61, 61, 61, 61, 61, 61, 61, 61, 61, 61, 61, 61, 61, 61, 61, 61, 61, 61, 61, 61, 61, 61, 61, 61, 61, 61, 61, 61, 61, 61, 61, 61, 61, 61, 61, 61, 61, 61, 61, 61, 61, 61, 61]⟩), .loc 0] 1 true,
qpf 2 0,
ql 0] [(20, 0)])
(.cond (.env 20) (.seq (.region [qe 5,
qo (.slice true 0 false true false) [.const (.str ⟨#[61, 61, 61, 61, 61, 61, 61, 61, 61, 61, 61, 61, 61, 61, 61, 61, 61, 61, 61, 61, 61, 61, 61, 61, 61, 61, 61, 61, 61, 61, 61, 61, 61, 61, 61, 61, 61, 61, 61, 61, 61, 61, 61, 61, 61, 61, 61, 61, 61, 61, 61, 61, 61, 61, 61, 61, 61, 61, 61, 61, 61, 61, 61, 61, 61, 61, 61, 61, 61, 61, 61, 61, 61, 61, 61, 61, 61, 61, 61, 61, 61, 61, 61, 61, 61, 61, 61, 61, 61, 61, 61, 61, 61, 61, 61, 61, 61, 61, 61, 61, 61, 61, 61, 61, 61, 61, 61, 61, 61, 61, 61, 61, 61, 61, 61, 61, 61, 61, 61, 61, 61, 61, 61, 61, 61, 61, 61, 61]⟩), .loc 0],
ql 0] [(2, 0)])
(.ret)) (.seq (.region [qe 5,
qo (.bin .leq) [.loc 0, .const (.int .i64 64)],
ql 0,
qg .mv [.env 0] 0 true,
qg (.call 88) [.const (.str ⟨#[9, 9, 9, 9, 9, 9, 9, 9, 9, 9, 9, 9, 9, 9, 9, 9, 9, 9, 9, 9, 9, 9, 9, 9, 9, 9, 9, 9, 9, 9, 9, 9, 9, 9, 9, 9, 9, 9, 9, 9, 9, 9, 9, 9, 9, 9, 9, 9, 9, 9, 9, 9, 9, 9, 9, 9, 9, 9, 9, 9, 9, 9, 9, 9]⟩), .loc 0] 1 true,
qpf 2 0,
ql 0] [(21, 0)])
(.cond (.env 21) (.seq (.region [qe 5,
qo (.slice true 0 false true false) [.const (.str ⟨#[9, 9, 9, 9, 9, 9, 9, 9, 9, 9, 9, 9, 9, 9, 9, 9, 9, 9, 9, 9, 9, 9, 9, 9, 9, 9, 9, 9, 9, 9, 9, 9, 9, 9, 9, 9, 9, 9, 9, 9, 9, 9, 9, 9, 9, 9, 9, 9, 9, 9, 9, 9, 9, 9, 9, 9, 9, 9, 9, 9, 9, 9, 9, 9]⟩), .loc 0],
ql 0] [(2, 0)])
(.ret)) (.skip)))))))))))) (.skip)))))
(.seq (.region [qe 5,
ql 0] [(6, 0)])
(.seq (.seq (.region [qe 5,
qo (.bin .gtr) [.loc 0, .const (.int .i64 8192)]] [(22, 0)])
(.cond (.env 22) (.seq (.region [qe 0,
qln true 0,
qo (.bin .quo) [.const (.int .i64 8192), .loc 0],
qe 0,
qln true 0,
qo (.bin .mul) [.loc 2, .loc 0],
ql 0] [(6, 0)])
(.seq (.region [qe 6,
qo (.bin .eql) [.loc 0, .const (.int .i64 0)]] [(23, 0)])
(.cond (.env 23) (.region [qe 0,
qln true 0,
ql 0] [(6, 0)]) (.skip)))) (.skip)))
(.seq (.region [qo (.alloc 108 [.nilp, .nils]) []] [(7, 0)])
(.seq (.region [qe 5,
qo (.call 94) [.env 7, .loc 0]] [])
(.seq (.region [qe 0,
qo (.call 56) [.env 7, .loc 0]] [])
(.seq (.block 3 (.loop (.seq (.seq (.region [qo (.call 95) [.env 7],
qe 5,
qo (.bin .lss) [.loc 1, .loc 0]] [(24, 0)])
(.cond (.env 24) (.skip) (.exit 3)))
(.block 4 (.seq (.region [qe 5,
qo (.call 95) [.env 7],
qo (.bin .sub) [.loc 1, .loc 0],
qo (.call 95) [.env 7],
qe 6,
qo .min [.loc 2, .loc 1, .loc 0],
ql 0] [(8, 0)])
(.region [qo (.call 58) [.env 7],
qe 8,
qo (.slice true 0 false true false) [.loc 1, .loc 0],
qo (.call 56) [.env 7, .loc 0]] []))))))
(.seq (.region [qo (.call 58) [.env 7],
ql 0] [(2, 0)])
(.ret))))))))))))))),
[.tmp 2]⟩
theorem F57_low : lowFn Tryz.prog (KD [] []) [0, 1, 4, 5, 6, 7, 8, 9, 10, 11, 12, 14, 18, 34, 40, 42, 43, 49, 58, 67, 76, 85, 96, 104, 113] Tryz.f57 = some F57 := by as_aux_lemma => kernel_rfl
def F58 : LFunc := ⟨[0, 2], 1,
.seq (.region [qo .mv [.const (.str ⟨#[]⟩)]] [(1, 0)])
(.seq (.drawn [qe 0,
qw .nilck [.loc 0] 1 1,
qw (.faddr 1) [.loc 0] 3 2,
qw (.load 1 false) [.loc 0] 7 3,
qw .sdata [.loc 0] 15 4,
qw .mv [.env 0] 0 5,
qw .nilck [.loc 0] 32 6,
qw (.faddr 1) [.loc 0] 96 7,
qw (.load 1 false) [.loc 0] 224 8,
qw (.len false) [.loc 0] 480 9,
qw (.ustr 5) [.loc 5, .loc 0] 1023 10,
qw .mv [.loc 0] 2047 11] [(1, 0)] [])
(.ret)),
[.tmp 1]⟩
theorem F58_low : lowFn Tryz.prog (KD [] []) [0, 2] Tryz.f58 = some F58 := by as_aux_lemma => kernel_rfl
def F59 : LFunc := ⟨[0, 1, 2, 6, 7, 22], 3,
.seq (.region [qi 0] [(3, 0)])
(.seq (.region [qi 0] [(4, 0)])
(.seq (.block 0 (.loop (.seq (.seq (.region [qe 1,
qe 4,
qo (.bin .add) [.loc 1, .loc 0],
qe 0,
qln true 0,
qo (.bin .lss) [.loc 2, .loc 0],
ql 0,
qg .mv [.env 2] 0 true,
qg .mv [.env 0] 1 true,
qg .mv [.env 1] 2 true,
qg .mv [.env 4] 3 true,
qg (.bin .add) [.loc 1, .loc 0] 4 true,
qg .index [.loc 3, .loc 0] 5 true,
qg .callv [.loc 5, .loc 0] 6 true,
qpf 7 0] [(5, 0)])
(.cond (.env 5) (.skip) (.exit 0)))
(.block 1 (.region [qe 4,
qo (.bin .add) [.loc 0, .const (.int .i64 1)],
ql 0] [(4, 0)])))))
(.seq (.region [qe 4,
ql 0] [(3, 0)])
(.ret)))),
[.tmp 3]⟩
theorem F59_low : lowFn Tryz.prog (KD [] []) [0, 1, 2, 6, 7, 22] Tryz.f59 = some F59 := by as_aux_lemma => kernel_rfl
def F60 : LFunc := ⟨[0, 1, 4], 2,
.seq (.region [qbb false] [(2, 0)])
(.seq (.region [qe 0,
qe 1,
qkk 96 1 0,
qo (.bin .geq) [.loc 0, .const (.int .i64 0)],
ql 0] [(2, 0)])
(.ret)),
[.tmp 2]⟩
theorem F60_low : lowFn Tryz.prog (KD [] []) [0, 1, 4] Tryz.f60 = some F60 := by as_aux_lemma => kernel_rfl
def F61 : LFunc := ⟨[0, 1, 4, 5], 2,
.seq (.region [qo .mv [.const (.str ⟨#[]⟩)],
qbb false] [(2, 1), (3, 0)])
(.seq (.region [qe 0,
qe 1,
qkk 97 1 0,
qx 0 0,
qx 1 1,
ql 1,
ql 1] [(2, 1), (3, 0)])
(.ret)),
[.tmp 2, .tmp 3]⟩
theorem F61_low : lowFn Tryz.prog (KD [] []) [0, 1, 4, 5] Tryz.f61 = some F61 := by as_aux_lemma => kernel_rfl
def F62 : LFunc := ⟨[0, 1, 4, 5, 6], 2,
.seq (.region [qo .mv [.const (.str ⟨#[]⟩)],
qo .mv [.const (.str ⟨#[]⟩)],
qbb false] [(2, 2), (3, 1), (4, 0)])
(.seq (.region [qe 0,
qe 1,
qkk 98 1 0,
qx 0 0,
qx 1 1,
qx 2 2,
ql 2,
ql 2,
ql 2] [(2, 2), (3, 1), (4, 0)])
(.ret)),
[.tmp 2, .tmp 3, .tmp 4]⟩
theorem F62_low : lowFn Tryz.prog (KD [] []) [0, 1, 4, 5, 6] Tryz.f62 = some F62 := by as_aux_lemma => kernel_rfl
def F63 : LFunc := ⟨[0, 2], 1,
.seq (.region [qbb false] [(1, 0)])
(.seq (.region [qe 0,
qo (.call 55) [.const (.str ⟨#[57]⟩)],
qo (.call 59) [.loc 1, .const (.int .i64 0), .loc 0],
qe 0,
qln true 0,
qo (.bin .eql) [.loc 2, .loc 0],
ql 0] [(1, 0)])
(.ret)),
[.tmp 1]⟩
theorem F63_low : lowFn Tryz.prog (KD [] []) [0, 2] Tryz.f63 = some F63 := by as_aux_lemma => kernel_rfl
def F64 : LFunc := ⟨[0, 1, 4, 5, 6, 12, 21, 31], 2,
.seq (.region [qo .mv [.const (.str ⟨#[]⟩)]] [(2, 0)])
(.seq (.seq (.region [qe 0,
qo (.bin .eql) [.loc 0, .const (.str ⟨#[]⟩)],
ql 0,
qg .mv [.env 1] 0 false,
qg (.bin .eql) [.loc 0, .const (.str ⟨#[]⟩)] 1 false,
qpt 2 0] [(5, 0)])
(.cond (.env 5) (.seq (.region [qe 0,
ql 0] [(2, 0)])
(.ret)) (.skip)))
(.seq (.seq (.region [qe 1,
qln true 0,
qo (.bin .eql) [.loc 0, .const (.int .i64 1)],
ql 0,
qg .mv [.env 1] 0 true,
qg .index [.loc 0, .const (.int .i64 0)] 1 true,
qg (.bin .lss) [.loc 0, .const (.int .u8 128)] 2 true,
qpf 3 0] [(6, 0)])
(.cond (.env 6) (.seq (.region [qe 0,
qe 1,
qo .index [.loc 0, .const (.int .i64 0)],
qkk 99 2 0,
ql 0] [(2, 0)])
(.ret)) (.skip)))
(.seq (.seq (.region [qe 1,
qk 100 0,
ql 0,
qx 0 0,
qx 1 1,
qo (.alloc 158 [.bool false, .bool false, .bool false, .bool false, .bool false, .bool false, .bool false, .bool false, .bool false, .bool false, .bool false, .bool false, .bool false, .bool false, .bool false, .bool false, .bool false, .bool false, .bool false, .bool false, .bool false, .bool false, .bool false, .bool false, .bool false, .bool false, .bool false, .bool false, .bool false, .bool false, .bool false, .bool false, .bool false, .bool false, .bool false, .bool false, .bool false, .bool false, .bool false, .bool false, .bool false, .bool false, .bool false, .bool false, .bool false, .bool false, .bool false, .bool false, .bool false, .bool false, .bool false, .bool false, .bool false, .bool false, .bool false, .bool false, .bool false, .bool false, .bool false, .bool false, .bool false, .bool false, .bool false, .bool false, .bool false, .bool false, .bool false, .bool false, .bool false, .bool false, .bool false, .bool false, .bool false, .bool false, .bool false, .bool false, .bool false, .bool false, .bool false, .bool false, .bool false, .bool false, .bool false, .bool false, .bool false, .bool false, .bool false, .bool false, .bool false, .bool false, .bool false, .bool false, .bool false, .bool false, .bool false, .bool false, .bool false, .bool false, .bool false, .bool false, .bool false, .bool false, .bool false, .bool false, .bool false, .bool false, .bool false, .bool false, .bool false, .bool false, .bool false, .bool false, .bool false, .bool false, .bool false, .bool false, .bool false, .bool false, .bool false, .bool false, .bool false, .bool false, .bool false, .bool false, .bool false, .bool false, .bool false, .bool false, .bool false, .bool false, .bool false, .bool false, .bool false, .bool false, .bool false, .bool false, .bool false, .bool false, .bool false, .bool false, .bool false, .bool false, .bool false, .bool false, .bool false, .bool false, .bool false, .bool false, .bool false, .bool false, .bool false, .bool false, .bool false, .bool false, .bool false, .bool false, .bool false, .bool false, .bool false, .bool false, .bool false, .bool false, .bool false, .bool false, .bool false, .bool false, .bool false, .bool false, .bool false, .bool false, .bool false, .bool false, .bool false, .bool false, .bool false, .bool false, .bool false, .bool false, .bool false, .bool false, .bool false, .bool false, .bool false, .bool false, .bool false, .bool false, .bool false, .bool false, .bool false, .bool false, .bool false, .bool false, .bool false, .bool false, .bool false, .bool false, .bool false, .bool false, .bool false, .bool false, .bool false, .bool false, .bool false, .bool false, .bool false, .bool false, .bool false, .bool false, .bool false, .bool false, .bool false, .bool false, .bool false, .bool false, .bool false, .bool false, .bool false, .bool false, .bool false, .bool false, .bool false, .bool false, .bool false, .bool false, .bool false, .bool false, .bool false, .bool false, .bool false, .bool false, .bool false, .bool false, .bool false, .bool false, .bool false, .bool false, .bool false, .bool false, .bool false, .bool false, .bool false, .bool false, .bool false, .bool false, .bool false, .bool false, .bool false, .bool false, .bool false, .bool false, .bool false, .bool false, .bool false, .bool false, .bool false, .bool false]) [],
qo (.store 256) [.loc 0, .loc 2],
ql 2] [(3, 2), (4, 0)])
(.seq (.region [qe 4] [(7, 0)])
(.cond (.env 7) (.seq (.region [qe 0,
qo (.call 101) [.loc 0, .env 3],
ql 0] [(2, 0)])
(.ret)) (.skip))))
(.seq (.region [qe 0,
qe 1,
qkk 102 1 0,
ql 0] [(2, 0)])
(.ret))))),
[.tmp 2]⟩
theorem F64_low : lowFn Tryz.prog (KD [] []) [0, 1, 4, 5, 6, 12, 21, 31] Tryz.f64 = some F64 := by as_aux_lemma => kernel_rfl
def F77 : LFunc := ⟨[0, 1, 4, 6, 16], 2,
.seq (.region [qo .mv [.const (.nils)]] [(2, 0)])
(.seq (.seq (.region [qe 1,
qo (.bin .lss) [.loc 0, .const (.int .i64 0)]] [(3, 0)])
(.cond (.env 3) (.region [qo (.mkif 9) [.const (.str ⟨#[99, 97, 110, 110, 111, 116, 32, 98, 101, 32, 110, 101, 103, 97, 116, 105, 118, 101]⟩)],
qo .fail []] []) (.skip)))
(.seq (.seq (.region [qe 1,
qe 0,
qo .cap [.loc 0],
qe 0,
qln false 0,
qo (.bin .sub) [.loc 2, .loc 0],
qo (.bin .sub) [.loc 5, .loc 0],
ql 0] [(1, 0)])
(.seq (.region [qe 1,
qo (.bin .gtr) [.loc 0, .const (.int .i64 0)]] [(4, 0)])
(.cond (.env 4) (.region [qe 0,
qe 0,
qo .cap [.loc 0],
qo (.slice false 1 false true false) [.loc 2, .loc 0],
qe 1,
qo (.appmk 43 1 24 [.nils]) [.loc 1, .loc 0],
qe 0,
qln false 0,
qo (.slice false 1 false true false) [.loc 2, .loc 0],
ql 0] [(0, 0)]) (.skip))))
(.seq (.region [qe 0,
ql 0] [(2, 0)])
(.ret)))),
[.tmp 2]⟩
theorem F77_low : lowFn Tryz.prog (KD [] []) [0, 1, 4, 6, 16] Tryz.f77 = some F77 := by as_aux_lemma => kernel_rfl
def F78 : LFunc := ⟨[0, 1, 2, 4, 8], 1,
.seq (.region [qo (.box 99 12) [.env 0],
qi 0] [(1, 1), (2, 0)])
(.seq (.seq (.region [qfe 0 1,
qo (.load 11 true) [.loc 0],
qk 117 0,
qo (.bin .neq) [.loc 0, .const (.int .i64 0)]] [(4, 0)])
(.cond (.env 4) (.seq (.region [qi 1] [(2, 0)])
(.ret)) (.skip)))
(.seq (.region [qo (.load 12 true) [.env 1],
qk 81 0,
ql 0,
qx 0 0,
qx 1 1,
qo (.alloc 143 [.bool false, .str ⟨#[]⟩]) [],
qo (.store 2) [.loc 0, .loc 2],
ql 2] [(3, 0)])
(.seq (.region [qe 3,
ql 0] [(2, 0)])
(.ret)))),
[.tmp 2]⟩
theorem F78_low : lowFn Tryz.prog (KD [] []) [0, 1, 2, 4, 8] Tryz.f78 = some F78 := by as_aux_lemma => kernel_rfl
def F79 : LFunc := ⟨[0, 1, 2, 6, 7, 8, 9, 13, 30, 35, 54], 3,
.seq (.region [qi 20] [(3, 0)])
(.seq (.region [qe 3,
qi 0,
ql 1] [(4, 1), (5, 0)])
(.seq (.block 0 (.loop (.seq (.seq (.region [qe 5,
qe 1,
qo (.bin .leq) [.loc 1, .loc 0]] [(7, 0)])
(.cond (.env 7) (.skip) (.exit 0)))
(.block 1 (.seq (.region [qe 0,
qe 4,
qe 5,
qe 2,
qo (.call 118) [.loc 3, .loc 2, .loc 1, .loc 0]] [])
(.seq (.region [qe 5,
ql 0] [(4, 0)])
(.region [qe 5,
qe 3,
qo (.bin .add) [.loc 1, .loc 0],
ql 0] [(5, 0)])))))))
(.seq (.region [qe 0,
qe 4,
qe 1,
qe 2,
qo (.call 118) [.loc 3, .loc 2, .loc 1, .loc 0]] [])
(.block 2 (.loop (.seq (.seq (.region [qe 3,
qe 1,
qo (.bin .lss) [.loc 1, .loc 0]] [(8, 0)])
(.cond (.env 8) (.skip) (.exit 2)))
(.block 3 (.seq (.region [qe 3,
qo (.bin .mul) [.const (.int .i64 2), .loc 0],
qi 0,
ql 1] [(4, 1), (5, 0)])
(.seq (.block 4 (.loop (.seq (.seq (.region [qe 5,
qe 1,
qo (.bin .leq) [.loc 1, .loc 0]] [(9, 0)])
(.cond (.env 9) (.skip) (.exit 4)))
(.block 5 (.seq (.region [qe 0,
qe 4,
qe 4,
qe 3,
qo (.bin .add) [.loc 1, .loc 0],
qe 5,
qe 2,
qo (.call 119) [.loc 6, .loc 5, .loc 2, .loc 1, .loc 0]] [])
(.seq (.region [qe 5,
ql 0] [(4, 0)])
(.region [qe 5,
qe 3,
qo (.bin .mul) [.const (.int .i64 2), .loc 0],
qo (.bin .add) [.loc 2, .loc 0],
ql 0] [(5, 0)])))))))
(.seq (.seq (.region [qe 4,
qe 3,
qo (.bin .add) [.loc 1, .loc 0],
ql 0] [(6, 0)])
(.seq (.region [qe 6,
qe 1,
qo (.bin .lss) [.loc 1, .loc 0]] [(10, 0)])
(.cond (.env 10) (.region [qe 0,
qe 4,
qe 6,
qe 1,
qe 2,
qo (.call 119) [.loc 4, .loc 3, .loc 2, .loc 1, .loc 0]] []) (.skip))))
(.region [qe 3,
qo (.bin .mul) [.loc 0, .const (.int .i64 2)],
ql 0] [(3, 0)]))))))))))),
[]⟩
theorem F79_low : lowFn Tryz.prog (KD [] []) [0, 1, 2, 6, 7, 8, 9, 13, 30, 35, 54] Tryz.f79 = some F79 := by as_aux_lemma => kernel_rfl
def F80 : LFunc := ⟨[0, 1, 2, 3, 7], 1,
.seq (.region [qo (.box 51 11) [.env 0],
qi 0] [(1, 1), (2, 0)])
(.seq (.block 0 (.seq (.region [qo (.load 11 true) [.env 1],
qk 117 0,
qo (.bin .neq) [.loc 0, .const (.int .i64 0)],
ql 0] [(3, 0)])
(.cond (.env 3) (.seq (.region [qi 1] [(2, 0)])
(.ret)) (.seq (.region [qfe 0 1,
qd 1 0,
qo (.bin .neq) [.loc 0, .const (.int .u8 4)],
ql 0] [(4, 0)])
(.cond (.env 4) (.seq (.region [qi 12] [(2, 0)])
(.ret)) (.skip))))))
(.seq (.region [qi 0] [(2, 0)])
(.ret))),
[.tmp 2]⟩
theorem F80_low : lowFn Tryz.prog (KD [] []) [0, 1, 2, 3, 7] Tryz.f80 = some F80 := by as_aux_lemma => kernel_rfl
def F81 : LFunc := ⟨[0, 1, 2, 3, 4, 5, 12, 17, 32], 1,
.seq (.region [qo (.box 99 12) [.env 0],
qo (.alloc 143 [.bool false, .str ⟨#[]⟩]) [],
qi 0] [(1, 2), (2, 1), (3, 0)])
(.seq (.seq (.region [qfe 11 1,
qd 1 0,
qln false 0,
qfe 0 1,
qo (.faddr 10) [.loc 0],
qd 1 0,
qo (.bin .neq) [.loc 3, .loc 0]] [(6, 0)])
(.cond (.env 6) (.seq (.region [qo (.build [.bool false, .str ⟨#[]⟩] []) [],
qo (.store 2) [.env 2, .loc 0],
qi 5] [(3, 0)])
(.ret)) (.skip)))
(.seq (.seq (.region [qfe 0 1,
qo (.faddr 0) [.loc 0],
qd 1 0,
qo (.bin .neq) [.loc 0, .const (.int .u8 4)]] [(7, 0)])
(.cond (.env 7) (.seq (.region [qo (.build [.bool false, .str ⟨#[]⟩] []) [],
qo (.store 2) [.env 2, .loc 0],
qi 0] [(3, 0)])
(.ret)) (.skip)))
(.seq (.drawn [qfe 0 1,
qw (.load 11 true) [.loc 0] 1 1,
qw (.call 120) [.loc 0] 3 2,
qw (.field 0 1 false) [.loc 0] 7 3,
qw (.faddr 0) [.env 1] 0 4,
qw (.load 11 true) [.loc 0] 16 5,
qw (.faddr 11) [.env 1] 0 6,
qw (.load 1 false) [.loc 0] 64 7,
qw .callv [.loc 4, .loc 2, .loc 0] 255 8,
qw .mv [.loc 0] 511 9,
qw (.extract 0) [.loc 0] 1023 10,
qw (.extract 1) [.loc 1] 1023 11,
⟨.mv, [.loc 12], none, ob 0 12, some 0⟩,
qw (.store 2) [.loc 0, .loc 2] 6143 13,
qw .mv [.loc 2] 16383 14] [(4, 2), (5, 0)] [(143, [.bool false, .str ⟨#[]⟩])])
(.seq (.seq (.region [qe 5,
qo (.un .not) [.loc 0]] [(8, 0)])
(.cond (.env 8) (.seq (.region [qo (.build [.bool false, .str ⟨#[]⟩] []) [],
qo (.store 2) [.env 2, .loc 0],
qi 15] [(3, 0)])
(.ret)) (.skip)))
(.seq (.region [qo (.load 2 true) [.env 4],
qo (.store 2) [.env 2, .loc 0],
qi 0] [(3, 0)])
(.ret)))))),
[.cell 2 2 true, .tmp 3]⟩
theorem F81_low : lowFn Tryz.prog (KD [] []) [0, 1, 2, 3, 4, 5, 12, 17, 32] Tryz.f81 = some F81 := by as_aux_lemma => kernel_rfl
def F82 : LFunc := ⟨[0, 1, 2, 6, 7, 23], 3,
.seq (.region [qo (.alloc 102 [.bool false, .str ⟨#[]⟩, .int .i64 0]) [],
qi 0] [(3, 1), (4, 0)])
(.seq (.seq (.region [qe 1,
qk 121 0,
qo (.un .not) [.loc 0],
ql 0,
qg .mv [.env 1] 0 false,
qg (.len true) [.loc 0] 1 false,
qg (.bin .gtr) [.loc 0, .const (.int .i64 1000)] 2 false,
qpt 3 0,
ql 0,
qg .mv [.env 2] 0 false,
qg (.bin .lss) [.loc 0, .const (.int .i64 (-1000))] 1 false,
qpt 2 0,
ql 0,
qg .mv [.env 2] 0 false,
qg (.bin .gtr) [.loc 0, .const (.int .i64 1000)] 1 false,
qpt 2 0] [(5, 0)])
(.cond (.env 5) (.seq (.region [qo (.build [.bool false, .str ⟨#[]⟩, .int .i64 0] []) [],
qo (.store 3) [.env 3, .loc 0],
qi 1] [(4, 0)])
(.ret)) (.skip)))
(.seq (.region [qe 0,
qe 1,
qe 2,
qo (.call 122) [.loc 2, .loc 1, .loc 0],
qx 0 0,
qx 1 1,
qo (.store 3) [.env 3, .loc 1],
ql 1] [(4, 0)])
(.ret))),
[.cell 3 3 true, .tmp 4]⟩
theorem F82_low : lowFn Tryz.prog (KD [] []) [0, 1, 2, 6, 7, 23] Tryz.f82 = some F82 := by as_aux_lemma => kernel_rfl
def F83 : LFunc := ⟨[0, 1, 2, 3, 4], 2,
.seq (.region [qo (.box 102 3) [.env 0],
qo (.box 102 3) [.env 1],
qi 0] [(2, 2), (3, 1), (4, 0)])
(.seq (.drawn [qo (.load 3 true) [.env 2],
qw (.call 123) [.loc 0] 1 1,
qw (.load 3 true) [.env 3] 0 2,
qw (.call 123) [.loc 0] 7 3,
qw .max [.loc 2, .loc 0] 15 4,
qw .mv [.loc 0] 31 5] [(4, 0)] [])
(.ret)),
[.tmp 4]⟩
theorem F83_low : lowFn Tryz.prog (KD [] []) [0, 1, 2, 3, 4] Tryz.f83 = some F83 := by as_aux_lemma => kernel_rfl
def F84 : LFunc := ⟨[0, 1, 2, 3, 4, 5, 6, 7], 2,
.seq (.region [qo (.box 102 3) [.env 0],
qo (.box 102 3) [.env 1],
qo .mv [.const (.str ⟨#[]⟩)],
qo .mv [.const (.str ⟨#[]⟩)],
qi 0] [(2, 4), (3, 3), (4, 2), (5, 1), (6, 0)])
(.seq (.region [qfe 2 2,
qd 1 0,
qfe 2 3,
qd 1 0,
qo .max [.loc 2, .loc 0],
ql 0] [(6, 0)])
(.seq (.drawn [qfe 1 2,
qw (.load 1 false) [.loc 0] 1 1,
qw .mv [.env 6] 0 2,
qw (.faddr 2) [.env 2] 0 3,
qw (.load 1 false) [.loc 0] 8 4,
qw (.bin .sub) [.loc 2, .loc 0] 28 5,
qw (.call 57) [.const (.str ⟨#[48]⟩), .loc 0] 60 6,
qw (.bin .add) [.loc 5, .loc 0] 127 7,
qw .mv [.loc 0] 255 8] [(4, 0)] [])
(.seq (.drawn [qfe 1 3,
qw (.load 1 false) [.loc 0] 1 1,
qw .mv [.env 6] 0 2,
qw (.faddr 2) [.env 3] 0 3,
qw (.load 1 false) [.loc 0] 8 4,
qw (.bin .sub) [.loc 2, .loc 0] 28 5,
qw (.call 57) [.const (.str ⟨#[48]⟩), .loc 0] 60 6,
qw (.bin .add) [.loc 5, .loc 0] 127 7,
qw .mv [.loc 0] 255 8] [(5, 0)] [])
(.seq (.region [qe 4,
qln true 0,
qe 5,
qln true 0,
qo .max [.loc 2, .loc 0],
ql 0] [(7, 0)])
(.seq (.region [qe 4,
qe 7,
qkk 124 1 0,
qe 5,
qe 7,
qkk 124 1 0,
qe 6,
ql 4,
ql 2,
ql 2] [(4, 2), (5, 1), (6, 0)])
(.ret)))))),
[.tmp 4, .tmp 5, .tmp 6]⟩
theorem F84_low : lowFn Tryz.prog (KD [] []) [0, 1, 2, 3, 4, 5, 6, 7] Tryz.f84 = some F84 := by as_aux_lemma => kernel_rfl
def F85 : LFunc := ⟨[0, 1, 4, 5, 6, 11, 12, 13, 16, 19], 2,
.seq (.region [qi 0] [(2, 0)])
(.seq (.region [qe 0,
qk 125 0,
ql 0] [(3, 0)])
(.seq (.region [qe 1,
qk 125 0,
ql 0] [(4, 0)])
(.seq (.seq (.region [qe 3] [(5, 0)])
(.cond (.env 5) (.seq (.seq (.region [qe 4] [(6, 0)])
(.cond (.env 6) (.seq (.region [qi 0] [(2, 0)])
(.ret)) (.skip)))
(.seq (.region [qi (-1)] [(2, 0)])
(.ret))) (.skip)))
(.seq (.seq (.region [qe 4] [(7, 0)])
(.cond (.env 7) (.seq (.region [qi 1] [(2, 0)])
(.ret)) (.skip)))
(.seq (.seq (.region [qe 0,
qe 1,
qo (.bin .lss) [.loc 1, .loc 0]] [(8, 0)])
(.cond (.env 8) (.seq (.region [qi (-1)] [(2, 0)])
(.ret)) (.skip)))
(.seq (.seq (.region [qe 0,
qe 1,
qo (.bin .gtr) [.loc 1, .loc 0]] [(9, 0)])
(.cond (.env 9) (.seq (.region [qi 1] [(2, 0)])
(.ret)) (.skip)))
(.seq (.region [qi 0] [(2, 0)])
(.ret)))))))),
[.tmp 2]⟩
theorem F85_low : lowFn Tryz.prog (KD [] []) [0, 1, 4, 5, 6, 11, 12, 13, 16, 19] Tryz.f85 = some F85 := by as_aux_lemma => kernel_rfl
def F86 : LFunc := ⟨[0, 1, 4, 5, 6, 11, 12, 13, 16, 19], 2,
.seq (.region [qi 0] [(2, 0)])
(.seq (.region [qe 0,
qk 126 0,
ql 0] [(3, 0)])
(.seq (.region [qe 1,
qk 126 0,
ql 0] [(4, 0)])
(.seq (.seq (.region [qe 3] [(5, 0)])
(.cond (.env 5) (.seq (.seq (.region [qe 4] [(6, 0)])
(.cond (.env 6) (.seq (.region [qi 0] [(2, 0)])
(.ret)) (.skip)))
(.seq (.region [qi (-1)] [(2, 0)])
(.ret))) (.skip)))
(.seq (.seq (.region [qe 4] [(7, 0)])
(.cond (.env 7) (.seq (.region [qi 1] [(2, 0)])
(.ret)) (.skip)))
(.seq (.seq (.region [qe 0,
qe 1,
qo (.bin .lss) [.loc 1, .loc 0]] [(8, 0)])
(.cond (.env 8) (.seq (.region [qi (-1)] [(2, 0)])
(.ret)) (.skip)))
(.seq (.seq (.region [qe 0,
qe 1,
qo (.bin .gtr) [.loc 1, .loc 0]] [(9, 0)])
(.cond (.env 9) (.seq (.region [qi 1] [(2, 0)])
(.ret)) (.skip)))
(.seq (.region [qi 0] [(2, 0)])
(.ret)))))))),
[.tmp 2]⟩
theorem F86_low : lowFn Tryz.prog (KD [] []) [0, 1, 4, 5, 6, 11, 12, 13, 16, 19] Tryz.f86 = some F86 := by as_aux_lemma => kernel_rfl
def F87 : LFunc := ⟨[0, 1, 4, 8], 2,
.seq (.region [qo .mv [.const (.int .u8 0)]] [(2, 0)])
(.seq (.seq (.region [qe 1,
qe 0,
qln false 0,
qo (.bin .geq) [.loc 2, .loc 0]] [(3, 0)])
(.cond (.env 3) (.seq (.region [qo .mv [.const (.int .u8 32)]] [(2, 0)])
(.ret)) (.skip)))
(.seq (.region [qe 0,
qe 1,
qo (.iaddr 1) [.loc 1, .loc 0],
qd 1 0,
ql 0] [(2, 0)])
(.ret))),
[.tmp 2]⟩
theorem F87_low : lowFn Tryz.prog (KD [] []) [0, 1, 4, 8] Tryz.f87 = some F87 := by as_aux_lemma => kernel_rfl
def F88 : LFunc := ⟨[0, 1, 4], 2,
.seq (.region [qbb false] [(2, 0)])
(.seq (.region [qe 0,
qe 1,
qkk 127 1 0,
ql 0] [(2, 0)])
(.ret)),
[.tmp 2]⟩
theorem F88_low : lowFn Tryz.prog (KD [] []) [0, 1, 4] Tryz.f88 = some F88 := by as_aux_lemma => kernel_rfl
def F90 : LFunc := ⟨[0, 1, 3], 2,
.seq (.region [qbb false] [(2, 0)])
(.seq (.region [qo (.load 1 false) [.env 1],
qe 0,
qkk 91 1 0,
qo (.bin .geq) [.loc 0, .const (.int .i64 0)],
ql 0] [(2, 0)])
(.ret)),
[.tmp 2]⟩
theorem F90_low : lowFn Tryz.prog (KD [] []) [0, 1, 3] Tryz.f90 = some F90 := by as_aux_lemma => kernel_rfl
def F91 : LFunc := ⟨[0, 1, 4], 2,
.seq (.region [qi 0] [(2, 0)])
(.seq (.region [qe 0,
qe 1,
qkk 130 1 0,
ql 0] [(2, 0)])
(.ret)),
[.tmp 2]⟩
theorem F91_low : lowFn Tryz.prog (KD [] []) [0, 1, 4] Tryz.f91 = some F91 := by as_aux_lemma => kernel_rfl
def F92 : LFunc := ⟨[0, 6, 19], 1,
.seq (.region [qe 0,
qo .nilck [.loc 0],
qo (.faddr 0) [.loc 0],
qd 1 0,
qo (.eqp false) [.loc 0, .const (.nilp)]] [(1, 0)])
(.cond (.env 1) (.region [qe 0,
qe 0,
qo (.toU 108 2) [.loc 0],
ql 0,
qo (.ofU 108 2) [.loc 0],
qo .nilck [.loc 4],
qo (.faddr 0) [.loc 0],
qo (.store 1) [.loc 0, .loc 2]] []) (.seq (.region [qe 0,
qo .nilck [.loc 0],
qo (.faddr 0) [.loc 0],
qd 1 0,
qe 0,
qo (.eqp true) [.loc 1, .loc 0]] [(2, 0)])
(.cond (.env 2) (.fail) (.skip)))),
[]⟩
theorem F92_low : lowFn Tryz.prog (KD [] []) [0, 6, 19] Tryz.f92 = some F92 := by as_aux_lemma => kernel_rfl
def F93 : LFunc := ⟨[0, 1, 4, 5, 6, 7, 8, 9], 2,
.seq (.region [qo .mv [.const (.int .u64 0)],
qo .mv [.const (.int .u64 0)]] [(2, 1), (3, 0)])
(.seq (.cond (.const (.bool false)) (.seq (.region [qe 0,
qo (.conv .u32) [.loc 0],
qe 1,
qo (.conv .u32) [.loc 0],
qkk 132 2 0,
ql 0,
qx 0 0,
qx 1 1,
ql 1,
ql 1] [(4, 1), (5, 0)])
(.seq (.region [qe 4,
qo (.conv .u64) [.loc 0],
qe 5,
qo (.conv .u64) [.loc 0],
ql 2,
ql 1] [(2, 1), (3, 0)])
(.ret))) (.skip))
(.seq (.region [qe 0,
qe 1,
qkk 133 1 0,
ql 0,
qx 0 0,
qx 1 1,
ql 1,
ql 1] [(6, 1), (7, 0)])
(.seq (.region [qe 6,
qe 7,
ql 1,
ql 1] [(2, 1), (3, 0)])
(.ret)))),
[.tmp 2, .tmp 3]⟩
theorem F93_low : lowFn Tryz.prog (KD [] []) [0, 1, 4, 5, 6, 7, 8, 9] Tryz.f93 = some F93 := by as_aux_lemma => kernel_rfl
def F96 : LFunc := ⟨[0, 1, 4, 5, 6, 7, 8, 9, 10, 12, 15, 20, 26, 32, 36, 42, 45, 46, 47, 53], 2,
.seq (.region [qi 0] [(2, 0)])
(.seq (.seq (.region [qe 1,
qo (.bin .eql) [.loc 0, .const (.str ⟨#[]⟩)]] [(9, 0)])
(.cond (.env 9) (.seq (.region [qi (-1)] [(2, 0)])
(.ret)) (.skip)))
(.seq (.seq (.region [qe 1,
qln true 0,
qo (.bin .eql) [.loc 0, .const (.int .i64 1)]] [(10, 0)])
(.cond (.env 10) (.seq (.region [qe 1,
qo .index [.loc 0, .const (.int .i64 0)],
qo (.conv .i32) [.loc 0],
ql 0] [(3, 0)])
(.seq (.seq (.region [qe 3,
qo (.bin .geq) [.loc 0, .const (.int .i32 128)]] [(11, 0)])
(.cond (.env 11) (.region [qo .mv [.const (.int .i32 65533)]] [(3, 0)]) (.skip)))
(.seq (.region [qe 0,
qe 3,
qkk 113 1 0,
ql 0] [(2, 0)])
(.ret)))) (.skip)))
(.seq (.seq (.region [qe 0,
qln true 0,
qk 135 0] [(12, 0)])
(.cond (.env 12) (.seq (.region [qe 1,
qk 100 0,
ql 0,
qx 0 0,
qx 1 1,
qo (.alloc 158 [.bool false, .bool false, .bool false, .bool false, .bool false, .bool false, .bool false, .bool false, .bool false, .bool false, .bool false, .bool false, .bool false, .bool false, .bool false, .bool false, .bool false, .bool false, .bool false, .bool false, .bool false, .bool false, .bool false, .bool false, .bool false, .bool false, .bool false, .bool false, .bool false, .bool false, .bool false, .bool false, .bool false, .bool false, .bool false, .bool false, .bool false, .bool false, .bool false, .bool false, .bool false, .bool false, .bool false, .bool false, .bool false, .bool false, .bool false, .bool false, .bool false, .bool false, .bool false, .bool false, .bool false, .bool false, .bool false, .bool false, .bool false, .bool false, .bool false, .bool false, .bool false, .bool false, .bool false, .bool false, .bool false, .bool false, .bool false, .bool false, .bool false, .bool false, .bool false, .bool false, .bool false, .bool false, .bool false, .bool false, .bool false, .bool false, .bool false, .bool false, .bool false, .bool false, .bool false, .bool false, .bool false, .bool false, .bool false, .bool false, .bool false, .bool false, .bool false, .bool false, .bool false, .bool false, .bool false, .bool false, .bool false, .bool false, .bool false, .bool false, .bool false, .bool false, .bool false, .bool false, .bool false, .bool false, .bool false, .bool false, .bool false, .bool false, .bool false, .bool false, .bool false, .bool false, .bool false, .bool false, .bool false, .bool false, .bool false, .bool false, .bool false, .bool false, .bool false, .bool false, .bool false, .bool false, .bool false, .bool false, .bool false, .bool false, .bool false, .bool false, .bool false, .bool false, .bool false, .bool false, .bool false, .bool false, .bool false, .bool false, .bool false, .bool false, .bool false, .bool false, .bool false, .bool false, .bool false, .bool false, .bool false, .bool false, .bool false, .bool false, .bool false, .bool false, .bool false, .bool false, .bool false, .bool false, .bool false, .bool false, .bool false, .bool false, .bool false, .bool false, .bool false, .bool false, .bool false, .bool false, .bool false, .bool false, .bool false, .bool false, .bool false, .bool false, .bool false, .bool false, .bool false, .bool false, .bool false, .bool false, .bool false, .bool false, .bool false, .bool false, .bool false, .bool false, .bool false, .bool false, .bool false, .bool false, .bool false, .bool false, .bool false, .bool false, .bool false, .bool false, .bool false, .bool false, .bool false, .bool false, .bool false, .bool false, .bool false, .bool false, .bool false, .bool false, .bool false, .bool false, .bool false, .bool false, .bool false, .bool false, .bool false, .bool false, .bool false, .bool false, .bool false, .bool false, .bool false, .bool false, .bool false, .bool false, .bool false, .bool false, .bool false, .bool false, .bool false, .bool false, .bool false, .bool false, .bool false, .bool false, .bool false, .bool false, .bool false, .bool false, .bool false, .bool false, .bool false, .bool false, .bool false, .bool false, .bool false, .bool false, .bool false, .bool false, .bool false, .bool false, .bool false, .bool false, .bool false, .bool false, .bool false, .bool false, .bool false, .bool false]) [],
qo (.store 256) [.loc 0, .loc 2],
ql 2] [(4, 2), (5, 0)])
(.seq (.region [qe 5] [(13, 0)])
(.cond (.env 13) (.seq (.seq (.region [qi 0] [(6, 0)])
(.block 0 (.loop (.seq (.seq (.region [qe 6,
qe 0,
qln true 0,
qo (.bin .lss) [.loc 2, .loc 0]] [(14, 0)])
(.cond (.env 14) (.skip) (.exit 0)))
(.seq (.block 1 (.seq (.region [qe 0,
qe 6,
qo .index [.loc 1, .loc 0],
qo (.call 136) [.env 4, .loc 0]] [(15, 0)])
(.cond (.env 15) (.seq (.region [qe 6,
ql 0] [(2, 0)])
(.ret)) (.skip))))
(.region [qe 6,
qo (.bin .add) [.loc 0, .const (.int .i64 1)],
ql 0] [(6, 0)]))))))
(.seq (.region [qi (-1)] [(2, 0)])
(.ret))) (.skip)))) (.skip)))
(.seq (.seq (.region [qe 0,
qo .rngs [.loc 0]] [(16, 0)])
(.block 2 (.loop (.seq (.region [qo .nexts [.env 16],
qx 0 0] [(17, 1), (18, 0)])
(.seq (.cond (.env 18) (.skip) (.exit 2))
(.block 3 (.seq (.region [qo (.extract 1) [.env 17],
qo (.extract 2) [.env 17],
ql 1,
ql 1] [(7, 1), (8, 0)])
(.seq (.region [qe 1,
qe 8,
qkk 113 1 0,
qo (.bin .geq) [.loc 0, .const (.int .i64 0)]] [(19, 0)])
(.cond (.env 19) (.seq (.region [qe 7,
ql 0] [(2, 0)])
(.ret)) (.skip))))))))))
(.seq (.region [qi (-1)] [(2, 0)])
(.ret)))))),
[.tmp 2]⟩
theorem F96_low : lowFn Tryz.prog (KD [] []) [0, 1, 4, 5, 6, 7, 8, 9, 10, 12, 15, 20, 26, 32, 36, 42, 45, 46, 47, 53] Tryz.f96 = some F96 := by as_aux_lemma => kernel_rfl
def F97 : LFunc := ⟨[0, 1, 4, 5, 9], 2,
.seq (.region [qo .mv [.const (.str ⟨#[]⟩)],
qbb false] [(2, 1), (3, 0)])
(.seq (.seq (.region [qe 0,
qe 1,
qkk 127 1 0,
qo (.un .not) [.loc 0]] [(4, 0)])
(.cond (.env 4) (.seq (.region [qe 0,
ql 0,
qbb false] [(2, 1), (3, 0)])
(.ret)) (.skip)))
(.seq (.region [qe 0,
qe 1,
qln true 0,
qo (.slice true 0 true false false) [.loc 2, .loc 0],
ql 0,
qbb true] [(2, 1), (3, 0)])
(.ret))),
[.tmp 2, .tmp 3]⟩
theorem F97_low : lowFn Tryz.prog (KD [] []) [0, 1, 4, 5, 9] Tryz.f97 = some F97 := by as_aux_lemma => kernel_rfl
def F98 : LFunc := ⟨[0, 1, 4, 5, 6, 7, 12], 2,
.seq (.region [qo .mv [.const (.str ⟨#[]⟩)],
qo .mv [.const (.str ⟨#[]⟩)],
qbb false] [(2, 2), (3, 1), (4, 0)])
(.seq (.seq (.region [qe 0,
qe 1,
qkk 116 1 0,
ql 0] [(5, 0)])
(.seq (.region [qe 5,
qo (.bin .geq) [.loc 0, .const (.int .i64 0)]] [(6, 0)])
(.cond (.env 6) (.seq (.drawn [qe 0,
qw .mv [.env 5] 0 1,
qw (.slice true 0 false true false) [.loc 1, .loc 0] 3 2,
qw .mv [.env 0] 0 3,
qw .mv [.env 5] 0 4,
qw .mv [.env 1] 0 5,
qw (.len true) [.loc 0] 32 6,
qw (.bin .add) [.loc 2, .loc 0] 112 7,
qw (.slice true 0 true false false) [.loc 4, .loc 0] 248 8,
qw .mv [.loc 6] 7 9,
qw .mv [.loc 1] 1023 10,
qw .mv [.const (.bool true)] 2047 11] [(2, 2), (3, 1), (4, 0)] [])
(.ret)) (.skip))))
(.seq (.region [qe 0,
ql 0,
qo .mv [.const (.str ⟨#[]⟩)],
qbb false] [(2, 2), (3, 1), (4, 0)])
(.ret))),
[.tmp 2, .tmp 3, .tmp 4]⟩
theorem F98_low : lowFn Tryz.prog (KD [] []) [0, 1, 4, 5, 6, 7, 12] Tryz.f98 = some F98 := by as_aux_lemma => kernel_rfl
def F99 : LFunc := ⟨[0, 1, 4, 13], 2,
.seq (.region [qo .mv [.const (.str ⟨#[]⟩)]] [(2, 0)])
(.seq (.block 0 (.loop (.seq (.seq (.region [qe 0,
qln true 0,
qo (.bin .gtr) [.loc 0, .const (.int .i64 0)],
ql 0,
qg .mv [.env 0] 0 true,
qg .index [.loc 0, .const (.int .i64 0)] 1 true,
qg .mv [.env 1] 2 true,
qg (.bin .eql) [.loc 1, .loc 0] 3 true,
qpf 4 0] [(3, 0)])
(.cond (.env 3) (.skip) (.exit 0)))
(.block 1 (.region [qe 0,
qo (.slice true 0 true false false) [.loc 0, .const (.int .i64 1)],
ql 0] [(0, 0)])))))
(.seq (.region [qe 0,
ql 0] [(2, 0)])
(.ret))),
[.tmp 2]⟩
theorem F99_low : lowFn Tryz.prog (KD [] []) [0, 1, 4, 13] Tryz.f99 = some F99 := by as_aux_lemma => kernel_rfl
def F100 : LFunc := ⟨[0, 2, 3, 4, 5, 9, 16], 1,
.seq (.region [qo (.alloc 158 [.bool false, .bool false, .bool false, .bool false, .bool false, .bool false, .bool false, .bool false, .bool false, .bool false, .bool false, .bool false, .bool false, .bool false, .bool false, .bool false, .bool false, .bool false, .bool false, .bool false, .bool false, .bool false, .bool false, .bool false, .bool false, .bool false, .bool false, .bool false, .bool false, .bool false, .bool false, .bool false, .bool false, .bool false, .bool false, .bool false, .bool false, .bool false, .bool false, .bool false, .bool false, .bool false, .bool false, .bool false, .bool false, .bool false, .bool false, .bool false, .bool false, .bool false, .bool false, .bool false, .bool false, .bool false, .bool false, .bool false, .bool false, .bool false, .bool false, .bool false, .bool false, .bool false, .bool false, .bool false, .bool false, .bool false, .bool false, .bool false, .bool false, .bool false, .bool false, .bool false, .bool false, .bool false, .bool false, .bool false, .bool false, .bool false, .bool false, .bool false, .bool false, .bool false, .bool false, .bool false, .bool false, .bool false, .bool false, .bool false, .bool false, .bool false, .bool false, .bool false, .bool false, .bool false, .bool false, .bool false, .bool false, .bool false, .bool false, .bool false, .bool false, .bool false, .bool false, .bool false, .bool false, .bool false, .bool false, .bool false, .bool false, .bool false, .bool false, .bool false, .bool false, .bool false, .bool false, .bool false, .bool false, .bool false, .bool false, .bool false, .bool false, .bool false, .bool false, .bool false, .bool false, .bool false, .bool false, .bool false, .bool false, .bool false, .bool false, .bool false, .bool false, .bool false, .bool false, .bool false, .bool false, .bool false, .bool false, .bool false, .bool false, .bool false, .bool false, .bool false, .bool false, .bool false, .bool false, .bool false, .bool false, .bool false, .bool false, .bool false, .bool false, .bool false, .bool false, .bool false, .bool false, .bool false, .bool false, .bool false, .bool false, .bool false, .bool false, .bool false, .bool false, .bool false, .bool false, .bool false, .bool false, .bool false, .bool false, .bool false, .bool false, .bool false, .bool false, .bool false, .bool false, .bool false, .bool false, .bool false, .bool false, .bool false, .bool false, .bool false, .bool false, .bool false, .bool false, .bool false, .bool false, .bool false, .bool false, .bool false, .bool false, .bool false, .bool false, .bool false, .bool false, .bool false, .bool false, .bool false, .bool false, .bool false, .bool false, .bool false, .bool false, .bool false, .bool false, .bool false, .bool false, .bool false, .bool false, .bool false, .bool false, .bool false, .bool false, .bool false, .bool false, .bool false, .bool false, .bool false, .bool false, .bool false, .bool false, .bool false, .bool false, .bool false, .bool false, .bool false, .bool false, .bool false, .bool false, .bool false, .bool false, .bool false, .bool false, .bool false, .bool false, .bool false, .bool false, .bool false, .bool false, .bool false, .bool false, .bool false, .bool false, .bool false, .bool false, .bool false, .bool false, .bool false, .bool false, .bool false, .bool false, .bool false, .bool false, .bool false]) [],
qbb false] [(1, 1), (2, 0)])
(.seq (.seq (.region [qi 0] [(3, 0)])
(.block 0 (.loop (.seq (.seq (.region [qe 3,
qe 0,
qln true 0,
qo (.bin .lss) [.loc 2, .loc 0]] [(5, 0)])
(.cond (.env 5) (.skip) (.exit 0)))
(.seq (.block 1 (.seq (.region [qe 0,
qe 3,
qo .index [.loc 1, .loc 0],
ql 0] [(4, 0)])
(.seq (.seq (.region [qe 4,
qo (.bin .geq) [.loc 0, .const (.int .u8 128)]] [(6, 0)])
(.cond (.env 6) (.seq (.region [qo (.load 256 true) [.env 1],
qo (.store 256) [.env 1, .loc 0],
qbb false] [(2, 0)])
(.ret)) (.skip)))
(.region [qe 4,
qo (.aaddr 1 256) [.env 1, .loc 0],
qo (.store 1) [.loc 0, .const (.bool true)]] []))))
(.region [qe 3,
qo (.bin .add) [.loc 0, .const (.int .i64 1)],
ql 0] [(3, 0)]))))))
(.seq (.region [qo (.load 256 true) [.env 1],
qo (.store 256) [.env 1, .loc 0],
qbb true] [(2, 0)])
(.ret))),
[.cell 1 256 true, .tmp 2]⟩
theorem F100_low : lowFn Tryz.prog (KD [] []) [0, 2, 3, 4, 5, 9, 16] Tryz.f100 = some F100 := by as_aux_lemma => kernel_rfl
def F101 : LFunc := ⟨[0, 1, 4, 7, 12], 2,
.seq (.region [qo .mv [.const (.str ⟨#[]⟩)]] [(2, 0)])
(.seq (.block 0 (.loop (.seq (.seq (.region [qe 0,
qln true 0,
qo (.bin .gtr) [.loc 0, .const (.int .i64 0)]] [(3, 0)])
(.cond (.env 3) (.skip) (.exit 0)))
(.block 1 (.seq (.seq (.region [qe 1,
qe 0,
qo .index [.loc 0, .const (.int .i64 0)],
qkk 136 2 0,
qo (.un .not) [.loc 0]] [(4, 0)])
(.cond (.env 4) (.exit 0) (.skip)))
(.region [qe 0,
qo (.slice true 0 true false false) [.loc 0, .const (.int .i64 1)],
ql 0] [(0, 0)]))))))
(.seq (.region [qe 0,
ql 0] [(2, 0)])
(.ret))),
[.tmp 2]⟩
theorem F101_low : lowFn Tryz.prog (KD [] []) [0, 1, 4, 7, 12] Tryz.f101 = some F101 := by as_aux_lemma => kernel_rfl
def F105 : LFunc := ⟨[0, 1, 4, 7, 15], 2,
.seq (.region [qo .mv [.const (.str ⟨#[]⟩)]] [(2, 0)])
(.seq (.block 0 (.loop (.seq (.seq (.region [qe 0,
qln true 0,
qo (.bin .gtr) [.loc 0, .const (.int .i64 0)]] [(3, 0)])
(.cond (.env 3) (.skip) (.exit 0)))
(.block 1 (.seq (.seq (.region [qe 1,
qe 0,
qe 0,
qln true 0,
qo (.bin .sub) [.loc 0, .const (.int .i64 1)],
qo .index [.loc 3, .loc 0],
qkk 136 5 0,
qo (.un .not) [.loc 0]] [(4, 0)])
(.cond (.env 4) (.exit 0) (.skip)))
(.region [qe 0,
qe 0,
qln true 0,
qo (.bin .sub) [.loc 0, .const (.int .i64 1)],
qo (.slice true 0 false true false) [.loc 3, .loc 0],
ql 0] [(0, 0)]))))))
(.seq (.region [qe 0,
ql 0] [(2, 0)])
(.ret))),
[.tmp 2]⟩
theorem F105_low : lowFn Tryz.prog (KD [] []) [0, 1, 4, 7, 15] Tryz.f105 = some F105 := by as_aux_lemma => kernel_rfl
def F113 : LFunc := ⟨[0, 1, 4, 5, 6, 7, 8, 9, 10, 11, 12, 13, 14, 15, 16, 26, 33, 43, 51, 64, 98, 108, 124, 139, 143, 156, 160, 171, 175, 176, 177, 181, 183], 2,
.seq (.region [qi 0] [(2, 0)])
(.block 0 (.seq (.region [qe 1,
qo (.bin .leq) [.const (.int .i32 0), .loc 0],
ql 0,
qg .mv [.env 1] 0 true,
qg (.bin .lss) [.loc 0, .const (.int .i32 128)] 1 true,
qpf 2 0,
ql 0] [(26, 0)])
(.cond (.env 26) (.seq (.region [qe 0,
qe 1,
qo (.conv .u8) [.loc 0],
qkk 91 2 0,
ql 0] [(2, 0)])
(.ret)) (.seq (.region [qe 1,
qo (.bin .eql) [.loc 0, .const (.int .i32 65533)],
ql 0] [(27, 0)])
(.cond (.env 27) (.seq (.seq (.region [qe 0,
qo .rngs [.loc 0]] [(28, 0)])
(.block 9 (.loop (.seq (.region [qo .nexts [.env 28],
qx 0 0] [(29, 1), (30, 0)])
(.seq (.cond (.env 30) (.skip) (.exit 9))
(.block 10 (.seq (.region [qo (.extract 1) [.env 29],
qo (.extract 2) [.env 29],
ql 1,
ql 1] [(3, 1), (4, 0)])
(.seq (.region [qe 4,
qo (.bin .eql) [.loc 0, .const (.int .i32 65533)]] [(31, 0)])
(.cond (.env 31) (.seq (.region [qe 3,
ql 0] [(2, 0)])
(.ret)) (.skip))))))))))
(.seq (.region [qi (-1)] [(2, 0)])
(.ret))) (.seq (.region [qe 1,
qk 141 0,
qo (.un .not) [.loc 0],
ql 0] [(32, 0)])
(.cond (.env 32) (.seq (.region [qi (-1)] [(2, 0)])
(.ret)) (.seq (.region [qe 1,
qo .fail [],
ql 0] [(5, 0)])
(.seq (.region [qe 5,
qln true 0,
qo (.bin .sub) [.loc 0, .const (.int .i64 1)],
ql 0] [(6, 0)])
(.seq (.region [qe 6,
ql 0] [(7, 0)])
(.seq (.region [qi 0] [(8, 0)])
(.seq (.block 1 (.loop (.seq (.seq (.region [qe 7,
qe 0,
qln true 0,
qo (.bin .lss) [.loc 2, .loc 0]] [(15, 0)])
(.cond (.env 15) (.skip) (.exit 1)))
(.block 2 (.seq (.seq (.drawn [qe 0,
qw .mv [.env 7] 0 1,
qw .index [.loc 1, .loc 0] 3 2,
qw .mv [.env 5] 0 3,
qw .mv [.env 6] 0 4,
qw .index [.loc 1, .loc 0] 24 5,
qw (.bin .neq) [.loc 3, .loc 0] 63 6] [(16, 0)] [])
(.cond (.env 16) (.seq (.drawn [qe 0,
qw .mv [.env 7] 0 1,
qw (.bin .add) [.loc 0, .const (.int .i64 1)] 2 2,
qw (.slice true 0 true false false) [.loc 2, .loc 0] 7 3,
qw .mv [.env 5] 0 4,
qw .mv [.env 6] 0 5,
qw .index [.loc 1, .loc 0] 48 6,
qw (.call 91) [.loc 3, .loc 0] 127 7,
qw .mv [.loc 0] 255 8] [(9, 0)] [])
(.seq (.seq (.region [qe 9,
qo (.bin .lss) [.loc 0, .const (.int .i64 0)]] [(17, 0)])
(.cond (.env 17) (.seq (.region [qi (-1)] [(2, 0)])
(.ret)) (.skip)))
(.region [qe 7,
qe 9,
qo (.bin .add) [.loc 0, .const (.int .i64 1)],
qo (.bin .add) [.loc 2, .loc 0],
ql 0] [(7, 0)]))) (.skip)))
(.seq (.seq (.region [qi 1] [(10, 0)])
(.block 3 (.loop (.seq (.seq (.region [qe 10,
qe 5,
qln true 0,
qo (.bin .lss) [.loc 2, .loc 0]] [(18, 0)])
(.cond (.env 18) (.skip) (.exit 3)))
(.seq (.block 4 (.seq (.drawn [qe 0,
qw .mv [.env 7] 0 1,
qw .mv [.env 10] 0 2,
qw (.bin .sub) [.loc 1, .loc 0] 6 3,
qw .index [.loc 3, .loc 0] 15 4,
qw .mv [.env 5] 0 5,
qw .mv [.env 6] 0 6,
qw .mv [.env 10] 0 7,
qw (.bin .sub) [.loc 1, .loc 0] 192 8,
qw .index [.loc 3, .loc 0] 480 9,
qw (.bin .neq) [.loc 5, .loc 0] 1023 10] [(19, 0)] [])
(.cond (.env 19) (.fail) (.skip))))
(.region [qe 10,
qo (.bin .add) [.loc 0, .const (.int .i64 1)],
ql 0] [(10, 0)]))))))
(.seq (.seq (.region [qe 7,
qe 6,
qo (.bin .sub) [.loc 1, .loc 0],
ql 0] [(2, 0)])
(.ret))
(.seq (.skip)
(.seq (.region [qe 8,
qo (.bin .add) [.loc 0, .const (.int .i64 1)],
ql 0] [(8, 0)])
(.seq (.region [qe 7,
qo (.bin .add) [.loc 0, .const (.int .i64 1)],
ql 0] [(7, 0)])
(.seq (.region [qbb true,
qg .mv [.env 8] 0 true,
qg .mv [.env 7] 1 true,
qg (.call 142) [.loc 0] 2 true,
qg (.bin .gtr) [.loc 2, .loc 0] 3 true,
qpf 4 0,
ql 0,
qg .mv [.env 7] 0 true,
qg .mv [.env 0] 1 true,
qg (.len true) [.loc 0] 2 true,
qg (.bin .lss) [.loc 2, .loc 0] 3 true,
qpf 4 0,
ql 0,
qg .mv [.const (.bool false)] 0 false,
qg .mv [.env 8] 0 true,
qg .mv [.env 7] 1 true,
qg (.bin .shr) [.loc 0, .const (.int .u64 4)] 2 true,
qg (.bin .add) [.const (.int .i64 4), .loc 0] 3 true,
qg (.bin .geq) [.loc 3, .loc 0] 4 true,
qg .pick [.loc 5, .loc 0, .const (.bool false)] 6 false,
qg .mv [.loc 0] 7 false,
qg .mv [.env 7] 0 true,
qg .mv [.env 0] 1 true,
qg (.len true) [.loc 0] 2 true,
qg (.bin .lss) [.loc 2, .loc 0] 3 true,
qg .pick [.loc 4, .loc 0, .const (.bool false)] 12 false,
qpt 13 0] [(20, 0)])
(.cond (.env 20) (.fail) (.skip)))))))))))))
(.seq (.seq (.region [qi (-1)] [(2, 0)])
(.ret))
(.seq (.skip)
(.seq (.cond (.const (.bool true)) (.seq (.region [qe 0,
qe 7,
qe 6,
qo (.bin .sub) [.loc 1, .loc 0],
qo (.slice true 0 true false false) [.loc 3, .loc 0],
qe 1,
qo .fail [],
qo .fail [],
ql 0] [(11, 0)])
(.seq (.region [qe 11,
qo (.bin .geq) [.loc 0, .const (.int .i64 0)]] [(21, 0)])
(.cond (.env 21) (.seq (.region [qe 7,
qe 11,
qo (.bin .add) [.loc 1, .loc 0],
qe 6,
qo (.bin .sub) [.loc 1, .loc 0],
ql 0] [(2, 0)])
(.ret)) (.skip)))) (.seq (.region [qe 5,
qe 6,
qo .index [.loc 1, .loc 0],
ql 0] [(12, 0)])
(.seq (.region [qe 5,
qe 6,
qo (.bin .sub) [.loc 0, .const (.int .i64 1)],
qo .index [.loc 2, .loc 0],
ql 0] [(13, 0)])
(.seq (.skip)
(.block 5 (.loop (.seq (.seq (.region [qe 7,
qe 0,
qln true 0,
qo (.bin .lss) [.loc 2, .loc 0]] [(22, 0)])
(.cond (.env 22) (.skip) (.exit 5)))
(.seq (.block 6 (.seq (.region [qe 0,
qe 7,
qo .index [.loc 1, .loc 0],
qe 12,
qo (.bin .eql) [.loc 1, .loc 0],
ql 0,
qg .mv [.env 0] 0 true,
qg .mv [.env 7] 1 true,
qg (.bin .sub) [.loc 0, .const (.int .i64 1)] 2 true,
qg .index [.loc 2, .loc 0] 3 true,
qg .mv [.env 13] 4 true,
qg (.bin .eql) [.loc 1, .loc 0] 5 true,
qpf 6 0] [(23, 0)])
(.cond (.env 23) (.seq (.seq (.region [qi 2] [(14, 0)])
(.block 7 (.loop (.seq (.seq (.region [qe 14,
qe 5,
qln true 0,
qo (.bin .lss) [.loc 2, .loc 0]] [(24, 0)])
(.cond (.env 24) (.skip) (.exit 7)))
(.seq (.block 8 (.seq (.drawn [qe 0,
qw .mv [.env 7] 0 1,
qw .mv [.env 14] 0 2,
qw (.bin .sub) [.loc 1, .loc 0] 6 3,
qw .index [.loc 3, .loc 0] 15 4,
qw .mv [.env 5] 0 5,
qw .mv [.env 6] 0 6,
qw .mv [.env 14] 0 7,
qw (.bin .sub) [.loc 1, .loc 0] 192 8,
qw .index [.loc 3, .loc 0] 480 9,
qw (.bin .neq) [.loc 5, .loc 0] 1023 10] [(25, 0)] [])
(.cond (.env 25) (.exit 6) (.skip))))
(.region [qe 14,
qo (.bin .add) [.loc 0, .const (.int .i64 1)],
ql 0] [(14, 0)]))))))
(.seq (.region [qe 7,
qe 6,
qo (.bin .sub) [.loc 1, .loc 0],
ql 0] [(2, 0)])
(.ret))) (.skip))))
(.region [qe 7,
qo (.bin .add) [.loc 0, .const (.int .i64 1)],
ql 0] [(7, 0)])))))))))
(.seq (.region [qi (-1)] [(2, 0)])
(.ret))))))))))))))))),
[.tmp 2]⟩
theorem F113_low : lowFn Tryz.prog (KD [] []) [0, 1, 4, 5, 6, 7, 8, 9, 10, 11, 12, 13, 14, 15, 16, 26, 33, 43, 51, 64, 98, 108, 124, 139, 143, 156, 160, 171, 175, 176, 177, 181, 183] Tryz.f113 = some F113 := by as_aux_lemma => kernel_rfl
def F116 : LFunc := ⟨[0, 1, 4, 5, 6, 7, 8, 9, 10, 11, 12, 13, 16, 24, 31, 36, 59, 64, 73, 93, 107, 114, 132, 139], 2,
.seq (.region [qi 0] [(2, 0)])
(.seq (.region [qe 1,
qln true 0,
ql 0] [(3, 0)])
(.seq (.block 0 (.seq (.region [qe 3,
qo (.bin .eql) [.loc 0, .const (.int .i64 0)],
ql 0,
qg .mv [.env 1] 0 false,
qg .mv [.env 0] 1 false,
qg (.bin .eql) [.loc 1, .loc 0] 2 false,
qpt 3 0,
ql 0] [(12, 0)])
(.cond (.env 12) (.seq (.region [qi 0] [(2, 0)])
(.ret)) (.seq (.region [qe 3,
qo (.bin .eql) [.loc 0, .const (.int .i64 1)],
ql 0] [(13, 0)])
(.cond (.env 13) (.seq (.region [qe 0,
qe 1,
qo .index [.loc 0, .const (.int .i64 0)],
qkk 130 2 0,
ql 0] [(2, 0)])
(.ret)) (.seq (.region [qe 3,
qe 0,
qln true 0,
qo (.bin .geq) [.loc 2, .loc 0],
ql 0] [(14, 0)])
(.cond (.env 14) (.seq (.region [qi (-1)] [(2, 0)])
(.ret)) (.seq (.region [qe 3,
qo (.load 1 false) [.const (.undef)],
qo (.bin .leq) [.loc 1, .loc 0],
ql 0,
qg .mv [.env 0] 0 true,
qg (.len true) [.loc 0] 1 true,
qg (.bin .leq) [.loc 0, .const (.int .i64 64)] 2 true,
qpf 3 0,
ql 0] [(15, 0)])
(.cond (.env 15) (.seq (.region [qe 0,
qe 1,
qo .fail [],
ql 0] [(2, 0)])
(.ret)) (.skip))))))))))
(.seq (.region [qe 1,
qo .index [.loc 0, .const (.int .i64 0)],
ql 0] [(4, 0)])
(.seq (.region [qe 1,
qo .index [.loc 0, .const (.int .i64 1)],
ql 0] [(5, 0)])
(.seq (.region [qi 0] [(6, 0)])
(.seq (.region [qe 0,
qln true 0,
qe 3,
qo (.bin .sub) [.loc 1, .loc 0],
qo (.bin .add) [.loc 0, .const (.int .i64 1)],
ql 0] [(7, 0)])
(.seq (.region [qi 0] [(8, 0)])
(.seq (.block 1 (.loop (.seq (.seq (.region [qe 6,
qe 7,
qo (.bin .lss) [.loc 1, .loc 0]] [(16, 0)])
(.cond (.env 16) (.skip) (.exit 1)))
(.block 2 (.seq (.seq (.region [qe 0,
qe 6,
qo .index [.loc 1, .loc 0],
qe 4,
qo (.bin .neq) [.loc 1, .loc 0]] [(17, 0)])
(.cond (.env 17) (.seq (.region [qe 0,
qe 6,
qo (.bin .add) [.loc 0, .const (.int .i64 1)],
qe 7,
qo (.slice true 0 true true false) [.loc 3, .loc 1, .loc 0],
qe 4,
qkk 130 1 0,
ql 0] [(9, 0)])
(.seq (.seq (.region [qe 9,
qo (.bin .lss) [.loc 0, .const (.int .i64 0)]] [(18, 0)])
(.cond (.env 18) (.seq (.region [qi (-1)] [(2, 0)])
(.ret)) (.skip)))
(.region [qe 6,
qe 9,
qo (.bin .add) [.loc 0, .const (.int .i64 1)],
qo (.bin .add) [.loc 2, .loc 0],
ql 0] [(6, 0)]))) (.skip)))
(.seq (.seq (.region [qe 0,
qe 6,
qo (.bin .add) [.loc 0, .const (.int .i64 1)],
qo .index [.loc 2, .loc 0],
qe 5,
qo (.bin .eql) [.loc 1, .loc 0],
ql 0,
qg .mv [.env 0] 0 true,
qg .mv [.env 6] 1 true,
qg .mv [.env 6] 2 true,
qg .mv [.env 3] 3 true,
qg (.bin .add) [.loc 1, .loc 0] 4 true,
qg (.slice true 0 true true false) [.loc 4, .loc 3, .loc 0] 5 true,
qg .mv [.env 1] 6 true,
qg (.bin .eql) [.loc 1, .loc 0] 7 true,
qpf 8 0] [(19, 0)])
(.cond (.env 19) (.seq (.region [qe 6,
ql 0] [(2, 0)])
(.ret)) (.skip)))
(.seq (.region [qe 6,
qo (.bin .add) [.loc 0, .const (.int .i64 1)],
ql 0] [(6, 0)])
(.seq (.region [qe 8,
qo (.bin .add) [.loc 0, .const (.int .i64 1)],
ql 0] [(8, 0)])
(.seq (.region [qe 3,
qo (.load 1 false) [.const (.undef)],
qo (.bin .leq) [.loc 1, .loc 0],
ql 0,
qg .mv [.env 8] 0 true,
qg .mv [.env 6] 1 true,
qg (.call 142) [.loc 0] 2 true,
qg (.bin .gtr) [.loc 2, .loc 0] 3 true,
qpf 4 0] [(20, 0)])
(.cond (.env 20) (.seq (.region [qe 0,
qe 6,
qo (.slice true 0 true false false) [.loc 1, .loc 0],
qe 1,
qo .fail [],
ql 0] [(10, 0)])
(.seq (.seq (.region [qe 10,
qo (.bin .geq) [.loc 0, .const (.int .i64 0)]] [(21, 0)])
(.cond (.env 21) (.seq (.region [qe 10,
qe 6,
qo (.bin .add) [.loc 1, .loc 0],
ql 0] [(2, 0)])
(.ret)) (.skip)))
(.seq (.region [qi (-1)] [(2, 0)])
(.ret)))) (.seq (.region [qe 3,
qo (.load 1 false) [.const (.undef)],
qo (.bin .gtr) [.loc 1, .loc 0],
ql 0,
qg .mv [.env 8] 0 true,
qg .mv [.env 6] 1 true,
qg (.bin .shr) [.loc 0, .const (.int .u64 4)] 2 true,
qg (.bin .add) [.const (.int .i64 4), .loc 0] 3 true,
qg (.bin .geq) [.loc 3, .loc 0] 4 true,
qpf 5 0,
ql 0,
qg .mv [.env 6] 0 true,
qg .mv [.env 7] 1 true,
qg (.bin .lss) [.loc 1, .loc 0] 2 true,
qpf 3 0] [(22, 0)])
(.cond (.env 22) (.seq (.region [qe 0,
qe 6,
qo (.slice true 0 true false false) [.loc 1, .loc 0],
qe 1,
qkk 144 1 0,
ql 0] [(11, 0)])
(.seq (.seq (.region [qe 11,
qo (.bin .lss) [.loc 0, .const (.int .i64 0)]] [(23, 0)])
(.cond (.env 23) (.seq (.region [qi (-1)] [(2, 0)])
(.ret)) (.skip)))
(.seq (.region [qe 6,
qe 11,
qo (.bin .add) [.loc 1, .loc 0],
ql 0] [(2, 0)])
(.ret)))) (.skip)))))))))))))
(.seq (.region [qi (-1)] [(2, 0)])
(.ret)))))))))),
[.tmp 2]⟩
theorem F116_low : lowFn Tryz.prog (KD [] []) [0, 1, 4, 5, 6, 7, 8, 9, 10, 11, 12, 13, 16, 24, 31, 36, 59, 64, 73, 93, 107, 114, 132, 139] Tryz.f116 = some F116 := by as_aux_lemma => kernel_rfl
def F117 : LFunc := ⟨[0, 1, 2, 3, 4, 5, 6, 7, 14, 18, 23, 46, 50, 56, 83, 119], 1,
.seq (.region [qo (.box 51 11) [.env 0],
qi 0] [(1, 1), (2, 0)])
(.seq (.region [qo (.load 11 true) [.env 1],
qk 145 0,
ql 0,
qx 0 0,
qx 1 1,
ql 1,
ql 1] [(3, 1), (4, 0)])
(.seq (.seq (.region [qe 4,
qo (.bin .neq) [.loc 0, .const (.int .i64 0)]] [(8, 0)])
(.cond (.env 8) (.seq (.region [qe 4,
ql 0] [(2, 0)])
(.ret)) (.skip)))
(.seq (.seq (.region [qfe 0 1,
qd 1 0,
qo (.bin .eql) [.loc 0, .const (.int .u8 0)]] [(9, 0)])
(.cond (.env 9) (.seq (.seq (.region [qo (.load 11 true) [.env 1],
qfe 10 1,
qd 1 0,
qo (.build [.int .u8 0, .int .u8 0, .str ⟨#[]⟩, .int .i64 0, .int .i64 0, .bool false, .bool false, .bool false, .bool false, .bool false, .int .i64 0] [(10, 1)]) [.loc 0],
qo (.eqs true [0, 0, 1, 0, 0, 2, 2, 2, 2, 2, 0]) [.loc 3, .loc 0]] [(10, 0)])
(.cond (.env 10) (.seq (.region [qi 1] [(2, 0)])
(.ret)) (.skip)))
(.seq (.region [qi 0] [(2, 0)])
(.ret))) (.skip)))
(.seq (.region [qfe 2 1,
qd 1 0,
qk 18 0,
ql 0,
qx 0 0,
qx 1 1,
qo (.alloc 51 [.int .u8 0, .int .u8 0, .str ⟨#[]⟩, .int .i64 0, .int .i64 0, .bool false, .bool false, .bool false, .bool false, .bool false, .int .i64 0]) [],
qo (.store 11) [.loc 0, .loc 2],
ql 2] [(4, 0), (5, 2)])
(.seq (.region [qfe 0 1,
qd 1 0,
qo (.bin .eql) [.loc 0, .const (.int .u8 4)],
ql 0,
qg (.faddr 1) [.env 1] 0 true,
qg (.load 1 false) [.loc 0] 1 true,
qg (.bin .eql) [.loc 0, .const (.int .u8 0)] 2 true,
qpf 3 0,
ql 0] [(6, 0)])
(.seq (.region [qfe 0 1,
qd 1 0,
qo (.bin .eql) [.loc 0, .const (.int .u8 1)],
ql 0,
qg (.faddr 0) [.env 1] 0 false,
qg (.load 1 false) [.loc 0] 1 false,
qg (.bin .eql) [.loc 0, .const (.int .u8 2)] 2 false,
qpt 3 0,
ql 0] [(7, 0)])
(.seq (.block 0 (.seq (.region [qe 4,
qo (.bin .neq) [.loc 0, .const (.int .i64 0)],
ql 0] [(11, 0)])
(.cond (.env 11) (.seq (.region [qe 4,
ql 0] [(2, 0)])
(.ret)) (.seq (.region [qfe 2 5,
qd 1 0,
qfe 2 1,
qd 1 0,
qo (.bin .neq) [.loc 2, .loc 0],
ql 0] [(12, 0)])
(.cond (.env 12) (.seq (.region [qi 4] [(2, 0)])
(.ret)) (.seq (.region [qfe 0 5,
qd 1 0,
qfe 0 1,
qd 1 0,
qo (.bin .neq) [.loc 2, .loc 0],
ql 0,
qg (.faddr 3) [.env 5] 0 false,
qg (.load 1 false) [.loc 0] 1 false,
qg (.faddr 3) [.env 1] 2 false,
qg (.load 1 false) [.loc 0] 3 false,
qg (.bin .neq) [.loc 2, .loc 0] 4 false,
qpt 5 0,
ql 0,
qg (.faddr 4) [.env 5] 0 false,
qg (.load 1 false) [.loc 0] 1 false,
qg (.faddr 4) [.env 1] 2 false,
qg (.load 1 false) [.loc 0] 3 false,
qg (.bin .neq) [.loc 2, .loc 0] 4 false,
qpt 5 0,
ql 0,
qg (.faddr 5) [.env 5] 0 false,
qg (.load 1 false) [.loc 0] 1 false,
qg (.faddr 5) [.env 1] 2 false,
qg (.load 1 false) [.loc 0] 3 false,
qg (.eqb true) [.loc 2, .loc 0] 4 false,
qpt 5 0,
ql 0] [(13, 0)])
(.cond (.env 13) (.seq (.region [qi 1] [(2, 0)])
(.ret)) (.seq (.seq (.region [qfe 1 1,
qd 1 0,
qo (.bin .neq) [.loc 0, .const (.int .u8 0)],
ql 0,
qg (.faddr 0) [.env 1] 0 true,
qg (.load 1 false) [.loc 0] 1 true,
qg (.bin .neq) [.loc 0, .const (.int .u8 4)] 2 true,
qpf 3 0,
ql 0] [(14, 0)])
(.cond (.env 14) (.skip) (.seq (.region [qfe 6 1,
qd 1 0,
ql 0,
qg (.faddr 7) [.env 1] 0 false,
qg (.load 1 false) [.loc 0] 1 false,
qpt 2 0,
ql 0,
qg .mv [.env 6] 0 true,
qg .mv [.loc 0] 1 true,
qg (.faddr 5) [.env 1] 0 true,
qg (.load 1 false) [.loc 0] 1 true,
qg .pick [.loc 2, .loc 0, .const (.bool false)] 4 true,
qg (.un .not) [.loc 0] 5 true,
qpf 6 0,
ql 0] [(14, 0)])
(.cond (.env 14) (.skip) (.seq (.region [qfe 8 1,
qd 1 0,
ql 0,
qg .mv [.env 7] 0 true,
qg (.un .not) [.loc 0] 1 true,
qpf 2 0,
ql 0] [(14, 0)])
(.cond (.env 14) (.skip) (.region [qfe 9 1,
qd 1 0,
ql 0,
qg (.faddr 0) [.env 1] 0 true,
qg (.load 1 false) [.loc 0] 1 true,
qg (.bin .neq) [.loc 0, .const (.int .u8 5)] 2 true,
qpf 3 0,
ql 0] [(14, 0)])))))))
(.cond (.env 14) (.seq (.region [qi 12] [(2, 0)])
(.ret)) (.seq (.region [qfe 10 1,
qd 1 0,
qe 3,
qo (.bin .neq) [.loc 1, .loc 0],
ql 0] [(15, 0)])
(.cond (.env 15) (.seq (.region [qi 5] [(2, 0)])
(.ret)) (.skip))))))))))))
(.seq (.region [qi 0] [(2, 0)])
(.ret))))))))),
[.tmp 2]⟩
theorem F117_low : lowFn Tryz.prog (KD [] []) [0, 1, 2, 3, 4, 5, 6, 7, 14, 18, 23, 46, 50, 56, 83, 119] Tryz.f117 = some F117 := by as_aux_lemma => kernel_rfl
def F118 : LFunc := ⟨[0, 1, 2, 3, 8, 9, 14, 34], 4,
.seq (.region [qe 1,
qo (.bin .add) [.loc 0, .const (.int .i64 1)],
ql 0] [(4, 0)])
(.block 0 (.loop (.seq (.seq (.region [qe 4,
qe 2,
qo (.bin .lss) [.loc 1, .loc 0]] [(6, 0)])
(.cond (.env 6) (.skip) (.exit 0)))
(.seq (.block 1 (.seq (.region [qe 4,
ql 0] [(5, 0)])
(.block 2 (.loop (.seq (.seq (.drawn [qe 5,
qw .mv [.env 1] 0 1,
qw (.bin .gtr) [.loc 1, .loc 0] 3 2,
qw .mv [.loc 0] 7 3,
qh .mv [.env 3] 0 true 15 4,
qh .mv [.env 0] 1 true 15 5,
qh .mv [.env 5] 2 true 15 6,
qh (.iaddr 1) [.loc 1, .loc 0] 3 true 111 7,
qh (.load 1 false) [.loc 0] 4 true 239 8,
qh .mv [.env 0] 5 true 15 9,
qh .mv [.env 5] 6 true 15 10,
qh (.bin .sub) [.loc 0, .const (.int .i64 1)] 7 true 1039 11,
qh (.iaddr 1) [.loc 2, .loc 0] 8 true 3599 12,
qh (.load 1 false) [.loc 0] 9 true 7695 13,
qh .callv [.loc 9, .loc 5, .loc 0] 10 true 16383 14,
qh (.bin .lss) [.loc 0, .const (.int .i64 0)] 11 true 32767 15,
qw .pick [.loc 12, .loc 0, .const (.bool false)] 65535 16] [(7, 0)] [])
(.cond (.env 7) (.skip) (.exit 2)))
(.seq (.block 3 (.drawn [qe 0,
qw .mv [.env 5] 0 1,
qw .mv [.env 0] 0 2,
qw .mv [.env 5] 0 3,
qw (.bin .sub) [.loc 0, .const (.int .i64 1)] 8 4,
qw .mv [.env 0] 0 5,
qw .mv [.env 5] 0 6,
qw (.bin .sub) [.loc 0, .const (.int .i64 1)] 64 7,
qw (.iaddr 1) [.loc 2, .loc 0] 224 8,
qw (.load 1 false) [.loc 0] 480 9,
qw .mv [.env 0] 0 10,
qw .mv [.env 5] 0 11,
qw (.iaddr 1) [.loc 1, .loc 0] 3072 12,
qw (.load 1 false) [.loc 0] 7168 13,
qw (.iaddr 1) [.loc 13, .loc 12] 16355 14,
qw (.store 1) [.loc 0, .loc 5] 32739 15,
qw (.iaddr 1) [.loc 13, .loc 11] 65535 16,
qw (.store 1) [.loc 0, .loc 3] 131071 17] [] []))
(.region [qe 5,
qo (.bin .sub) [.loc 0, .const (.int .i64 1)],
ql 0] [(5, 0)])))))))
(.region [qe 4,
qo (.bin .add) [.loc 0, .const (.int .i64 1)],
ql 0] [(4, 0)]))))),
[]⟩
theorem F118_low : lowFn Tryz.prog (KD [43] []) [0, 1, 2, 3, 8, 9, 14, 34] Tryz.f118 = some F118 := by as_aux_lemma => kernel_rfl
def F119 : LFunc := ⟨[0, 1, 2, 3, 4, 10, 11, 12, 13, 14, 15, 16, 17, 18, 19, 20, 21, 22, 23, 24, 28, 33, 50, 58, 80, 85, 103, 110, 140, 151, 171, 185, 199, 213], 5,
.seq (.seq (.region [qe 2,
qe 1,
qo (.bin .sub) [.loc 1, .loc 0],
qo (.bin .eql) [.loc 0, .const (.int .i64 1)]] [(20, 0)])
(.cond (.env 20) (.seq (.region [qe 2,
ql 0] [(5, 0)])
(.seq (.region [qe 3,
ql 0] [(6, 0)])
(.seq (.block 0 (.loop (.seq (.seq (.region [qe 5,
qe 6,
qo (.bin .lss) [.loc 1, .loc 0]] [(21, 0)])
(.cond (.env 21) (.skip) (.exit 0)))
(.block 1 (.seq (.region [qe 5,
qe 6,
qo (.bin .add) [.loc 1, .loc 0],
qo (.conv .u64) [.loc 0],
qo (.bin .shr) [.loc 0, .const (.int .u64 1)],
qo (.conv .i64) [.loc 0],
ql 0] [(7, 0)])
(.seq (.drawn [qe 4,
qw .mv [.env 0] 0 1,
qw .mv [.env 7] 0 2,
qw (.iaddr 1) [.loc 1, .loc 0] 6 3,
qw (.load 1 false) [.loc 0] 14 4,
qw .mv [.env 0] 0 5,
qw .mv [.env 1] 0 6,
qw (.iaddr 1) [.loc 1, .loc 0] 96 7,
qw (.load 1 false) [.loc 0] 224 8,
qw .callv [.loc 8, .loc 4, .loc 0] 511 9,
qw (.bin .lss) [.loc 0, .const (.int .i64 0)] 1023 10] [(22, 0)] [])
(.cond (.env 22) (.region [qe 7,
qo (.bin .add) [.loc 0, .const (.int .i64 1)],
ql 0] [(5, 0)]) (.region [qe 7,
ql 0] [(6, 0)]))))))))
(.seq (.seq (.region [qe 1,
ql 0] [(8, 0)])
(.block 2 (.loop (.seq (.seq (.region [qe 8,
qe 5,
qo (.bin .sub) [.loc 0, .const (.int .i64 1)],
qo (.bin .lss) [.loc 2, .loc 0]] [(23, 0)])
(.cond (.env 23) (.skip) (.exit 2)))
(.seq (.block 3 (.drawn [qe 0,
qw .mv [.env 8] 0 1,
qw .mv [.env 0] 0 2,
qw .mv [.env 8] 0 3,
qw (.bin .add) [.loc 0, .const (.int .i64 1)] 8 4,
qw .mv [.env 0] 0 5,
qw .mv [.env 8] 0 6,
qw (.bin .add) [.loc 0, .const (.int .i64 1)] 64 7,
qw (.iaddr 1) [.loc 2, .loc 0] 224 8,
qw (.load 1 false) [.loc 0] 480 9,
qw .mv [.env 0] 0 10,
qw .mv [.env 8] 0 11,
qw (.iaddr 1) [.loc 1, .loc 0] 3072 12,
qw (.load 1 false) [.loc 0] 7168 13,
qw (.iaddr 1) [.loc 13, .loc 12] 16355 14,
qw (.store 1) [.loc 0, .loc 5] 32739 15,
qw (.iaddr 1) [.loc 13, .loc 11] 65535 16,
qw (.store 1) [.loc 0, .loc 3] 131071 17] [] []))
(.region [qe 8,
qo (.bin .add) [.loc 0, .const (.int .i64 1)],
ql 0] [(8, 0)]))))))
(.ret))))) (.skip)))
(.seq (.seq (.region [qe 3,
qe 2,
qo (.bin .sub) [.loc 1, .loc 0],
qo (.bin .eql) [.loc 0, .const (.int .i64 1)]] [(24, 0)])
(.cond (.env 24) (.seq (.region [qe 1,
ql 0] [(9, 0)])
(.seq (.region [qe 2,
ql 0] [(10, 0)])
(.seq (.block 4 (.loop (.seq (.seq (.region [qe 9,
qe 10,
qo (.bin .lss) [.loc 1, .loc 0]] [(25, 0)])
(.cond (.env 25) (.skip) (.exit 4)))
(.block 5 (.seq (.region [qe 9,
qe 10,
qo (.bin .add) [.loc 1, .loc 0],
qo (.conv .u64) [.loc 0],
qo (.bin .shr) [.loc 0, .const (.int .u64 1)],
qo (.conv .i64) [.loc 0],
ql 0] [(11, 0)])
(.seq (.drawn [qe 4,
qw .mv [.env 0] 0 1,
qw .mv [.env 2] 0 2,
qw (.iaddr 1) [.loc 1, .loc 0] 6 3,
qw (.load 1 false) [.loc 0] 14 4,
qw .mv [.env 0] 0 5,
qw .mv [.env 11] 0 6,
qw (.iaddr 1) [.loc 1, .loc 0] 96 7,
qw (.load 1 false) [.loc 0] 224 8,
qw .callv [.loc 8, .loc 4, .loc 0] 511 9,
qw (.bin .lss) [.loc 0, .const (.int .i64 0)] 1023 10,
qw (.un .not) [.loc 0] 2047 11] [(26, 0)] [])
(.cond (.env 26) (.region [qe 11,
qo (.bin .add) [.loc 0, .const (.int .i64 1)],
ql 0] [(9, 0)]) (.region [qe 11,
ql 0] [(10, 0)]))))))))
(.seq (.seq (.region [qe 2,
ql 0] [(12, 0)])
(.block 6 (.loop (.seq (.seq (.region [qe 12,
qe 9,
qo (.bin .gtr) [.loc 1, .loc 0]] [(27, 0)])
(.cond (.env 27) (.skip) (.exit 6)))
(.seq (.block 7 (.drawn [qe 0,
qw .mv [.env 12] 0 1,
qw .mv [.env 0] 0 2,
qw .mv [.env 12] 0 3,
qw (.bin .sub) [.loc 0, .const (.int .i64 1)] 8 4,
qw .mv [.env 0] 0 5,
qw .mv [.env 12] 0 6,
qw (.bin .sub) [.loc 0, .const (.int .i64 1)] 64 7,
qw (.iaddr 1) [.loc 2, .loc 0] 224 8,
qw (.load 1 false) [.loc 0] 480 9,
qw .mv [.env 0] 0 10,
qw .mv [.env 12] 0 11,
qw (.iaddr 1) [.loc 1, .loc 0] 3072 12,
qw (.load 1 false) [.loc 0] 7168 13,
qw (.iaddr 1) [.loc 13, .loc 12] 16355 14,
qw (.store 1) [.loc 0, .loc 5] 32739 15,
qw (.iaddr 1) [.loc 13, .loc 11] 65535 16,
qw (.store 1) [.loc 0, .loc 3] 131071 17] [] []))
(.region [qe 12,
qo (.bin .sub) [.loc 0, .const (.int .i64 1)],
ql 0] [(12, 0)]))))))
(.ret))))) (.skip)))
(.seq (.region [qe 1,
qe 3,
qo (.bin .add) [.loc 1, .loc 0],
qo (.conv .u64) [.loc 0],
qo (.bin .shr) [.loc 0, .const (.int .u64 1)],
qo (.conv .i64) [.loc 0],
ql 0] [(13, 0)])
(.seq (.region [qe 13,
qe 2,
qo (.bin .add) [.loc 1, .loc 0],
ql 0] [(14, 0)])
(.seq (.region [qi 0,
qi 0] [(15, 1), (16, 0)])
(.seq (.seq (.region [qe 2,
qe 13,
qo (.bin .gtr) [.loc 1, .loc 0]] [(28, 0)])
(.cond (.env 28) (.seq (.region [qe 14,
qe 3,
qo (.bin .sub) [.loc 1, .loc 0],
ql 0] [(15, 0)])
(.region [qe 13,
ql 0] [(16, 0)])) (.seq (.region [qe 1,
ql 0] [(15, 0)])
(.region [qe 2,
ql 0] [(16, 0)]))))
(.seq (.region [qe 14,
qo (.bin .sub) [.loc 0, .const (.int .i64 1)],
ql 0] [(17, 0)])
(.seq (.block 8 (.loop (.seq (.seq (.region [qe 15,
qe 16,
qo (.bin .lss) [.loc 1, .loc 0]] [(29, 0)])
(.cond (.env 29) (.skip) (.exit 8)))
(.block 9 (.seq (.region [qe 15,
qe 16,
qo (.bin .add) [.loc 1, .loc 0],
qo (.conv .u64) [.loc 0],
qo (.bin .shr) [.loc 0, .const (.int .u64 1)],
qo (.conv .i64) [.loc 0],
ql 0] [(18, 0)])
(.seq (.drawn [qe 4,
qw .mv [.env 0] 0 1,
qw .mv [.env 17] 0 2,
qw .mv [.env 18] 0 3,
qw (.bin .sub) [.loc 1, .loc 0] 12 4,
qw (.iaddr 1) [.loc 3, .loc 0] 30 5,
qw (.load 1 false) [.loc 0] 62 6,
qw .mv [.env 0] 0 7,
qw .mv [.env 18] 0 8,
qw (.iaddr 1) [.loc 1, .loc 0] 384 9,
qw (.load 1 false) [.loc 0] 896 10,
qw .callv [.loc 10, .loc 4, .loc 0] 2047 11,
qw (.bin .lss) [.loc 0, .const (.int .i64 0)] 4095 12,
qw (.un .not) [.loc 0] 8191 13] [(30, 0)] [])
(.cond (.env 30) (.region [qe 18,
qo (.bin .add) [.loc 0, .const (.int .i64 1)],
ql 0] [(15, 0)]) (.region [qe 18,
ql 0] [(16, 0)]))))))))
(.seq (.region [qe 14,
qe 15,
qo (.bin .sub) [.loc 1, .loc 0],
ql 0] [(19, 0)])
(.seq (.seq (.region [qe 15,
qe 2,
qo (.bin .lss) [.loc 1, .loc 0],
ql 0,
qg .mv [.env 2] 0 true,
qg .mv [.env 19] 1 true,
qg (.bin .lss) [.loc 1, .loc 0] 2 true,
qpf 3 0] [(31, 0)])
(.cond (.env 31) (.region [qe 0,
qe 15,
qe 2,
qe 19,
qe 4,
qo (.call 146) [.loc 4, .loc 3, .loc 2, .loc 1, .loc 0]] []) (.skip)))
(.seq (.seq (.region [qe 1,
qe 15,
qo (.bin .lss) [.loc 1, .loc 0],
ql 0,
qg .mv [.env 15] 0 true,
qg .mv [.env 13] 1 true,
qg (.bin .lss) [.loc 1, .loc 0] 2 true,
qpf 3 0] [(32, 0)])
(.cond (.env 32) (.region [qe 0,
qe 1,
qe 15,
qe 13,
qe 4,
qo (.call 119) [.loc 4, .loc 3, .loc 2, .loc 1, .loc 0]] []) (.skip)))
(.seq (.region [qe 13,
qe 19,
qo (.bin .lss) [.loc 1, .loc 0],
ql 0,
qg .mv [.env 19] 0 true,
qg .mv [.env 3] 1 true,
qg (.bin .lss) [.loc 1, .loc 0] 2 true,
qpf 3 0] [(33, 0)])
(.cond (.env 33) (.region [qe 0,
qe 13,
qe 19,
qe 3,
qe 4,
qo (.call 119) [.loc 4, .loc 3, .loc 2, .loc 1, .loc 0]] []) (.skip))))))))))))),
[]⟩
theorem F119_low : lowFn Tryz.prog (KD [43] []) [0, 1, 2, 3, 4, 10, 11, 12, 13, 14, 15, 16, 17, 18, 19, 20, 21, 22, 23, 24, 28, 33, 50, 58, 80, 85, 103, 110, 140, 151, 171, 185, 199, 213] Tryz.f119 = some F119 := by as_aux_lemma => kernel_rfl
def F120 : LFunc := ⟨[0, 1, 2, 4], 1,
.seq (.region [qo (.box 51 11) [.env 0],
qo (.alloc 175 [.nilfn, .nilfn]) []] [(1, 1), (2, 0)])
(.seq (.seq (.region [qfe 7 1,
qd 1 0] [(3, 0)])
(.cond (.env 3) (.seq (.region [qo (.call 147) [],
qo (.mapget 0 (.agg [.nilfn, .nilfn]) false) [.loc 0, .const (.int .i64 3)],
qo (.store 2) [.env 2, .loc 0]] [])
(.ret)) (.skip)))
(.seq (.drawn [qo (.call 147) [],
qw (.faddr 1) [.env 1] 0 1,
qw (.load 1 false) [.loc 0] 2 2,
qw (.conv .i64) [.loc 0] 6 3,
qw (.mapget 0 (.agg [.nilfn, .nilfn]) false) [.loc 3, .loc 0] 15 4,
qw (.store 2) [.env 2, .loc 0] 31 5] [] [])
(.ret))),
[.cell 2 2 true]⟩
theorem F120_low : lowFn Tryz.prog (KD [] []) [0, 1, 2, 4] Tryz.f120 = some F120 := by as_aux_lemma => kernel_rfl
def F121 : LFunc := ⟨[0, 2], 1,
.seq (.region [qbb false] [(1, 0)])
(.seq (.region [qe 0,
qo (.bin .neq) [.loc 0, .const (.str ⟨#[]⟩)],
ql 0,
qg .mv [.env 0] 0 true,
qg (.call 148) [.loc 0, .const (.str ⟨#[48, 49, 50, 51, 52, 53, 54, 55, 56, 57]⟩)] 1 true,
qg (.bin .eql) [.loc 0, .const (.str ⟨#[]⟩)] 2 true,
qpf 3 0,
ql 0] [(1, 0)])
(.ret)),
[.tmp 1]⟩
theorem F121_low : lowFn Tryz.prog (KD [] []) [0, 2] Tryz.f121 = some F121 := by as_aux_lemma => kernel_rfl
def F122 : LFunc := ⟨[0, 1, 2, 6, 7, 11, 18, 27, 37], 3,
.seq (.region [qo (.alloc 102 [.bool false, .str ⟨#[]⟩, .int .i64 0]) [],
qi 0] [(3, 1), (4, 0)])
(.seq (.region [qe 1,
qo (.call 64) [.loc 0, .const (.str ⟨#[48]⟩)],
ql 0] [(1, 0)])
(.seq (.seq (.region [qe 1,
qo (.bin .eql) [.loc 0, .const (.str ⟨#[]⟩)]] [(5, 0)])
(.cond (.env 5) (.seq (.region [qo (.build [.bool false, .str ⟨#[]⟩, .int .i64 0] [(1, 1)]) [.const (.str ⟨#[48]⟩)],
qo (.store 3) [.env 3, .loc 0],
qi 0] [(4, 0)])
(.ret)) (.skip)))
(.seq (.block 0 (.loop (.seq (.seq (.region [qe 2,
qo (.bin .gtr) [.loc 0, .const (.int .i64 0)],
ql 0,
qg .mv [.env 1] 0 true,
qg (.call 149) [.loc 0, .const (.str ⟨#[48]⟩)] 1 true,
qpf 2 0] [(6, 0)])
(.cond (.env 6) (.skip) (.exit 0)))
(.block 1 (.region [qe 1,
qe 1,
qln true 0,
qo (.bin .sub) [.loc 0, .const (.int .i64 1)],
qo (.slice true 0 false true false) [.loc 3, .loc 0],
qe 2,
qo (.bin .sub) [.loc 0, .const (.int .i64 1)],
ql 2,
ql 1] [(1, 1), (2, 0)])))))
(.seq (.seq (.region [qe 2,
qo (.bin .lss) [.loc 0, .const (.int .i64 0)]] [(7, 0)])
(.cond (.env 7) (.region [qe 1,
qe 2,
qo (.un .neg) [.loc 0],
qo (.call 57) [.const (.str ⟨#[48]⟩), .loc 0],
qo (.bin .add) [.loc 3, .loc 0],
ql 0,
qi 0] [(1, 1), (2, 0)]) (.skip)))
(.seq (.seq (.region [qe 1,
qln true 0,
qe 2,
qo .max [.loc 1, .loc 0],
qo (.bin .gtr) [.loc 0, .const (.int .i64 62)]] [(8, 0)])
(.cond (.env 8) (.seq (.region [qo (.build [.bool false, .str ⟨#[]⟩, .int .i64 0] []) [],
qo (.store 3) [.env 3, .loc 0],
qi 14] [(4, 0)])
(.ret)) (.skip)))
(.seq (.region [qe 0,
qe 1,
qe 2,
qo (.build [.bool false, .str ⟨#[]⟩, .int .i64 0] [(0, 1), (1, 1), (2, 1)]) [.loc 2, .loc 1, .loc 0],
qo (.store 3) [.env 3, .loc 0],
qi 0] [(4, 0)])
(.ret))))))),
[.cell 3 3 true, .tmp 4]⟩
theorem F122_low : lowFn Tryz.prog (KD [] []) [0, 1, 2, 6, 7, 11, 18, 27, 37] Tryz.f122 = some F122 := by as_aux_lemma => kernel_rfl
def F123 : LFunc := ⟨[0, 1, 2, 3, 4, 24, 41], 1,
.seq (.region [qo (.box 102 3) [.env 0],
qi 0] [(1, 1), (2, 0)])
(.seq (.seq (.region [qfe 1 1,
qd 1 0,
qk 121 0,
qo (.un .not) [.loc 0],
ql 0,
qg (.faddr 1) [.env 1] 0 false,
qg (.load 1 false) [.loc 0] 1 false,
qg (.len true) [.loc 0] 2 false,
qg (.bin .gtr) [.loc 0, .const (.int .i64 62)] 3 false,
qpt 4 0,
ql 0,
qg (.faddr 2) [.env 1] 0 false,
qg (.load 1 false) [.loc 0] 1 false,
qg (.bin .lss) [.loc 0, .const (.int .i64 0)] 2 false,
qpt 3 0,
ql 0,
qg (.faddr 2) [.env 1] 0 false,
qg (.load 1 false) [.loc 0] 1 false,
qg (.bin .gtr) [.loc 0, .const (.int .i64 62)] 2 false,
qpt 3 0] [(5, 0)])
(.cond (.env 5) (.seq (.region [qi 1] [(2, 0)])
(.ret)) (.skip)))
(.seq (.seq (.region [qfe 0 1,
qd 1 0,
qfe 1 1,
qd 1 0,
qfe 2 1,
qd 1 0,
qo (.call 122) [.loc 4, .loc 2, .loc 0],
ql 0,
qx 0 0,
qx 1 1,
qo (.alloc 102 [.bool false, .str ⟨#[]⟩, .int .i64 0]) [],
qo (.store 3) [.loc 0, .loc 2],
ql 2] [(3, 2), (4, 0)])
(.seq (.region [qe 4,
qo (.bin .neq) [.loc 0, .const (.int .i64 0)],
ql 0,
qg (.load 3 true) [.env 3] 0 false,
qg (.load 3 true) [.env 1] 1 false,
qg (.eqs true [2, 1, 0]) [.loc 1, .loc 0] 2 false,
qpt 3 0] [(6, 0)])
(.cond (.env 6) (.seq (.region [qi 1] [(2, 0)])
(.ret)) (.skip))))
(.seq (.region [qi 0] [(2, 0)])
(.ret)))),
[.tmp 2]⟩
theorem F123_low : lowFn Tryz.prog (KD [] []) [0, 1, 2, 3, 4, 24, 41] Tryz.f123 = some F123 := by as_aux_lemma => kernel_rfl
def F124 : LFunc := ⟨[0, 1, 4], 2,
.seq (.region [qo .mv [.const (.str ⟨#[]⟩)]] [(2, 0)])
(.seq (.region [qe 1,
qe 0,
qln true 0,
qo (.bin .sub) [.loc 2, .loc 0],
qo .max [.loc 0, .const (.int .i64 0)],
qo (.call 57) [.const (.str ⟨#[48]⟩), .loc 0],
qe 0,
qo (.bin .add) [.loc 1, .loc 0],
ql 0] [(2, 0)])
(.ret)),
[.tmp 2]⟩
theorem F124_low : lowFn Tryz.prog (KD [] []) [0, 1, 4] Tryz.f124 = some F124 := by as_aux_lemma => kernel_rfl
def F125 : LFunc := ⟨[0, 2], 1,
.seq (.region [qbb false] [(1, 0)])
(.seq (.region [qe 0,
qe 0,
qo (.bin .neq) [.loc 1, .loc 0],
ql 0] [(1, 0)])
(.ret)),
[.tmp 1]⟩
theorem F125_low : lowFn Tryz.prog (KD [] []) [0, 2] Tryz.f125 = some F125 := by as_aux_lemma => kernel_rfl
def F126 : LFunc := ⟨[0, 2], 1,
.seq (.region [qbb false] [(1, 0)])
(.seq (.region [qe 0,
qe 0,
qo (.bin .neq) [.loc 1, .loc 0],
ql 0] [(1, 0)])
(.ret)),
[.tmp 1]⟩
theorem F126_low : lowFn Tryz.prog (KD [] []) [0, 2] Tryz.f126 = some F126 := by as_aux_lemma => kernel_rfl
def F127 : LFunc := ⟨[0, 1, 4], 2,
.seq (.region [qbb false] [(2, 0)])
(.seq (.region [qe 0,
qln true 0,
qe 1,
qln true 0,
qo (.bin .geq) [.loc 2, .loc 0],
ql 0,
qg .mv [.env 0] 0 true,
qg .mv [.env 1] 1 true,
qg (.len true) [.loc 0] 2 true,
qg (.slice true 0 false true false) [.loc 2, .loc 0] 3 true,
qg .mv [.env 1] 4 true,
qg (.bin .eql) [.loc 1, .loc 0] 5 true,
qpf 6 0,
ql 0] [(2, 0)])
(.ret)),
[.tmp 2]⟩
theorem F127_low : lowFn Tryz.prog (KD [] []) [0, 1, 4] Tryz.f127 = some F127 := by as_aux_lemma => kernel_rfl
def F130 : LFunc := ⟨[0, 1, 4], 2,
.seq (.region [qi 0] [(2, 0)])
(.seq (.region [qe 0,
qe 1,
qo .idxb [.loc 1, .loc 0],
ql 0] [(2, 0)])
(.ret)),
[.tmp 2]⟩
theorem F130_low : lowFn Tryz.prog (KD [] []) [0, 1, 4] Tryz.f130 = some F130 := by as_aux_lemma => kernel_rfl
def F132 : LFunc := ⟨[0, 1, 4, 5, 6], 2,
.seq (.region [qo .mv [.const (.int .u32 0)],
qo .mv [.const (.int .u32 0)]] [(2, 1), (3, 0)])
(.seq (.region [qe 0,
qo (.conv .u64) [.loc 0],
qe 1,
qo (.conv .u64) [.loc 0],
qo (.bin .mul) [.loc 2, .loc 0],
ql 0] [(4, 0)])
(.seq (.region [qe 4,
qo (.bin .shr) [.loc 0, .const (.int .u64 32)],
qo (.conv .u32) [.loc 0],
qe 4,
qo (.conv .u32) [.loc 0],
ql 2,
ql 1] [(2, 1), (3, 0)])
(.ret))),
[.tmp 2, .tmp 3]⟩
theorem F132_low : lowFn Tryz.prog (KD [] []) [0, 1, 4, 5, 6] Tryz.f132 = some F132 := by as_aux_lemma => kernel_rfl
def F133 : LFunc := ⟨[0, 1, 4, 5, 6, 7, 8, 9, 10, 11, 12, 13], 2,
.seq (.region [qo .mv [.const (.int .u64 0)],
qo .mv [.const (.int .u64 0)]] [(2, 1), (3, 0)])
(.seq (.region [qe 0,
qo (.bin .and) [.loc 0, .const (.int .u64 4294967295)],
ql 0] [(4, 0)])
(.seq (.region [qe 0,
qo (.bin .shr) [.loc 0, .const (.int .u64 32)],
ql 0] [(5, 0)])
(.seq (.region [qe 1,
qo (.bin .and) [.loc 0, .const (.int .u64 4294967295)],
ql 0] [(6, 0)])
(.seq (.region [qe 1,
qo (.bin .shr) [.loc 0, .const (.int .u64 32)],
ql 0] [(7, 0)])
(.seq (.region [qe 4,
qe 6,
qo (.bin .mul) [.loc 1, .loc 0],
ql 0] [(8, 0)])
(.seq (.region [qe 5,
qe 6,
qo (.bin .mul) [.loc 1, .loc 0],
qe 8,
qo (.bin .shr) [.loc 0, .const (.int .u64 32)],
qo (.bin .add) [.loc 2, .loc 0],
ql 0] [(9, 0)])
(.seq (.region [qe 9,
qo (.bin .and) [.loc 0, .const (.int .u64 4294967295)],
ql 0] [(10, 0)])
(.seq (.region [qe 9,
qo (.bin .shr) [.loc 0, .const (.int .u64 32)],
ql 0] [(11, 0)])
(.seq (.region [qe 10,
qe 4,
qe 7,
qo (.bin .mul) [.loc 1, .loc 0],
qo (.bin .add) [.loc 3, .loc 0],
ql 0] [(10, 0)])
(.seq (.region [qe 5,
qe 7,
qo (.bin .mul) [.loc 1, .loc 0],
qe 11,
qo (.bin .add) [.loc 1, .loc 0],
qe 10,
qo (.bin .shr) [.loc 0, .const (.int .u64 32)],
qo (.bin .add) [.loc 2, .loc 0],
ql 0] [(2, 0)])
(.seq (.region [qe 0,
qe 1,
qo (.bin .mul) [.loc 1, .loc 0],
ql 0] [(3, 0)])
(.ret)))))))))))),
[.tmp 2, .tmp 3]⟩
theorem F133_low : lowFn Tryz.prog (KD [] []) [0, 1, 4, 5, 6, 7, 8, 9, 10, 11, 12, 13] Tryz.f133 = some F133 := by as_aux_lemma => kernel_rfl
def F135 : LFunc := ⟨[0, 2], 1,
.seq (.region [qbb false] [(1, 0)])
(.seq (.region [qe 0,
qo (.bin .gtr) [.loc 0, .const (.int .i64 8)],
ql 0] [(1, 0)])
(.ret)),
[.tmp 1]⟩
theorem F135_low : lowFn Tryz.prog (KD [] []) [0, 2] Tryz.f135 = some F135 := by as_aux_lemma => kernel_rfl
def F136 : LFunc := ⟨[0, 1, 4], 2,
.seq (.region [qbb false] [(2, 0)])
(.seq (.region [qe 0,
qe 1,
qo .nilck [.loc 1],
qo (.aaddr 1 256) [.loc 0, .loc 1],
qd 1 0,
ql 0] [(2, 0)])
(.ret)),
[.tmp 2]⟩
theorem F136_low : lowFn Tryz.prog (KD [] []) [0, 1, 4] Tryz.f136 = some F136 := by as_aux_lemma => kernel_rfl
def F145 : LFunc := ⟨[0, 1, 2, 3, 4, 13, 27, 33, 44], 1,
.seq (.region [qo (.box 51 11) [.env 0],
qi 0,
qi 0] [(1, 2), (2, 1), (3, 0)])
(.seq (.block 0 (.seq (.region [qfe 0 1,
qd 1 0,
qo (.bin .gtr) [.loc 0, .const (.int .u8 5)],
ql 0,
qg (.faddr 1) [.env 1] 0 false,
qg (.load 1 false) [.loc 0] 1 false,
qg (.bin .gtr) [.loc 0, .const (.int .u8 2)] 2 false,
qpt 3 0,
ql 0] [(4, 0)])
(.cond (.env 4) (.seq (.region [qi 0,
qi 12] [(2, 1), (3, 0)])
(.ret)) (.seq (.region [qfe 0 1,
qd 1 0,
qo (.bin .eql) [.loc 0, .const (.int .u8 0)],
ql 0,
qg (.faddr 10) [.env 1] 0 true,
qg (.load 1 false) [.loc 0] 1 true,
qg (.bin .lss) [.loc 0, .const (.int .i64 0)] 2 true,
qg .mv [.loc 0] 3 true,
qg (.faddr 10) [.env 1] 0 false,
qg (.load 1 false) [.loc 0] 1 false,
qg (.bin .gtr) [.loc 0, .const (.int .i64 1048576)] 2 false,
qg .pick [.loc 3, .const (.bool true), .loc 0] 7 true,
qpf 8 0,
ql 0] [(5, 0)])
(.cond (.env 5) (.seq (.region [qi 0,
qi 1] [(2, 1), (3, 0)])
(.ret)) (.seq (.region [qfe 0 1,
qd 1 0,
qo (.bin .eql) [.loc 0, .const (.int .u8 0)],
ql 0] [(6, 0)])
(.cond (.env 6) (.seq (.region [qfe 10 1,
qd 1 0,
ql 0,
qi 0] [(2, 1), (3, 0)])
(.ret)) (.seq (.region [qfe 0 1,
qd 1 0,
qo (.bin .neq) [.loc 0, .const (.int .u8 4)],
ql 0] [(7, 0)])
(.cond (.env 7) (.seq (.drawn [qfe 2 1,
qw (.load 1 false) [.loc 0] 1 1,
qw (.len true) [.loc 0] 3 2,
qw (.faddr 2) [.env 1] 0 3,
qw (.load 1 false) [.loc 0] 8 4,
qw (.call 38) [.loc 0, .const (.str ⟨#[86]⟩)] 24 5,
qw (.bin .sub) [.loc 3, .loc 0] 63 6,
qw .mv [.loc 0] 127 7,
qw .mv [.const (.int .i64 0)] 255 8] [(2, 1), (3, 0)] [])
(.ret)) (.seq (.region [qfe 3 1,
qd 1 0,
qo (.bin .lss) [.loc 0, .const (.int .i64 1)],
ql 0,
qg (.faddr 3) [.env 1] 0 false,
qg (.load 1 false) [.loc 0] 1 false,
qg (.bin .gtr) [.loc 0, .const (.int .i64 18)] 2 false,
qpt 3 0,
ql 0] [(8, 0)])
(.cond (.env 8) (.seq (.region [qi 0,
qi 1] [(2, 1), (3, 0)])
(.ret)) (.skip))))))))))))
(.seq (.region [qo (.load 11 true) [.env 1],
qk 160 0,
ql 0,
qi 0] [(2, 1), (3, 0)])
(.ret))),
[.tmp 2, .tmp 3]⟩
theorem F145_low : lowFn Tryz.prog (KD [] []) [0, 1, 2, 3, 4, 13, 27, 33, 44] Tryz.f145 = some F145 := by as_aux_lemma => kernel_rfl
def F146 : LFunc := ⟨[0, 1, 2, 3, 4, 10, 11, 20, 23], 5,
.seq (.region [qe 2,
qe 1,
qo (.bin .sub) [.loc 1, .loc 0],
ql 0] [(5, 0)])
(.seq (.region [qe 3,
qe 2,
qo (.bin .sub) [.loc 1, .loc 0],
ql 0] [(6, 0)])
(.seq (.block 0 (.loop (.seq (.seq (.region [qe 5,
qe 6,
qo (.bin .neq) [.loc 1, .loc 0]] [(7, 0)])
(.cond (.env 7) (.skip) (.exit 0)))
(.block 1 (.seq (.region [qe 5,
qe 6,
qo (.bin .gtr) [.loc 1, .loc 0]] [(8, 0)])
(.cond (.env 8) (.seq (.region [qe 0,
qe 2,
qe 5,
qo (.bin .sub) [.loc 1, .loc 0],
qe 2,
qe 6,
qe 4,
qo (.call 161) [.loc 6, .loc 3, .loc 2, .loc 1, .loc 0]] [])
(.region [qe 5,
qe 6,
qo (.bin .sub) [.loc 1, .loc 0],
ql 0] [(5, 0)])) (.seq (.region [qe 0,
qe 2,
qe 5,
qo (.bin .sub) [.loc 1, .loc 0],
qe 2,
qe 6,
qo (.bin .add) [.loc 1, .loc 0],
qe 5,
qo (.bin .sub) [.loc 1, .loc 0],
qe 5,
qe 4,
qo (.call 161) [.loc 10, .loc 7, .loc 2, .loc 1, .loc 0]] [])
(.region [qe 6,
qe 5,
qo (.bin .sub) [.loc 1, .loc 0],
ql 0] [(6, 0)]))))))))
(.region [qe 0,
qe 2,
qe 5,
qo (.bin .sub) [.loc 1, .loc 0],
qe 2,
qe 5,
qe 4,
qo (.call 161) [.loc 6, .loc 3, .loc 2, .loc 1, .loc 0]] []))),
[]⟩
theorem F146_low : lowFn Tryz.prog (KD [] []) [0, 1, 2, 3, 4, 10, 11, 20, 23] Tryz.f146 = some F146 := by as_aux_lemma => kernel_rfl
def F147 : LFunc := ⟨[0], 0,
.seq (.region [qo .mv [.const (.nilm)]] [(0, 0)])
(.seq (.region [qo .mkmap [],
qo (.build [.nilfn, .nilfn] [(0, 1), (1, 1)]) [.const (.fn 162 []), .const (.fn 163 [])],
qo (.mapset 0) [.loc 1, .const (.int .i64 0), .loc 0],
qo (.build [.nilfn, .nilfn] [(0, 1), (1, 1)]) [.const (.fn 164 []), .const (.fn 165 [])],
qo (.mapset 0) [.loc 3, .const (.int .i64 1), .loc 0],
qo (.build [.nilfn, .nilfn] [(0, 1), (1, 1)]) [.const (.fn 166 []), .const (.fn 167 [])],
qo (.mapset 0) [.loc 5, .const (.int .i64 2), .loc 0],
qo (.build [.nilfn, .nilfn] [(0, 1), (1, 1)]) [.const (.fn 168 []), .const (.fn 169 [])],
qo (.mapset 0) [.loc 7, .const (.int .i64 3), .loc 0],
ql 8,
ql 0] [(0, 0)])
(.ret)),
[.tmp 0]⟩
theorem F147_low : lowFn Tryz.prog (KD [] []) [0] Tryz.f147 = some F147 := by as_aux_lemma => kernel_rfl
def F148 : LFunc := ⟨[0, 1, 4, 5, 6, 12, 21, 34], 2,
.seq (.region [qo .mv [.const (.str ⟨#[]⟩)]] [(2, 0)])
(.seq (.seq (.region [qe 0,
qo (.bin .eql) [.loc 0, .const (.str ⟨#[]⟩)],
ql 0,
qg .mv [.env 1] 0 false,
qg (.bin .eql) [.loc 0, .const (.str ⟨#[]⟩)] 1 false,
qpt 2 0] [(5, 0)])
(.cond (.env 5) (.seq (.region [qe 0,
ql 0] [(2, 0)])
(.ret)) (.skip)))
(.seq (.seq (.region [qe 1,
qln true 0,
qo (.bin .eql) [.loc 0, .const (.int .i64 1)],
ql 0,
qg .mv [.env 1] 0 true,
qg .index [.loc 0, .const (.int .i64 0)] 1 true,
qg (.bin .lss) [.loc 0, .const (.int .u8 128)] 2 true,
qpf 3 0] [(6, 0)])
(.cond (.env 6) (.seq (.drawn [qe 0,
qw .mv [.env 1] 0 1,
qw .index [.loc 0, .const (.int .i64 0)] 2 2,
qw (.call 104) [.loc 2, .loc 0] 7 3,
qw .mv [.env 1] 0 4,
qw .index [.loc 0, .const (.int .i64 0)] 16 5,
qw (.call 99) [.loc 2, .loc 0] 63 6,
qw .mv [.loc 0] 127 7] [(2, 0)] [])
(.ret)) (.skip)))
(.seq (.seq (.region [qe 1,
qk 100 0,
ql 0,
qx 0 0,
qx 1 1,
qo (.alloc 158 [.bool false, .bool false, .bool false, .bool false, .bool false, .bool false, .bool false, .bool false, .bool false, .bool false, .bool false, .bool false, .bool false, .bool false, .bool false, .bool false, .bool false, .bool false, .bool false, .bool false, .bool false, .bool false, .bool false, .bool false, .bool false, .bool false, .bool false, .bool false, .bool false, .bool false, .bool false, .bool false, .bool false, .bool false, .bool false, .bool false, .bool false, .bool false, .bool false, .bool false, .bool false, .bool false, .bool false, .bool false, .bool false, .bool false, .bool false, .bool false, .bool false, .bool false, .bool false, .bool false, .bool false, .bool false, .bool false, .bool false, .bool false, .bool false, .bool false, .bool false, .bool false, .bool false, .bool false, .bool false, .bool false, .bool false, .bool false, .bool false, .bool false, .bool false, .bool false, .bool false, .bool false, .bool false, .bool false, .bool false, .bool false, .bool false, .bool false, .bool false, .bool false, .bool false, .bool false, .bool false, .bool false, .bool false, .bool false, .bool false, .bool false, .bool false, .bool false, .bool false, .bool false, .bool false, .bool false, .bool false, .bool false, .bool false, .bool false, .bool false, .bool false, .bool false, .bool false, .bool false, .bool false, .bool false, .bool false, .bool false, .bool false, .bool false, .bool false, .bool false, .bool false, .bool false, .bool false, .bool false, .bool false, .bool false, .bool false, .bool false, .bool false, .bool false, .bool false, .bool false, .bool false, .bool false, .bool false, .bool false, .bool false, .bool false, .bool false, .bool false, .bool false, .bool false, .bool false, .bool false, .bool false, .bool false, .bool false, .bool false, .bool false, .bool false, .bool false, .bool false, .bool false, .bool false, .bool false, .bool false, .bool false, .bool false, .bool false, .bool false, .bool false, .bool false, .bool false, .bool false, .bool false, .bool false, .bool false, .bool false, .bool false, .bool false, .bool false, .bool false, .bool false, .bool false, .bool false, .bool false, .bool false, .bool false, .bool false, .bool false, .bool false, .bool false, .bool false, .bool false, .bool false, .bool false, .bool false, .bool false, .bool false, .bool false, .bool false, .bool false, .bool false, .bool false, .bool false, .bool false, .bool false, .bool false, .bool false, .bool false, .bool false, .bool false, .bool false, .bool false, .bool false, .bool false, .bool false, .bool false, .bool false, .bool false, .bool false, .bool false, .bool false, .bool false, .bool false, .bool false, .bool false, .bool false, .bool false, .bool false, .bool false, .bool false, .bool false, .bool false, .bool false, .bool false, .bool false, .bool false, .bool false, .bool false, .bool false, .bool false, .bool false, .bool false, .bool false, .bool false, .bool false, .bool false, .bool false, .bool false, .bool false, .bool false, .bool false, .bool false, .bool false, .bool false, .bool false, .bool false, .bool false, .bool false, .bool false, .bool false, .bool false, .bool false, .bool false, .bool false, .bool false, .bool false, .bool false, .bool false, .bool false, .bool false, .bool false, .bool false]) [],
qo (.store 256) [.loc 0, .loc 2],
ql 2] [(3, 2), (4, 0)])
(.seq (.region [qe 4] [(7, 0)])
(.cond (.env 7) (.seq (.region [qe 0,
qo (.call 105) [.loc 0, .env 3],
qo (.call 101) [.loc 0, .env 3],
ql 0] [(2, 0)])
(.ret)) (.skip))))
(.seq (.region [qe 0,
qe 1,
qkk 106 1 0,
qe 1,
qkk 102 1 0,
ql 0] [(2, 0)])
(.ret))))),
[.tmp 2]⟩
theorem F148_low : lowFn Tryz.prog (KD [] []) [0, 1, 4, 5, 6, 12, 21, 34] Tryz.f148 = some F148 := by as_aux_lemma => kernel_rfl
def F160 : LFunc := ⟨[0, 1, 2, 3, 11, 20, 29, 33], 1,
.seq (.region [qo (.box 51 11) [.env 0],
qi 0] [(1, 1), (2, 0)])
(.seq (.block 0 (.seq (.region [qfe 1 1,
qd 1 0,
qo (.bin .eql) [.loc 0, .const (.int .u8 1)],
ql 0] [(3, 0)])
(.cond (.env 3) (.seq (.region [qfe 3 1,
qd 1 0,
qo (.bin .quo) [.loc 0, .const (.int .i64 2)],
qo (.bin .add) [.loc 0, .const (.int .i64 1)],
ql 0] [(2, 0)])
(.ret)) (.seq (.region [qfe 1 1,
qd 1 0,
qo (.bin .eql) [.loc 0, .const (.int .u8 2)],
ql 0,
qg (.faddr 3) [.env 1] 0 true,
qg (.load 1 false) [.loc 0] 1 true,
qg (.bin .leq) [.loc 0, .const (.int .i64 4)] 2 true,
qpf 3 0,
ql 0] [(4, 0)])
(.cond (.env 4) (.seq (.region [qi 2] [(2, 0)])
(.ret)) (.seq (.region [qfe 1 1,
qd 1 0,
qo (.bin .eql) [.loc 0, .const (.int .u8 2)],
ql 0,
qg (.faddr 3) [.env 1] 0 true,
qg (.load 1 false) [.loc 0] 1 true,
qg (.bin .leq) [.loc 0, .const (.int .i64 9)] 2 true,
qpf 3 0,
ql 0] [(5, 0)])
(.cond (.env 5) (.seq (.region [qi 4] [(2, 0)])
(.ret)) (.seq (.region [qfe 1 1,
qd 1 0,
qo (.bin .eql) [.loc 0, .const (.int .u8 2)],
ql 0] [(6, 0)])
(.cond (.env 6) (.seq (.region [qi 8] [(2, 0)])
(.ret)) (.seq (.region [qfe 7 1,
qd 1 0,
ql 0] [(7, 0)])
(.cond (.env 7) (.seq (.region [qfe 3 1,
qd 1 0,
qo (.bin .add) [.loc 0, .const (.int .i64 1)],
ql 0] [(2, 0)])
(.ret)) (.skip))))))))))))
(.seq (.region [qfe 3 1,
qd 1 0,
ql 0] [(2, 0)])
(.ret))),
[.tmp 2]⟩
theorem F160_low : lowFn Tryz.prog (KD [] []) [0, 1, 2, 3, 11, 20, 29, 33] Tryz.f160 = some F160 := by as_aux_lemma => kernel_rfl
def F161 : LFunc := ⟨[0, 1, 2, 3, 10, 13], 5,
.seq (.region [qi 0] [(4, 0)])
(.block 0 (.loop (.seq (.seq (.region [qe 4,
qe 3,
qo (.bin .lss) [.loc 1, .loc 0]] [(5, 0)])
(.cond (.env 5) (.skip) (.exit 0)))
(.seq (.block 1 (.drawn [qe 0,
qw .mv [.env 1] 0 1,
qw .mv [.env 4] 0 2,
qw (.bin .add) [.loc 1, .loc 0] 6 3,
qw .mv [.env 0] 0 4,
qw .mv [.env 2] 0 5,
qw .mv [.env 4] 0 6,
qw (.bin .add) [.loc 1, .loc 0] 96 7,
qw .mv [.env 0] 0 8,
qw .mv [.env 2] 0 9,
qw .mv [.env 4] 0 10,
qw (.bin .add) [.loc 1, .loc 0] 1536 11,
qw (.iaddr 1) [.loc 3, .loc 0] 3840 12,
qw (.load 1 false) [.loc 0] 7936 13,
qw .mv [.env 0] 0 14,
qw .mv [.env 1] 0 15,
qw .mv [.env 4] 0 16,
qw (.bin .add) [.loc 1, .loc 0] 98304 17,
qw (.iaddr 1) [.loc 3, .loc 0] 245760 18,
qw (.load 1 false) [.loc 0] 507904 19,
qw (.iaddr 1) [.loc 19, .loc 16] 1048335 20,
qw (.store 1) [.loc 0, .loc 7] 2096911 21,
qw (.iaddr 1) [.loc 17, .loc 14] 4194303 22,
qw (.store 1) [.loc 0, .loc 3] 8388607 23] [] []))
(.region [qe 4,
qo (.bin .add) [.loc 0, .const (.int .i64 1)],
ql 0] [(4, 0)]))))),
[]⟩
theorem F161_low : lowFn Tryz.prog (KD [43] []) [0, 1, 2, 3, 10, 13] Tryz.f161 = some F161 := by as_aux_lemma => kernel_rfl
def F162 : LFunc := ⟨[0, 1, 2, 4, 5, 6, 7, 8, 9, 10, 11, 18, 31], 2,
.seq (.region [qo (.box 177 11) [.env 0],
qo (.alloc 143 [.bool false, .str ⟨#[]⟩]) [],
qbb false] [(2, 2), (3, 1), (4, 0)])
(.seq (.region [qe 1,
qo .bstr [.loc 0],
qo (.build [.bool false, .str ⟨#[]⟩] [(1, 1)]) [.loc 0],
qo (.alloc 143 [.bool false, .str ⟨#[]⟩]) [],
qo (.store 2) [.loc 0, .loc 1]] [(5, 1)])
(.seq (.seq (.region [qo (.load 11 true) [.env 2],
qk 174 0,
ql 0] [(6, 0)])
(.seq (.region [qfe 5 2,
qd 1 0] [(11, 0)])
(.cond (.env 11) (.seq (.region [qe 1,
qe 6,
qo (.iaddr 1) [.loc 1, .loc 0],
qd 1 0,
ql 0] [(7, 0)])
(.seq (.region [qe 7,
qo (.call 91) [.const (.str ⟨#[123, 65, 66, 67, 68, 69, 70, 71, 72, 73]⟩), .loc 0],
qe 7,
qo (.call 91) [.const (.str ⟨#[125, 74, 75, 76, 77, 78, 79, 80, 81, 82]⟩), .loc 0],
ql 2,
ql 1] [(8, 1), (9, 0)])
(.seq (.region [qe 8,
qe 9,
qo .max [.loc 1, .loc 0],
ql 0] [(10, 0)])
(.seq (.region [qe 10,
qo (.bin .geq) [.loc 0, .const (.int .i64 0)]] [(12, 0)])
(.cond (.env 12) (.drawn [qe 9,
qw (.bin .geq) [.loc 0, .const (.int .i64 0)] 1 1,
qw (.faddr 1) [.env 5] 0 2,
qw (.load 1 false) [.loc 0] 4 3,
qw .mv [.env 6] 0 4,
qw (.slice true 0 false true false) [.loc 1, .loc 0] 28 5,
qw .mv [.env 10] 0 6,
qw .mv [.env 10] 0 7,
qw (.bin .add) [.loc 0, .const (.int .i64 1)] 128 8,
qw (.slice true 0 true true false) [.const (.str ⟨#[48, 49, 50, 51, 52, 53, 54, 55, 56, 57]⟩), .loc 2, .loc 0] 448 9,
qw (.bin .add) [.loc 4, .loc 0] 1020 10,
qw (.faddr 1) [.env 5] 0 11,
qw (.load 1 false) [.loc 0] 2048 12,
qw .mv [.env 6] 0 13,
qw (.bin .add) [.loc 0, .const (.int .i64 1)] 8192 14,
qw (.slice true 0 true false false) [.loc 2, .loc 0] 30720 15,
qw (.bin .add) [.loc 5, .loc 0] 65532 16,
qw (.build [.bool false, .str ⟨#[]⟩] [(0, 1), (1, 1)]) [.loc 15, .loc 0] 131071 17,
qw (.store 2) [.env 5, .loc 0] 262143 18] [] []) (.skip)))))) (.skip))))
(.seq (.drawn [qo (.load 2 true) [.env 5],
qw (.faddr 1) [.env 5] 0 1,
qw (.load 1 false) [.loc 0] 2 2,
qw (.call 148) [.loc 0, .const (.str ⟨#[48, 49, 50, 51, 52, 53, 54, 55, 56, 57]⟩)] 6 3,
qw (.bin .eql) [.loc 0, .const (.str ⟨#[]⟩)] 14 4,
qw (.store 2) [.env 3, .loc 4] 15 5,
qw .mv [.loc 1] 63 6] [(4, 0)] [])
(.ret)))),
[.cell 3 2 true, .tmp 4]⟩
theorem F162_low : lowFn Tryz.prog (KD [] []) [0, 1, 2, 4, 5, 6, 7, 8, 9, 10, 11, 18, 31] Tryz.f162 = some F162 := by as_aux_lemma => kernel_rfl
def F164 : LFunc := ⟨[0, 1, 2, 4, 5, 6, 8, 9, 10, 11, 12, 13, 14, 15, 16, 39, 40, 41, 47, 59], 2,
.seq (.region [qo (.box 177 11) [.env 0],
qo (.alloc 143 [.bool false, .str ⟨#[]⟩]) [],
qbb false] [(2, 2), (3, 1), (4, 0)])
(.seq (.region [qo .mv [.const (.nils)]] [(5, 0)])
(.seq (.seq (.region [qe 1,
qln false 0,
qi 0] [(11, 2), (12, 1), (13, 0)])
(.block 0 (.loop (.seq (.region [qo (.bin .lss) [.env 13, .env 12]] [(14, 0)])
(.seq (.cond (.env 14) (.skip) (.exit 0))
(.seq (.block 1 (.seq (.region [qo (.iaddr 1) [.env 11, .env 13],
qd 1 0,
ql 0] [(6, 0)])
(.region [qe 5,
qe 6,
qo (.bin .shr) [.loc 0, .const (.int .u64 4)],
qe 6,
qo (.bin .and) [.loc 0, .const (.int .u8 15)],
qo (.bslice 5 1 2 [.int .u8 0] [0, 1] 2) [.loc 2, .loc 0],
qo (.append 5 1 1 2) [.loc 5, .loc 0],
ql 0] [(5, 0)])))
(.region [qo (.bin .add) [.env 13, .const (.int .i64 1)],
ql 0] [(13, 0)])))))))
(.seq (.region [qe 5,
qe 5,
qln false 0,
qo (.bin .sub) [.loc 0, .const (.int .i64 1)],
qo (.iaddr 1) [.loc 3, .loc 0],
qd 1 0,
ql 0] [(7, 0)])
(.seq (.region [qe 5,
qe 5,
qln false 0,
qo (.bin .sub) [.loc 0, .const (.int .i64 1)],
qo (.slice false 1 false true false) [.loc 3, .loc 0],
ql 0] [(5, 0)])
(.seq (.seq (.region [qe 5,
qln false 0,
qi 0] [(15, 1), (16, 0)])
(.block 2 (.loop (.seq (.region [qo (.bin .lss) [.env 16, .env 15]] [(17, 0)])
(.seq (.cond (.env 17) (.skip) (.exit 2))
(.seq (.block 3 (.seq (.region [qe 16,
ql 0] [(8, 0)])
(.seq (.seq (.region [qe 5,
qe 8,
qo (.iaddr 1) [.loc 1, .loc 0],
qd 1 0,
qo (.bin .gtr) [.loc 0, .const (.int .u8 9)]] [(18, 0)])
(.cond (.env 18) (.seq (.region [qo (.build [.bool false, .str ⟨#[]⟩] []) [],
qo (.store 2) [.env 3, .loc 0],
qbb false] [(4, 0)])
(.ret)) (.skip)))
(.region [qe 5,
qe 8,
qo (.iaddr 1) [.loc 1, .loc 0],
qd 1 0,
qo (.bin .add) [.loc 0, .const (.int .u8 48)],
qo (.iaddr 1) [.loc 4, .loc 3],
qo (.store 1) [.loc 0, .loc 1]] []))))
(.region [qo (.bin .add) [.env 16, .const (.int .i64 1)],
ql 0] [(16, 0)])))))))
(.seq (.region [qe 7,
qo (.bin .eql) [.loc 0, .const (.int .u8 15)],
ql 0] [(9, 0)])
(.seq (.seq (.region [qfe 5 2,
qd 1 0] [(19, 0)])
(.cond (.env 19) (.region [qe 7,
qo (.bin .eql) [.loc 0, .const (.int .u8 12)],
ql 0,
qg .mv [.env 7] 0 false,
qg (.bin .eql) [.loc 0, .const (.int .u8 13)] 1 false,
qpt 2 0,
ql 0] [(9, 0)]) (.skip)))
(.seq (.region [qe 5,
qln false 0,
qfe 3 2,
qd 1 0,
qo (.bin .sub) [.loc 2, .loc 0],
ql 0] [(10, 0)])
(.seq (.drawn [qe 7,
qw (.bin .eql) [.loc 0, .const (.int .u8 13)] 1 1,
qw .mv [.env 5] 0 2,
qw .mv [.env 10] 0 3,
qw (.slice false 1 true false false) [.loc 1, .loc 0] 12 4,
qw .bstr [.loc 0] 28 5,
qw (.build [.bool false, .str ⟨#[]⟩] [(0, 1), (1, 1)]) [.loc 4, .loc 0] 63 6,
qw .mv [.env 9] 0 7,
qw .mv [.loc 0] 128 8,
qh .mv [.env 5] 0 true 384 9,
qh .mv [.env 10] 1 true 384 10,
qh (.slice false 1 false true false) [.loc 1, .loc 0] 2 true 1920 11,
qh .bstr [.loc 0] 3 true 3968 12,
qh (.call 148) [.loc 0, .const (.str ⟨#[48]⟩)] 4 true 8064 13,
qh (.bin .eql) [.loc 0, .const (.str ⟨#[]⟩)] 5 true 16256 14,
qw .pick [.loc 6, .loc 0, .const (.bool false)] 32640 15,
qw (.store 2) [.env 3, .loc 9] 16383 16,
qw .mv [.loc 1] 131071 17] [(4, 0)] [])
(.ret)))))))))),
[.cell 3 2 true, .tmp 4]⟩
theorem F164_low : lowFn Tryz.prog (KD [5] []) [0, 1, 2, 4, 5, 6, 8, 9, 10, 11, 12, 13, 14, 15, 16, 39, 40, 41, 47, 59] Tryz.f164 = some F164 := by as_aux_lemma => kernel_rfl
def F166 : LFunc := ⟨[0, 1, 2, 4, 5, 6, 8, 9, 10, 11, 12, 13, 14, 31, 36, 45, 46, 47], 2,
.seq (.region [qo (.box 177 11) [.env 0],
qo (.alloc 143 [.bool false, .str ⟨#[]⟩]) [],
qbb false] [(2, 2), (3, 1), (4, 0)])
(.seq (.region [qo .mv [.const (.int .u64 0)]] [(5, 0)])
(.seq (.seq (.region [qe 1,
qln false 0,
qi 0] [(9, 2), (10, 1), (11, 0)])
(.block 0 (.loop (.seq (.region [qo (.bin .lss) [.env 11, .env 10]] [(12, 0)])
(.seq (.cond (.env 12) (.skip) (.exit 0))
(.seq (.block 1 (.seq (.region [qo (.iaddr 1) [.env 9, .env 11],
qd 1 0,
ql 0] [(6, 0)])
(.region [qe 5,
qo (.bin .shl) [.loc 0, .const (.int .u64 8)],
qe 6,
qo (.conv .u64) [.loc 0],
qo (.bin .or) [.loc 2, .loc 0],
ql 0] [(5, 0)])))
(.region [qo (.bin .add) [.env 11, .const (.int .i64 1)],
ql 0] [(11, 0)])))))))
(.seq (.region [qfe 5 2,
qd 1 0,
ql 0,
qg .mv [.env 1] 0 true,
qg (.iaddr 1) [.loc 0, .const (.int .i64 0)] 1 true,
qg (.load 1 false) [.loc 0] 2 true,
qg (.bin .geq) [.loc 0, .const (.int .u8 128)] 3 true,
qpf 4 0,
ql 0] [(7, 0)])
(.seq (.seq (.region [qe 7] [(13, 0)])
(.cond (.env 13) (.seq (.region [qe 5,
qo (.un .neg) [.loc 0],
ql 0] [(5, 0)])
(.seq (.region [qe 1,
qln false 0,
qo (.bin .lss) [.loc 0, .const (.int .i64 8)]] [(14, 0)])
(.cond (.env 14) (.region [qe 5,
qe 1,
qln false 0,
qo (.bin .mul) [.const (.int .i64 8), .loc 0],
qo (.bin .shl) [.const (.int .u64 1), .loc 0],
qo (.bin .sub) [.loc 0, .const (.int .u64 1)],
qo (.bin .and) [.loc 5, .loc 0],
ql 0] [(5, 0)]) (.skip)))) (.skip)))
(.seq (.region [qo .mv [.const (.str ⟨#[]⟩)]] [(8, 0)])
(.seq (.seq (.region [qfe 3 2,
qd 1 0,
qi 0] [(15, 1), (16, 0)])
(.block 2 (.loop (.seq (.region [qo (.bin .lss) [.env 16, .env 15]] [(17, 0)])
(.seq (.cond (.env 17) (.skip) (.exit 2))
(.seq (.block 3 (.seq (.region [qe 5,
qo (.bin .rem) [.loc 0, .const (.int .u64 10)],
qe 5,
qo (.bin .rem) [.loc 0, .const (.int .u64 10)],
qo (.bin .add) [.loc 0, .const (.int .u64 1)],
qo (.slice true 0 true true false) [.const (.str ⟨#[48, 49, 50, 51, 52, 53, 54, 55, 56, 57]⟩), .loc 3, .loc 0],
qe 8,
qo (.bin .add) [.loc 1, .loc 0],
ql 0] [(8, 0)])
(.region [qe 5,
qo (.bin .quo) [.loc 0, .const (.int .u64 10)],
ql 0] [(5, 0)])))
(.region [qo (.bin .add) [.env 16, .const (.int .i64 1)],
ql 0] [(16, 0)])))))))
(.seq (.region [qe 7,
qe 8,
qo (.build [.bool false, .str ⟨#[]⟩] [(0, 1), (1, 1)]) [.loc 1, .loc 0],
qe 5,
qo (.bin .eql) [.loc 0, .const (.int .u64 0)],
qo (.store 2) [.env 3, .loc 2],
ql 1] [(4, 0)])
(.ret)))))))),
[.cell 3 2 true, .tmp 4]⟩
theorem F166_low : lowFn Tryz.prog (KD [] []) [0, 1, 2, 4, 5, 6, 8, 9, 10, 11, 12, 13, 14, 31, 36, 45, 46, 47] Tryz.f166 = some F166 := by as_aux_lemma => kernel_rfl
def F174 : LFunc := ⟨[0, 1, 2, 4], 1,
.seq (.region [qo (.box 177 11) [.env 0],
qi 0] [(1, 1), (2, 0)])
(.seq (.seq (.region [qfe 6 1,
qd 1 0] [(3, 0)])
(.cond (.env 3) (.seq (.region [qi 0] [(2, 0)])
(.ret)) (.skip)))
(.seq (.region [qfe 3 1,
qd 1 0,
qo (.bin .sub) [.loc 0, .const (.int .i64 1)],
ql 0] [(2, 0)])
(.ret))),
[.tmp 2]⟩
theorem F174_low : lowFn Tryz.prog (KD [] []) [0, 1, 2, 4] Tryz.f174 = some F174 := by as_aux_lemma => kernel_rfl
end Go.Proofs.YtabgobmeibjeeaaGreatDoor

namespace Go.Proofs.YtabgobmeibjeeaaGreatDoor
set_option maxRecDepth 100000
set_option maxHeartbeats 4000000
set_option linter.unusedVariables false

def fnOf : FuncId → Option LFunc
  | 8 => some F8
  | 9 => some F9
  | 12 => some F12
  | 13 => some F13
  | 15 => some F15
  | 18 => some F18
  | 21 => some F21
  | 22 => some F22
  | 23 => some F23
  | 24 => some F24
  | 25 => some F25
  | 26 => some F26
  | 27 => some F27
  | 28 => some F28
  | 29 => some F29
  | 30 => some F30
  | 31 => some F31
  | 32 => some F32
  | 33 => some F33
  | 34 => some F34
  | 35 => some F35
  | 36 => some F36
  | 38 => some F38
  | 39 => some F39
  | 40 => some F40
  | 41 => some F41
  | 42 => some F42
  | 43 => some F43
  | 44 => some F44
  | 45 => some F45
  | 46 => some F46
  | 47 => some F47
  | 48 => some F48
  | 49 => some F49
  | 50 => some F50
  | 51 => some F51
  | 52 => some F52
  | 53 => some F53
  | 54 => some F54
  | 55 => some F55
  | 56 => some F56
  | 57 => some F57
  | 58 => some F58
  | 59 => some F59
  | 60 => some F60
  | 61 => some F61
  | 62 => some F62
  | 63 => some F63
  | 64 => some F64
  | 77 => some F77
  | 78 => some F78
  | 79 => some F79
  | 80 => some F80
  | 81 => some F81
  | 82 => some F82
  | 83 => some F83
  | 84 => some F84
  | 85 => some F85
  | 86 => some F86
  | 87 => some F87
  | 88 => some F88
  | 90 => some F90
  | 91 => some F91
  | 92 => some F92
  | 93 => some F93
  | 96 => some F96
  | 97 => some F97
  | 98 => some F98
  | 99 => some F99
  | 100 => some F100
  | 101 => some F101
  | 105 => some F105
  | 113 => some F113
  | 116 => some F116
  | 117 => some F117
  | 118 => some F118
  | 119 => some F119
  | 120 => some F120
  | 121 => some F121
  | 122 => some F122
  | 123 => some F123
  | 124 => some F124
  | 125 => some F125
  | 126 => some F126
  | 127 => some F127
  | 130 => some F130
  | 132 => some F132
  | 133 => some F133
  | 135 => some F135
  | 136 => some F136
  | 145 => some F145
  | 146 => some F146
  | 147 => some F147
  | 148 => some F148
  | 160 => some F160
  | 161 => some F161
  | 162 => some F162
  | 164 => some F164
  | 166 => some F166
  | 174 => some F174
  | _ => none
def LP : Prg := ⟨fnOf, fun f => f == 48 || f == 77 || f == 79 || f == 118 || f == 119 || f == 146 || f == 161, fun f => !(f == 22 || f == 55 || f == 56 || f == 77), fun f => false, fun _ _ => none⟩
theorem LP_fns : FnsOK Tryz.prog GT LP := by
  intro f F h
  have h' : fnOf f = some F := h
  unfold fnOf at h'
  split at h'
  · injection h' with h'; subst h'; exact ⟨Tryz.f8, _, _, Tryz.func8, F8_low, fun _ _ h => h⟩
  · injection h' with h'; subst h'; exact ⟨Tryz.f9, _, _, Tryz.func9, F9_low, fun _ _ h => h⟩
  · injection h' with h'; subst h'; exact ⟨Tryz.f12, _, _, Tryz.func12, F12_low, fun _ _ h => h⟩
  · injection h' with h'; subst h'; exact ⟨Tryz.f13, _, _, Tryz.func13, F13_low, fun _ _ h => h⟩
  · injection h' with h'; subst h'; exact ⟨Tryz.f15, _, _, Tryz.func15, F15_low, fun _ _ h => h⟩
  · injection h' with h'; subst h'; exact ⟨Tryz.f18, _, _, Tryz.func18, F18_low, fun _ _ h => h⟩
  · injection h' with h'; subst h'; exact ⟨Tryz.f21, _, _, Tryz.func21, F21_low, fun _ _ h => h⟩
  · injection h' with h'; subst h'; exact ⟨Tryz.f22, _, _, Tryz.func22, F22_low, fun _ _ h => h⟩
  · injection h' with h'; subst h'; exact ⟨Tryz.f23, _, _, Tryz.func23, F23_low, fun _ _ h => h⟩
  · injection h' with h'; subst h'; exact ⟨Tryz.f24, _, _, Tryz.func24, F24_low, fun _ _ h => h⟩
  · injection h' with h'; subst h'; exact ⟨Tryz.f25, _, _, Tryz.func25, F25_low, fun _ _ h => h⟩
  · injection h' with h'; subst h'; exact ⟨Tryz.f26, _, _, Tryz.func26, F26_low, fun _ _ h => h⟩
  · injection h' with h'; subst h'; exact ⟨Tryz.f27, _, _, Tryz.func27, F27_low, fun _ _ h => h⟩
  · injection h' with h'; subst h'; exact ⟨Tryz.f28, _, _, Tryz.func28, F28_low, fun _ _ h => h⟩
  · injection h' with h'; subst h'; exact ⟨Tryz.f29, _, _, Tryz.func29, F29_low, fun _ _ h => h⟩
  · injection h' with h'; subst h'; exact ⟨Tryz.f30, _, _, Tryz.func30, F30_low, fun _ _ h => h⟩
  · injection h' with h'; subst h'; exact ⟨Tryz.f31, _, _, Tryz.func31, F31_low, fun _ _ h => h⟩
  · injection h' with h'; subst h'; exact ⟨Tryz.f32, _, _, Tryz.func32, F32_low, fun _ _ h => h⟩
  · injection h' with h'; subst h'; exact ⟨Tryz.f33, _, _, Tryz.func33, F33_low, fun _ _ h => h⟩
  · injection h' with h'; subst h'; exact ⟨Tryz.f34, _, _, Tryz.func34, F34_low, fun _ _ h => h⟩
  · injection h' with h'; subst h'; exact ⟨Tryz.f35, _, _, Tryz.func35, F35_low, fun _ _ h => h⟩
  · injection h' with h'; subst h'; exact ⟨Tryz.f36, _, _, Tryz.func36, F36_low, fun _ _ h => h⟩
  · injection h' with h'; subst h'; exact ⟨Tryz.f38, _, _, Tryz.func38, F38_low, fun _ _ h => h⟩
  · injection h' with h'; subst h'; exact ⟨Tryz.f39, _, _, Tryz.func39, F39_low, fun _ _ h => h⟩
  · injection h' with h'; subst h'; exact ⟨Tryz.f40, _, _, Tryz.func40, F40_low, fun _ _ h => h⟩
  · injection h' with h'; subst h'; exact ⟨Tryz.f41, _, _, Tryz.func41, F41_low, fun _ _ h => h⟩
  · injection h' with h'; subst h'; exact ⟨Tryz.f42, _, _, Tryz.func42, F42_low, fun _ _ h => h⟩
  · injection h' with h'; subst h'; exact ⟨Tryz.f43, _, _, Tryz.func43, F43_low, fun _ _ h => h⟩
  · injection h' with h'; subst h'; exact ⟨Tryz.f44, _, _, Tryz.func44, F44_low, fun _ _ h => h⟩
  · injection h' with h'; subst h'; exact ⟨Tryz.f45, _, _, Tryz.func45, F45_low, fun _ _ h => h⟩
  · injection h' with h'; subst h'; exact ⟨Tryz.f46, _, _, Tryz.func46, F46_low, fun _ _ h => h⟩
  · injection h' with h'; subst h'; exact ⟨Tryz.f47, _, _, Tryz.func47, F47_low, fun _ _ h => h⟩
  · injection h' with h'; subst h'; exact ⟨Tryz.f48, _, _, Tryz.func48, F48_low, fun _ _ h => h⟩
  · injection h' with h'; subst h'; exact ⟨Tryz.f49, _, _, Tryz.func49, F49_low, fun _ _ h => h⟩
  · injection h' with h'; subst h'; exact ⟨Tryz.f50, _, _, Tryz.func50, F50_low, fun _ _ h => h⟩
  · injection h' with h'; subst h'; exact ⟨Tryz.f51, _, _, Tryz.func51, F51_low, fun _ _ h => h⟩
  · injection h' with h'; subst h'; exact ⟨Tryz.f52, _, _, Tryz.func52, F52_low, fun _ _ h => h⟩
  · injection h' with h'; subst h'; exact ⟨Tryz.f53, _, _, Tryz.func53, F53_low, fun _ _ h => h⟩
  · injection h' with h'; subst h'; exact ⟨Tryz.f54, _, _, Tryz.func54, F54_low, fun _ _ h => h⟩
  · injection h' with h'; subst h'; exact ⟨Tryz.f55, _, _, Tryz.func55, F55_low, fun _ _ h => h⟩
  · injection h' with h'; subst h'; exact ⟨Tryz.f56, _, _, Tryz.func56, F56_low, fun _ _ h => h⟩
  · injection h' with h'; subst h'; exact ⟨Tryz.f57, _, _, Tryz.func57, F57_low, fun _ _ h => h⟩
  · injection h' with h'; subst h'; exact ⟨Tryz.f58, _, _, Tryz.func58, F58_low, fun _ _ h => h⟩
  · injection h' with h'; subst h'; exact ⟨Tryz.f59, _, _, Tryz.func59, F59_low, fun _ _ h => h⟩
  · injection h' with h'; subst h'; exact ⟨Tryz.f60, _, _, Tryz.func60, F60_low, fun _ _ h => h⟩
  · injection h' with h'; subst h'; exact ⟨Tryz.f61, _, _, Tryz.func61, F61_low, fun _ _ h => h⟩
  · injection h' with h'; subst h'; exact ⟨Tryz.f62, _, _, Tryz.func62, F62_low, fun _ _ h => h⟩
  · injection h' with h'; subst h'; exact ⟨Tryz.f63, _, _, Tryz.func63, F63_low, fun _ _ h => h⟩
  · injection h' with h'; subst h'; exact ⟨Tryz.f64, _, _, Tryz.func64, F64_low, fun _ _ h => h⟩
  · injection h' with h'; subst h'; exact ⟨Tryz.f77, _, _, Tryz.func77, F77_low, fun _ _ h => h⟩
  · injection h' with h'; subst h'; exact ⟨Tryz.f78, _, _, Tryz.func78, F78_low, fun _ _ h => h⟩
  · injection h' with h'; subst h'; exact ⟨Tryz.f79, _, _, Tryz.func79, F79_low, fun _ _ h => h⟩
  · injection h' with h'; subst h'; exact ⟨Tryz.f80, _, _, Tryz.func80, F80_low, fun _ _ h => h⟩
  · injection h' with h'; subst h'; exact ⟨Tryz.f81, _, _, Tryz.func81, F81_low, fun _ _ h => h⟩
  · injection h' with h'; subst h'; exact ⟨Tryz.f82, _, _, Tryz.func82, F82_low, fun _ _ h => h⟩
  · injection h' with h'; subst h'; exact ⟨Tryz.f83, _, _, Tryz.func83, F83_low, fun _ _ h => h⟩
  · injection h' with h'; subst h'; exact ⟨Tryz.f84, _, _, Tryz.func84, F84_low, fun _ _ h => h⟩
  · injection h' with h'; subst h'; exact ⟨Tryz.f85, _, _, Tryz.func85, F85_low, fun _ _ h => h⟩
  · injection h' with h'; subst h'; exact ⟨Tryz.f86, _, _, Tryz.func86, F86_low, fun _ _ h => h⟩
  · injection h' with h'; subst h'; exact ⟨Tryz.f87, _, _, Tryz.func87, F87_low, fun _ _ h => h⟩
  · injection h' with h'; subst h'; exact ⟨Tryz.f88, _, _, Tryz.func88, F88_low, fun _ _ h => h⟩
  · injection h' with h'; subst h'; exact ⟨Tryz.f90, _, _, Tryz.func90, F90_low, fun _ _ h => h⟩
  · injection h' with h'; subst h'; exact ⟨Tryz.f91, _, _, Tryz.func91, F91_low, fun _ _ h => h⟩
  · injection h' with h'; subst h'; exact ⟨Tryz.f92, _, _, Tryz.func92, F92_low, fun _ _ h => h⟩
  · injection h' with h'; subst h'; exact ⟨Tryz.f93, _, _, Tryz.func93, F93_low, fun _ _ h => h⟩
  · injection h' with h'; subst h'; exact ⟨Tryz.f96, _, _, Tryz.func96, F96_low, fun _ _ h => h⟩
  · injection h' with h'; subst h'; exact ⟨Tryz.f97, _, _, Tryz.func97, F97_low, fun _ _ h => h⟩
  · injection h' with h'; subst h'; exact ⟨Tryz.f98, _, _, Tryz.func98, F98_low, fun _ _ h => h⟩
  · injection h' with h'; subst h'; exact ⟨Tryz.f99, _, _, Tryz.func99, F99_low, fun _ _ h => h⟩
  · injection h' with h'; subst h'; exact ⟨Tryz.f100, _, _, Tryz.func100, F100_low, fun _ _ h => h⟩
  · injection h' with h'; subst h'; exact ⟨Tryz.f101, _, _, Tryz.func101, F101_low, fun _ _ h => h⟩
  · injection h' with h'; subst h'; exact ⟨Tryz.f105, _, _, Tryz.func105, F105_low, fun _ _ h => h⟩
  · injection h' with h'; subst h'; exact ⟨Tryz.f113, _, _, Tryz.func113, F113_low, fun _ _ h => h⟩
  · injection h' with h'; subst h'; exact ⟨Tryz.f116, _, _, Tryz.func116, F116_low, fun _ _ h => h⟩
  · injection h' with h'; subst h'; exact ⟨Tryz.f117, _, _, Tryz.func117, F117_low, fun _ _ h => h⟩
  · injection h' with h'; subst h'; exact ⟨Tryz.f118, _, _, Tryz.func118, F118_low, fun _ _ h => h⟩
  · injection h' with h'; subst h'; exact ⟨Tryz.f119, _, _, Tryz.func119, F119_low, fun _ _ h => h⟩
  · injection h' with h'; subst h'; exact ⟨Tryz.f120, _, _, Tryz.func120, F120_low, fun _ _ h => h⟩
  · injection h' with h'; subst h'; exact ⟨Tryz.f121, _, _, Tryz.func121, F121_low, fun _ _ h => h⟩
  · injection h' with h'; subst h'; exact ⟨Tryz.f122, _, _, Tryz.func122, F122_low, fun _ _ h => h⟩
  · injection h' with h'; subst h'; exact ⟨Tryz.f123, _, _, Tryz.func123, F123_low, fun _ _ h => h⟩
  · injection h' with h'; subst h'; exact ⟨Tryz.f124, _, _, Tryz.func124, F124_low, fun _ _ h => h⟩
  · injection h' with h'; subst h'; exact ⟨Tryz.f125, _, _, Tryz.func125, F125_low, fun _ _ h => h⟩
  · injection h' with h'; subst h'; exact ⟨Tryz.f126, _, _, Tryz.func126, F126_low, fun _ _ h => h⟩
  · injection h' with h'; subst h'; exact ⟨Tryz.f127, _, _, Tryz.func127, F127_low, fun _ _ h => h⟩
  · injection h' with h'; subst h'; exact ⟨Tryz.f130, _, _, Tryz.func130, F130_low, fun _ _ h => h⟩
  · injection h' with h'; subst h'; exact ⟨Tryz.f132, _, _, Tryz.func132, F132_low, fun _ _ h => h⟩
  · injection h' with h'; subst h'; exact ⟨Tryz.f133, _, _, Tryz.func133, F133_low, fun _ _ h => h⟩
  · injection h' with h'; subst h'; exact ⟨Tryz.f135, _, _, Tryz.func135, F135_low, fun _ _ h => h⟩
  · injection h' with h'; subst h'; exact ⟨Tryz.f136, _, _, Tryz.func136, F136_low, fun _ _ h => h⟩
  · injection h' with h'; subst h'; exact ⟨Tryz.f145, _, _, Tryz.func145, F145_low, fun _ _ h => h⟩
  · injection h' with h'; subst h'; exact ⟨Tryz.f146, _, _, Tryz.func146, F146_low, fun _ _ h => h⟩
  · injection h' with h'; subst h'; exact ⟨Tryz.f147, _, _, Tryz.func147, F147_low, fun _ _ h => h⟩
  · injection h' with h'; subst h'; exact ⟨Tryz.f148, _, _, Tryz.func148, F148_low, fun _ _ h => h⟩
  · injection h' with h'; subst h'; exact ⟨Tryz.f160, _, _, Tryz.func160, F160_low, fun _ _ h => h⟩
  · injection h' with h'; subst h'; exact ⟨Tryz.f161, _, _, Tryz.func161, F161_low, fun _ _ h => h⟩
  · injection h' with h'; subst h'; exact ⟨Tryz.f162, _, _, Tryz.func162, F162_low, fun _ _ h => h⟩
  · injection h' with h'; subst h'; exact ⟨Tryz.f164, _, _, Tryz.func164, F164_low, fun _ _ h => h⟩
  · injection h' with h'; subst h'; exact ⟨Tryz.f166, _, _, Tryz.func166, F166_low, fun _ _ h => h⟩
  · injection h' with h'; subst h'; exact ⟨Tryz.f174, _, _, Tryz.func174, F174_low, fun _ _ h => h⟩
  · simp at h'
theorem LP_ok : PrgOK Tryz.prog GT LP := ⟨LP_fns, ext_nil⟩
theorem mixed : Tryz.prog.follows .mixedOrders = true := by kernel_rfl
end Go.Proofs.YtabgobmeibjeeaaGreatDoor

namespace Go.Proofs.YtabgobmeibjeeaaGreatDoor
set_option linter.unusedVariables false
set_option linter.unusedSimpArgs false

def mkS (l : List UInt8) : ByteArray := ⟨l.toArray⟩
theorem mkS_size (l : List UInt8) : (mkS l).size = l.length := by simp [mkS, ByteArray.size]
theorem size_data (b : ByteArray) : b.size = b.data.toList.length := rfl
theorem toList_go (b : ByteArray) : ∀ (k i : Nat) (r : List UInt8), b.size - i = k → ByteArray.toList.loop b i r = r.reverse ++ b.data.toList.drop i
 | 0, i, r, h => by
  rw [ByteArray.toList.loop, if_neg (by omega), List.drop_eq_nil_of_le (by rw [size_data] at h; omega)]
  simp
 | k + 1, i, r, h => by
  rw [ByteArray.toList.loop, if_pos (by omega), toList_go b k (i + 1) _ (by omega)]
  have hi : i < b.data.toList.length := by rw [size_data] at h; omega
  rw [List.drop_eq_getElem_cons hi]
  have hi2 : i < b.data.size := hi
  simp [ByteArray.get!, getElem!_pos b.data i hi2]
theorem mkS_toList (l : List UInt8) : (mkS l).toList = l := by
 have := toList_go (mkS l) _ 0 [] rfl
 simpa [ByteArray.toList, mkS] using this
theorem mkS_app (a b : List UInt8) : mkS a ++ mkS b = mkS (a ++ b) := by
 apply ByteArray.ext
 simp [mkS, ByteArray.data_append]
theorem mkS_extract (l : List UInt8) (a b : Nat) : (mkS l).extract a b = mkS ((l.drop a).take (b - a)) := by
 apply ByteArray.ext
 apply Array.ext'
 simp only [mkS, ByteArray.data_extract, List.extract_toArray, List.extract_eq_take_drop]
theorem mkS_get (l : List UInt8) (i : Nat) : (mkS l)[i]? = l[i]? := by
 by_cases h : i < l.length
 ·
  rw [getElem?_pos (mkS l) i (by rw [mkS_size]; exact h), getElem?_pos l i h]
  simp [mkS, ByteArray.getElem_eq_getElem_data]
 ·
  rw [getElem?_neg (mkS l) i (by rw [mkS_size]; exact h), getElem?_neg l i h]
theorem nil_toList : (⟨#[]⟩ : ByteArray).toList = [] := mkS_toList []
theorem zx : (type_of% @mkS_toList) ∧ (type_of% @nil_toList) ∧ (type_of% @mkS_size) := ⟨@mkS_toList, @nil_toList, @mkS_size⟩
def bR (l : List UInt8) : List (List D) := l.map fun b => [.int .u8 b.toNat]
theorem bR_len (l : List UInt8) : (bR l).length = l.length := by simp [bR]
theorem bR_at {l : List UInt8} {i : Nat} {b : UInt8} (h : l[i]? = some b) : (bR l)[i]? = some [.int .u8 b.toNat] := by simp [bR, h]
theorem bR_sub (l : List UInt8) (a n : Nat) : ((bR l).drop a).take n = bR ((l.drop a).take n) := by simp [bR, List.map_drop, List.map_take]
theorem bytesOf_bR : ∀ l : List UInt8, bytesOf (bR l) = some l
 | [] => rfl
 | b :: l => by
  have := bytesOf_bR l
  simp only [bR, List.map_cons] at this ⊢
  simp only [bytesOf, this, Option.map_some, Int.toNat_natCast, UInt8.ofNat_toNat]

/-! digits -/
def isDig (c : UInt8) : Bool := decide (48 ≤ c.toNat) && decide (c.toNat ≤ 57)
def digTab : List D := (List.range 256).map fun i => .bool (decide (48 ≤ i) && decide (i ≤ 57))
theorem digTab_at (c : UInt8) : digTab[c.toNat]? = some (.bool (isDig c)) := by
 have : c.toNat < 256 := c.toNat_lt
 simp [digTab, isDig, this]
def rtrim (l : List UInt8) : List UInt8 := (l.reverse.dropWhile isDig).reverse
def trimD (l : List UInt8) : List UInt8 := (rtrim l).dropWhile isDig
theorem rtrim_snoc (l : List UInt8) (c : UInt8) : rtrim (l ++ [c]) = if isDig c then rtrim l else l ++ [c] := by
 simp only [rtrim, List.reverse_append, List.reverse_cons, List.reverse_nil, List.nil_append, List.singleton_append, List.dropWhile_cons]
 split <;> simp
theorem dropWhile_all {α : Type} {p : α → Bool} : ∀ {l : List α}, l.dropWhile p = [] ↔ l.all p = true
 | [] => by simp
 | a :: l => by
  rw [List.dropWhile_cons]
  by_cases h : p a = true
  ·
   simp [h, dropWhile_all (l := l)]
  ·
   simp [h]
theorem trimD_nil (l : List UInt8) : (trimD l == []) = l.all isDig := by
 rw [Bool.eq_iff_iff]
 simp only [beq_iff_eq, trimD]
 rw [dropWhile_all]
 constructor
 ·
  intro h
  have h2 : ∀ c ∈ l.reverse.dropWhile isDig, isDig c = true := by
   intro c hc
   exact List.all_eq_true.1 h c (by simpa [rtrim] using hc)
  have h3 : l.reverse.dropWhile isDig = [] := by
   cases e : l.reverse.dropWhile isDig with
   | nil => rfl
   | cons a r =>
    have h4 := List.head?_dropWhile_not isDig l.reverse
    rw [e] at h4 h2
    simp only [List.head?_cons] at h4
    rw [h2 a List.mem_cons_self] at h4
    simp at h4
  rw [dropWhile_all] at h3
  simpa using h3
 ·
  intro h
  have : l.reverse.dropWhile isDig = [] := by rw [dropWhile_all]; simpa using h
  simp [rtrim, this]
def strip0 (l : List UInt8) : List UInt8 := l.dropWhile (· == 48)
def strip (l : List UInt8) : List UInt8 := if strip0 l = [] then [48] else strip0 l
def nz (l : List UInt8) : Bool := strip0 l != []
theorem strip0_strip0 (l : List UInt8) : strip0 (strip0 l) = strip0 l := by
 unfold strip0
 cases e : l.dropWhile (· == 48) with
 | nil => rfl
 | cons a r =>
  have h4 := List.head?_dropWhile_not (fun x : UInt8 => x == 48) l
  rw [e] at h4
  simp only [List.head?_cons] at h4
  rw [List.dropWhile_cons, if_neg (by simpa using h4)]
theorem strip_idem (l : List UInt8) : strip (strip l) = strip l := by
 unfold strip
 by_cases h : strip0 l = []
 ·
  rw [if_pos h]; rfl
 ·
  rw [if_neg h, strip0_strip0, if_neg h]
theorem strip0_suffix (l : List UInt8) : ∃ k, l = List.replicate k 48 ++ strip0 l := by
 induction l with
 | nil => exact ⟨0, rfl⟩
 | cons a l ih =>
  unfold strip0 at ih ⊢
  rw [List.dropWhile_cons]
  by_cases h : (a == 48) = true
  ·
   obtain ⟨k, hk⟩ := ih
   rw [if_pos h]
   have : a = 48 := by simpa using h
   refine ⟨k + 1, ?_⟩
   rw [List.replicate_succ, List.cons_append, ← hk, this]
  ·
   rw [if_neg h]; exact ⟨0, rfl⟩
theorem strip_len (l : List UInt8) (h : l ≠ []) : (strip l).length ≤ l.length ∧ 0 < (strip l).length := by
 unfold strip
 obtain ⟨k, hk⟩ := strip0_suffix l
 have hl := congrArg List.length hk
 simp at hl
 have : 0 < l.length := List.length_pos_iff.2 h
 split
 ·
  simp; omega
 ·
  rename_i h0
  have := List.length_pos_iff.2 h0
  omega
theorem strip_dig (l : List UInt8) (h : l.all isDig = true) : (strip l).all isDig = true := by
 unfold strip
 split
 ·
  rfl
 ·
  obtain ⟨k, hk⟩ := strip0_suffix l
  rw [hk, List.all_append, Bool.and_eq_true] at h
  exact h.2
def pad (n : Nat) (l : List UInt8) : List UInt8 := List.replicate (n - l.length) 48 ++ l
def cmpL (a b : List UInt8) : Int := if Op.bytesLess a b then -1 else if Op.bytesLess a b || a == b then 0 else 1
end Go.Proofs.YtabgobmeibjeeaaGreatDoor

namespace Go.Proofs.YtabgobmeibjeeaaGreatDoor
set_option linter.unusedSimpArgs false
set_option linter.unusedVariables false
set_option maxRecDepth 10000

theorem str_from (z : Nat) (l : List UInt8) (k : Nat) (i : Int) (hi : i = k) (h : k ≤ l.length) : pop (.slice true z true false false) [.str (mkS l), .int .i64 i] = some (.str (mkS (l.drop k))) := by
 subst hi
 simp only [pop, sliceArgs, boundsD, natOr, natOf, mkS_size]
 rw [if_pos (by omega)]
 simp only [Int.toNat_natCast]
 rw [if_pos ⟨h, Nat.le_refl _⟩]
 simp only [Option.map_some, mkS_extract]
 rw [List.take_of_length_le (by simp)]
theorem str_to (z : Nat) (l : List UInt8) (k : Nat) (i : Int) (hi : i = k) (h : k ≤ l.length) : pop (.slice true z false true false) [.str (mkS l), .int .i64 i] = some (.str (mkS (l.take k))) := by
 subst hi
 simp only [pop, sliceArgs, boundsD, natOr, natOf, mkS_size]
 rw [if_pos (by omega)]
 simp only [Int.toNat_natCast]
 rw [if_pos ⟨Nat.zero_le _, h⟩]
 simp only [Option.map_some, mkS_extract, List.drop_zero, Nat.sub_zero]
theorem eqNil (l : List UInt8) : (l == []) = true ↔ l = [] := by simp

theorem nan126_run {d : Nat} (hd : 1 ≤ d) (S : St) (x : Int) : runF LP NN d 126 [.int .u8 x] S = some (.bool false, S, false) := by
 refine run_pure (F := F126) rfl (by simp only [LP, fnOf, snapVs, snaps, zs, zm, zv] <;> exact rfl) rfl (by simp only [LP, zf, zm]; try rfl) (by simp only [F126, zv] <;> exact rfl) (by omega) ?_
 rintro d rfl
 refine cw_seq (cw_region ?_)
 refine ow_mc ?_
 refine ow_nil ?_
 refine sk_n (by simp only [ze] <;> exact rfl) ?_
 refine cw_seq (cw_region ?_)
 refine ow_me rfl ?_
 refine ow_me rfl ?_
 refine ow_op (by simp only [zo, binD, zb, Int.reduceEq, Int.reduceToNat, Int.reduceLT, bne_self_eq_false, beq_self_eq_true, Bool.not_true] <;> exact rfl) ?_
 refine ow_ml rfl ?_
 refine ow_nil ?_
 refine sk_n (by simp only [ze] <;> exact rfl) ?_
 refine cw_ret ?_
 refine ⟨_, by simp only [F126, resultD, resDs, resD, zg, zd, rowsOf, partD, List.take, List.drop, zm] <;> exact rfl, ?_⟩
 rfl

theorem nan125_run {d : Nat} (hd : 1 ≤ d) (S : St) (x : ByteArray) : runF LP NN d 125 [.str x] S = some (.bool false, S, false) := by
 refine run_pure (F := F125) rfl (by simp only [LP, fnOf, snapVs, snaps, zs, zm, zv] <;> exact rfl) rfl (by simp only [LP, zf, zm]; try rfl) (by simp only [F125, zv] <;> exact rfl) (by omega) ?_
 rintro d rfl
 refine cw_seq (cw_region ?_)
 refine ow_mc ?_
 refine ow_nil ?_
 refine sk_n (by simp only [ze] <;> exact rfl) ?_
 refine cw_seq (cw_region ?_)
 refine ow_me rfl ?_
 refine ow_me rfl ?_
 refine ow_op (by simp only [zo, binD, zb, Int.reduceEq, Int.reduceToNat, Int.reduceLT, bne_self_eq_false, beq_self_eq_true, Bool.not_true] <;> exact rfl) ?_
 refine ow_ml rfl ?_
 refine ow_nil ?_
 refine sk_n (by simp only [ze] <;> exact rfl) ?_
 refine cw_ret ?_
 refine ⟨_, by simp only [F125, resultD, resDs, resD, zg, zd, rowsOf, partD, List.take, List.drop, zm] <;> exact rfl, ?_⟩
 rfl

def cmpI (a b : Int) : Int := if a < b then -1 else if a > b then 1 else 0
theorem cmpB_run {d : Nat} (hd : 2 ≤ d) (S : St) (a b : Int) : runF LP NN d 86 [.int .u8 a, .int .u8 b] S = some (.int .i64 (cmpI a b), S, false) := by
 refine run_pure (F := F86) rfl (by simp only [LP, fnOf, snapVs, snaps, zs, zm, zv] <;> exact rfl) rfl (by simp only [LP, zf, zm]; try rfl) (by simp only [F86, zv] <;> exact rfl) (by omega) ?_
 rintro d rfl
 refine cw_seq (cw_region ?_)
 refine ow_mc ?_
 refine ow_nil ?_
 refine sk_n (by simp only [ze] <;> exact rfl) ?_
 refine cw_seq (cw_region ?_)
 refine ow_me rfl ?_
 refine ow_op (by simp only [zo]; exact nan126_run (by omega) _ _) ?_
 refine ow_ml rfl ?_
 refine ow_nil ?_
 refine sk_n (by simp only [ze] <;> exact rfl) ?_
 refine cw_seq (cw_region ?_)
 refine ow_me rfl ?_
 refine ow_op (by simp only [zo]; exact nan126_run (by omega) _ _) ?_
 refine ow_ml rfl ?_
 refine ow_nil ?_
 refine sk_n (by simp only [ze] <;> exact rfl) ?_
 refine cw_seq (cw_seq (cw_region ?_))
 refine ow_me rfl ?_
 refine ow_nil ?_
 refine sk_n (by simp only [ze] <;> exact rfl) ?_
 skip
 refine cw_false (by simp only [opd, zv] <;> rfl) ?_
 refine cw_skip (sk_n rfl (cw_seq (cw_seq (cw_region ?_))))
 refine ow_me rfl ?_
 refine ow_nil ?_
 refine sk_n (by simp only [ze] <;> exact rfl) ?_
 skip
 refine cw_false (by simp only [opd, zv] <;> rfl) ?_
 refine cw_skip (sk_n rfl (cw_seq (cw_seq (cw_region ?_))))
 refine ow_me rfl ?_
 refine ow_me rfl ?_
 refine ow_op (by simp only [zo, binD, zb, Int.reduceEq, Int.reduceToNat, Int.reduceLT] <;> exact rfl) ?_
 refine ow_nil ?_
 refine sk_n (by simp only [ze] <;> exact rfl) ?_
 refine cw_cond (by simp only [opd, zv] <;> exact rfl) (fun hc => ?_) (fun hc => ?_)
 ·
  refine cw_seq (cw_region ?_)
  refine ow_mc ?_
  refine ow_nil ?_
  refine sk_n (by simp only [ze] <;> exact rfl) ?_
  refine cw_ret (sk_r ?_)
  refine ⟨_, by simp only [F86, resultD, resDs, resD, zg, zd, rowsOf, partD, List.take, List.drop, zm] <;> exact rfl, ?_⟩
  rw [cmpI, if_pos (of_decide_eq_true hc)]; rfl
 ·
  refine cw_skip (sk_n rfl (cw_seq (cw_seq (cw_region ?_))))
  refine ow_me rfl ?_
  refine ow_me rfl ?_
  refine ow_op (by simp only [zo, binD, zb, Int.reduceEq, Int.reduceToNat, Int.reduceLT] <;> exact rfl) ?_
  refine ow_nil ?_
  refine sk_n (by simp only [ze] <;> exact rfl) ?_
  refine cw_cond (by simp only [opd, zv] <;> exact rfl) (fun hcF => ?_) (fun hcF => ?_)
  ·
   refine cw_seq (cw_region ?_)
   refine ow_mc ?_
   refine ow_nil ?_
   refine sk_n (by simp only [ze] <;> exact rfl) ?_
   refine cw_ret (sk_r ?_)
   refine ⟨_, by simp only [F86, resultD, resDs, resD, zg, zd, rowsOf, partD, List.take, List.drop, zm] <;> exact rfl, ?_⟩
   rw [cmpI, if_neg (of_decide_eq_false hc), if_pos (of_decide_eq_true hcF)]; rfl
  ·
   refine cw_skip (sk_n rfl (cw_seq (cw_region ?_)))
   refine ow_mc ?_
   refine ow_nil ?_
   refine sk_n (by simp only [ze] <;> exact rfl) ?_
   refine cw_ret ?_
   refine ⟨_, by simp only [F86, resultD, resDs, resD, zg, zd, rowsOf, partD, List.take, List.drop, zm] <;> exact rfl, ?_⟩
   rw [cmpI, if_neg (of_decide_eq_false hc), if_neg (of_decide_eq_false hcF)]; rfl

theorem cmpS_run {d : Nat} (hd : 2 ≤ d) (S : St) (a b : List UInt8) : runF LP NN d 85 [.str (mkS a), .str (mkS b)] S = some (.int .i64 (cmpL a b), S, false) := by
 refine run_pure (F := F85) rfl (by simp only [LP, fnOf, snapVs, snaps, zs, zm, zv] <;> exact rfl) rfl (by simp only [LP, zf, zm]; try rfl) (by simp only [F85, zv] <;> exact rfl) (by omega) ?_
 rintro d rfl
 refine cw_seq (cw_region ?_)
 refine ow_mc ?_
 refine ow_nil ?_
 refine sk_n (by simp only [ze] <;> exact rfl) ?_
 refine cw_seq (cw_region ?_)
 refine ow_me rfl ?_
 refine ow_op (by simp only [zo, mkS_toList]; exact nan125_run (by omega) _ _) ?_
 refine ow_ml rfl ?_
 refine ow_nil ?_
 refine sk_n (by simp only [ze] <;> exact rfl) ?_
 refine cw_seq (cw_region ?_)
 refine ow_me rfl ?_
 refine ow_op (by simp only [zo, mkS_toList]; exact nan125_run (by omega) _ _) ?_
 refine ow_ml rfl ?_
 refine ow_nil ?_
 refine sk_n (by simp only [ze] <;> exact rfl) ?_
 refine cw_seq (cw_seq (cw_region ?_))
 refine ow_me rfl ?_
 refine ow_nil ?_
 refine sk_n (by simp only [ze] <;> exact rfl) ?_
 skip
 refine cw_false (by simp only [opd, zv, mkS_toList] <;> rfl) ?_
 refine cw_skip (sk_n rfl (cw_seq (cw_seq (cw_region ?_))))
 refine ow_me rfl ?_
 refine ow_nil ?_
 refine sk_n (by simp only [ze] <;> exact rfl) ?_
 skip
 refine cw_false (by simp only [opd, zv, mkS_toList] <;> rfl) ?_
 refine cw_skip (sk_n rfl (cw_seq (cw_seq (cw_region ?_))))
 refine ow_me rfl ?_
 refine ow_me rfl ?_
 refine ow_op (by simp only [zo, binD, zb, Int.reduceEq, Int.reduceToNat, Int.reduceLT, mkS_toList] <;> exact rfl) ?_
 refine ow_nil ?_
 refine sk_n (by simp only [ze] <;> exact rfl) ?_
 refine cw_cond (by simp only [opd, zv, mkS_toList] <;> exact rfl) (fun hc => ?_) (fun hc => ?_)
 ·
  refine cw_seq (cw_region ?_)
  refine ow_mc ?_
  refine ow_nil ?_
  refine sk_n (by simp only [ze] <;> exact rfl) ?_
  refine cw_ret (sk_r ?_)
  refine ⟨_, by simp only [F85, resultD, resDs, resD, zg, zd, rowsOf, partD, List.take, List.drop, zm] <;> exact rfl, ?_⟩
  rw [cmpL, if_pos hc]; rfl
 ·
  refine cw_skip (sk_n rfl (cw_seq (cw_seq (cw_region ?_))))
  refine ow_me rfl ?_
  refine ow_me rfl ?_
  refine ow_op (by simp only [zo, binD, zb, Int.reduceEq, Int.reduceToNat, Int.reduceLT, mkS_toList] <;> exact rfl) ?_
  refine ow_nil ?_
  refine sk_n (by simp only [ze] <;> exact rfl) ?_
  refine cw_cond (by simp only [opd, zv, mkS_toList] <;> exact rfl) (fun hcF => ?_) (fun hcF => ?_)
  ·
   refine cw_seq (cw_region ?_)
   refine ow_mc ?_
   refine ow_nil ?_
   refine sk_n (by simp only [ze] <;> exact rfl) ?_
   refine cw_ret (sk_r ?_)
   refine ⟨_, by simp only [F85, resultD, resDs, resD, zg, zd, rowsOf, partD, List.take, List.drop, zm] <;> exact rfl, ?_⟩
   rw [cmpL, if_neg (by simp [hc]), if_neg (by simpa using hcF)]; rfl
  ·
   refine cw_skip (sk_n rfl (cw_seq (cw_region ?_)))
   refine ow_mc ?_
   refine ow_nil ?_
   refine sk_n (by simp only [ze] <;> exact rfl) ?_
   refine cw_ret ?_
   refine ⟨_, by simp only [F85, resultD, resDs, resD, zg, zd, rowsOf, partD, List.take, List.drop, zm] <;> exact rfl, ?_⟩
   rw [cmpL, if_neg (by simp [hc]), if_pos (by simpa only [Bool.not_eq_false'] using hcF)]; rfl

theorem trimLB_run {d : Nat} (hd : 1 ≤ d) (S : St) (l : List UInt8) (hl : l.length ≤ 1000000) : runF LP NN d 99 [.str (mkS l), .int .u8 48] S = some (.str (mkS (strip0 l)), S, false) := by
 refine run_pure (F := F99) rfl (by simp only [LP, fnOf, snapVs, snaps, zs, zm, zv] <;> exact rfl) rfl (by simp only [LP, zf, zm]; try rfl) (by simp only [F99, zv] <;> exact rfl) (by omega) ?_
 rintro d rfl
 refine cw_seq (cw_region ?_)
 refine ow_mc ?_
 refine ow_nil ?_
 refine sk_n (by simp only [ze] <;> exact rfl) ?_
 refine cw_seq (cw_block ?_)
 refine cw_loop (fun n env S' => ∃ (l' : List UInt8) (u3 : D), strip0 l' = strip0 l ∧ l'.length = n ∧ S' = ⟨[], 0⟩ ∧ env = [.str (mkS l'), .int .u8 48, .str ⟨#[]⟩, u3]) (l.length) (by omega) (⟨l, _, rfl, rfl, rfl, rfl⟩) ?_
 rintro n env S' ⟨l', u3, hl', rfl, rfl, rfl⟩
 refine cw_seq (cw_seq (cw_region ?_))
 refine ow_me rfl ?_
 refine ow_op (by simp only [zo, lenD_str, lenD_nils, lenD_sl, lenD_msl, mkS_size, mkS_get] <;> exact rfl) ?_
 refine ow_op (by simp only [zo, binD, zb, Int.reduceEq, Int.reduceToNat, Int.reduceLT, mkS_size, mkS_get] <;> exact rfl) ?_
 refine ow_ml rfl ?_
 refine ow_split 0 (by simp only [opd, zv] <;> exact rfl) (by simp only [zn] <;> exact rfl) (by simp only [zn] <;> exact rfl) (fun hgA => ?_) (fun hgA => ?_)
 ·
  obtain ⟨c, l'', rfl⟩ : ∃ c l'', l' = c :: l'' := by
   cases l' with
   | nil => simp at hgA
   | cons c l => exact ⟨c, l, rfl⟩
  rename List UInt8 => l'
  refine ow_on rfl ?_
  refine ow_me rfl ?_
  refine ow_on rfl ?_
  refine ow_op (by simp only [zo, indexD, zm, mkS_size, mkS_get, List.getElem?_cons_zero] <;> exact rfl) ?_
  refine ow_on rfl ?_
  refine ow_me rfl ?_
  refine ow_on rfl ?_
  refine ow_op (by simp only [zo, binD, zb, Int.reduceEq, Int.reduceToNat, Int.reduceLT, mkS_size, mkS_get, List.getElem?_cons_zero] <;> exact rfl) ?_
  refine ow_op (by simp only [zo, mkS_size, mkS_get, List.getElem?_cons_zero] <;> exact rfl) ?_
  refine ow_nil ?_
  refine sk_n (by simp only [ze] <;> exact rfl) ?_
  refine cw_cond (by simp only [opd, zv, mkS_size, mkS_get, List.getElem?_cons_zero] <;> exact rfl) (fun hcAT => ?_) (fun hcAT => ?_)
  ·
   have h48 : (c == 48) = true := by
    have := hcAT
    simp only [beq_iff_eq] at this ⊢
    exact UInt8.toNat_inj.1 (by show c.toNat = 48; omega)
   refine cw_skip (sk_n rfl (cw_block (cw_region ?_)))
   refine ow_me rfl ?_
   refine ow_op (by simp only [opd, zv, exOp, aop, LOp.loud, Bool.false_eq_true, if_false, mkS_size]; rw [str_from _ _ 1 1 rfl (by simp)]; exact rfl) ?_
   refine ow_ml rfl ?_
   refine ow_nil (bk_n ?_)
   refine lk_n (by simp only [ze] <;> exact rfl) ?_
   exact ⟨l'.length, by simp, l', _, by rw [← hl', strip0, strip0, List.dropWhile_cons, if_pos h48], rfl, rfl, rfl⟩
  ·
   refine cw_exit (sk_e (lk_e (bk_e (sk_n rfl (cw_seq (cw_region ?_))))))
   refine ow_me rfl ?_
   refine ow_ml rfl ?_
   refine ow_nil ?_
   refine sk_n (by simp only [ze] <;> exact rfl) ?_
   refine cw_ret ?_
   refine ⟨_, by simp only [F99, resultD, resDs, resD, zg, zd, rowsOf, partD, List.take, List.drop, zm] <;> exact rfl, ?_⟩
   rw [← hl', show strip0 (c :: l') = c :: l' by rw [strip0, List.dropWhile_cons, if_neg (fun h => by have := hcAT; simp at h; subst h; simp at this)]]; rfl
 ·
  obtain rfl : l' = [] := by
   cases l' with
   | nil => rfl
   | cons c l => have := of_decide_eq_false hgA; simp at this
  refine ow_off rfl rfl ?_
  refine ow_off rfl rfl ?_
  refine ow_off rfl rfl ?_
  refine ow_off rfl rfl ?_
  refine ow_op (by simp only [zo, mkS_size, mkS_get] <;> exact rfl) ?_
  refine ow_nil ?_
  refine sk_n (by simp only [ze] <;> exact rfl) ?_
  refine cw_false (by simp only [opd, zv, mkS_size, mkS_get]) ?_
  refine cw_exit (sk_e (lk_e (bk_e (sk_n rfl (cw_seq (cw_region ?_))))))
  refine ow_me rfl ?_
  refine ow_ml rfl ?_
  refine ow_nil ?_
  refine sk_n (by simp only [ze] <;> exact rfl) ?_
  refine cw_ret ?_
  refine ⟨_, by simp only [F99, resultD, resDs, resD, zg, zd, rowsOf, partD, List.take, List.drop, zm] <;> exact rfl, ?_⟩
  rw [← hl']; rfl

end Go.Proofs.YtabgobmeibjeeaaGreatDoor

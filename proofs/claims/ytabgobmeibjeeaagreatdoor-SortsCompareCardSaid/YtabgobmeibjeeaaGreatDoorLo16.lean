/- Proved here: rules by which the abstract machine is run on data that are not known; no condition. -/
import Derived.Test.YtabgobmeibjeeaaGreatDoorLo15
namespace Go.Proofs.YtabgobmeibjeeaaGreatDoor
set_option linter.unusedVariables false
set_option linter.unusedSimpArgs false

/-- rounds of a loop that the machine allows -/
def NN : Nat := 18446744073709551616
theorem NN_ge {k : Nat} (h : k ≤ 18446744073709551616) : ∃ m, NN = k + m := ⟨NN - k, by unfold NN; omega⟩

section
variable {call : CallF}
/-- a piece of code runs, and what is asked behind it holds -/
def CW (call : CallF) (c : LCode) (Q : LExit → List D → St → Prop) (env : List D) (S : St) : Prop :=
  ∃ e env' S', exCode call NN c env S = some (e, env', S') ∧ Q e env' S'
def OW (call : CallF) (ops : List LOper) (vals env : List D) (S : St) (K : List D → St → Prop) : Prop :=
  ∃ vals' S', exOps call ops vals env S = some (vals', S') ∧ K vals' S'
/-- operations of a region that draws its order -/
def DW (call : CallF) (n : Nat) (news : List (TypeId × List D)) (ops : List LOper) (fps : List FP) (vals env : List D) (S : St) (K : List D → St → Prop) : Prop :=
  ∃ vals' S', exDrw call n news ops fps vals env S = some (vals', S') ∧ K vals' S'

def SeqK (call : CallF) (b : LCode) (Q : LExit → List D → St → Prop) : LExit → List D → St → Prop
  | .normal, env, S => CW call b Q env S
  | e, env, S => Q e env S
def BlkK (i : Nat) (Q : LExit → List D → St → Prop) : LExit → List D → St → Prop
  | .exit j, env, S => if j = i then Q .normal env S else Q (.exit j) env S
  | e, env, S => Q e env S
variable {Q : LExit → List D → St → Prop} {env : List D} {S : St}

theorem cw_skip (h : Q .normal env S) : CW call .skip Q env S := ⟨_, _, _, rfl, h⟩
theorem cw_ret (h : Q .ret env S) : CW call .ret Q env S := ⟨_, _, _, rfl, h⟩
theorem cw_exit {i : Nat} (h : Q (.exit i) env S) : CW call (.exit i) Q env S := ⟨_, _, _, rfl, h⟩
theorem cw_seq {a b : LCode} (h : CW call a (SeqK call b Q) env S) : CW call (.seq a b) Q env S := by
  obtain ⟨e, env', S', h1, h2⟩ := h
  cases e with
  | normal =>
    obtain ⟨e2, env2, S2, h3, h4⟩ := h2
    exact ⟨e2, env2, S2, by simp only [exCode, h1]; exact h3, h4⟩
  | ret => exact ⟨.ret, env', S', by simp only [exCode, h1], h2⟩
  | exit i => exact ⟨.exit i, env', S', by simp only [exCode, h1], h2⟩
theorem cw_block {i : Nat} {c : LCode} (h : CW call c (BlkK i Q) env S) : CW call (.block i c) Q env S := by
  obtain ⟨e, env', S', h1, h2⟩ := h
  cases e with
  | normal => exact ⟨.normal, env', S', by simp only [exCode, h1], h2⟩
  | ret => exact ⟨.ret, env', S', by simp only [exCode, h1], h2⟩
  | exit j =>
    by_cases hj : j = i
    · exact ⟨.normal, env', S', by simp only [exCode, h1, hj, if_true], by simpa [BlkK, hj] using h2⟩
    · exact ⟨.exit j, env', S', by simp only [exCode, h1, hj, if_false], by simpa [BlkK, hj] using h2⟩
theorem cw_true {c : LOpd} {a b : LCode} (hc : opd [] env c = .bool true) (h : CW call a Q env S) : CW call (.cond c a b) Q env S := by
  obtain ⟨e, env', S', h1, h2⟩ := h
  exact ⟨e, env', S', by simp only [exCode, hc]; exact h1, h2⟩
theorem cw_false {c : LOpd} {a b : LCode} (hc : opd [] env c = .bool false) (h : CW call b Q env S) : CW call (.cond c a b) Q env S := by
  obtain ⟨e, env', S', h1, h2⟩ := h
  exact ⟨e, env', S', by simp only [exCode, hc]; exact h1, h2⟩
theorem cw_cond {c : LOpd} {a b : LCode} {t : Bool} (hc : opd [] env c = .bool t) (ht : t = true → CW call a Q env S) (hf : t = false → CW call b Q env S) : CW call (.cond c a b) Q env S := by
  cases t with
  | true => exact cw_true hc (ht rfl)
  | false => exact cw_false hc (hf rfl)
theorem cw_region {ops : List LOper} {exps : List (Nat × Nat)} (h : OW call ops [] env S (fun vals S' => Q .normal (exports exps vals env) S')) : CW call (.region ops exps) Q env S := by
  obtain ⟨vals, S', h1, h2⟩ := h
  exact ⟨_, _, _, by simp only [exCode, h1], h2⟩
theorem cw_drawn {ops : List LOper} {exps : List (Nat × Nat)} {news : List (TypeId × List D)} {tl : List D} {S0 : St} (ht : newsVals S.heap.length news.length = tl) (hS : (⟨S.heap ++ news.map newsObj, S.low⟩ : St) = S0) (h : DW call S.heap.length news ops [] tl env S0 (fun vals S' => Q .normal (exports exps vals env) S')) : CW call (.drawn ops exps news) Q env S := by
  subst ht hS
  obtain ⟨vals, S', h1, h2⟩ := h
  exact ⟨_, _, _, by simp only [exCode, h1], h2⟩
theorem cw_mono {c : LCode} {Q' : LExit → List D → St → Prop} (h : CW call c Q env S) (hq : ∀ e env' S', Q e env' S' → Q' e env' S') : CW call c Q' env S := by
  obtain ⟨e, env', S', h1, h2⟩ := h
  exact ⟨e, env', S', h1, hq _ _ _ h2⟩

variable {vals : List D} {K : List D → St → Prop} {os : List LOper} {l : LOp} {args : List LOpd} {od : List Bool} {ho : Option Nat}
theorem ow_nil (h : K vals S) : OW call [] vals env S K := ⟨_, _, rfl, h⟩
theorem ow_op {r : D} {S' : St} {wr : Bool} (hx : exOp call l (args.map (opd vals env)) S = some (r, S', wr)) (h : OW call os (r :: vals) env S' K) : OW call (⟨l, args, none, od, ho⟩ :: os) vals env S K := by
  obtain ⟨vals', S2, h1, h2⟩ := h
  refine ⟨vals', S2, ?_, h2⟩
  simp only [exOps, onG, hx]
  exact h1
theorem exOp_pop {r : D} (hl : l.loud = false) (hx : pop l (args.map (opd vals env)) = some r) : exOp call l (args.map (opd vals env)) S = some (r, S, false) := by
  have : exOp call l (args.map (opd vals env)) S = aop l (args.map (opd vals env)) S := by cases l <;> first | rfl | (simp [LOp.loud] at hl; done)
  rw [this]
  simp [aop, hl, hx]
/-- an operation on values -/
theorem ow_pop {r : D} (hl : l.loud = false) (hx : pop l (args.map (opd vals env)) = some r) (h : OW call os (r :: vals) env S K) : OW call (⟨l, args, none, od, ho⟩ :: os) vals env S K := ow_op (exOp_pop hl hx) h
theorem ow_on {d : Nat} {b : Bool} (hg : vals.getD d .undef = .bool b) (h : OW call (⟨l, args, none, od, ho⟩ :: os) vals env S K) : OW call (⟨l, args, some (d, b), od, ho⟩ :: os) vals env S K := by
  obtain ⟨vals', S2, h1, h2⟩ := h
  refine ⟨vals', S2, ?_, h2⟩
  simp only [exOps, onG, hg, beq_self_eq_true] at h1 ⊢
  exact h1
theorem ow_off {d : Nat} {b b' : Bool} (hg : vals.getD d .undef = .bool b') (hb : (b' == b) = false) (h : OW call os (.skip :: vals) env S K) : OW call (⟨l, args, some (d, b), od, ho⟩ :: os) vals env S K := by
  obtain ⟨vals', S2, h1, h2⟩ := h
  refine ⟨vals', S2, ?_, h2⟩
  simp only [exOps, onG, hg, hb]
  exact h1
theorem ow_gone {d : Nat} {b : Bool} (hg : vals.getD d .undef = .skip) (h : OW call os (.skip :: vals) env S K) : OW call (⟨l, args, some (d, b), od, ho⟩ :: os) vals env S K := by
  obtain ⟨vals', S2, h1, h2⟩ := h
  refine ⟨vals', S2, ?_, h2⟩
  simp only [exOps, onG, hg]
  exact h1
theorem ow_guard {d : Nat} {b b' : Bool} (hg : vals.getD d .undef = .bool b') (h1 : b' = b → OW call (⟨l, args, none, od, ho⟩ :: os) vals env S K) (h2 : b' = !b → OW call os (.skip :: vals) env S K) : OW call (⟨l, args, some (d, b), od, ho⟩ :: os) vals env S K := by
  by_cases e : b' = b
  · subst e
    exact ow_on hg (h1 rfl)
  · have : b' = !b := by cases b <;> cases b' <;> simp_all
    exact ow_off hg (by simpa using e) (h2 this)

theorem set_getD {vals : List D} {d : Nat} {x : D} (h : vals.getD d .undef = x) (hx : x ≠ .undef) : vals.set d x = vals := by
  induction vals generalizing d with
  | nil => simp at h; exact (hx h.symm).elim
  | cons a l ih =>
    cases d with
    | zero => simp at h; simp [h]
    | succ d => simp at h; simp; exact ih (by simpa using h)
/-- a test that guards what comes is known from here on -/
theorem ow_split {ops : List LOper} {vt vf : List D} (d : Nat) {b : Bool} (hg : vals.getD d .undef = .bool b) (ht : vals.set d (.bool true) = vt) (hf : vals.set d (.bool false) = vf) (h1 : b = true → OW call ops vt env S K) (h2 : b = false → OW call ops vf env S K) : OW call ops vals env S K := by
  cases b with
  | true => rw [← set_getD hg (by simp)]; rw [ht]; exact h1 rfl
  | false => rw [← set_getD hg (by simp)]; rw [hf]; exact h2 rfl

variable {n : Nat} {news : List (TypeId × List D)} {fps : List FP}
theorem dw_split {ops : List LOper} {vt vf : List D} (d : Nat) {b : Bool} (hg : vals.getD d .undef = .bool b) (ht : vals.set d (.bool true) = vt) (hf : vals.set d (.bool false) = vf) (h1 : b = true → DW call n news ops fps vt env S K) (h2 : b = false → DW call n news ops fps vf env S K) : DW call n news ops fps vals env S K := by
  cases b with
  | true => rw [← set_getD hg (by simp)]; rw [ht]; exact h1 rfl
  | false => rw [← set_getD hg (by simp)]; rw [hf]; exact h2 rfl
theorem dw_nil (h : K vals S) : DW call n news [] fps vals env S K := ⟨_, _, rfl, h⟩
theorem dw_op {r : D} {S' : St} {wr : Bool} {fp : FP} (hx : exOp call l (args.map (opd vals env)) S = some (r, S', wr)) (hf : fpHere n ⟨l, args, none, od, ho⟩ (args.map (opd vals env)) r wr = fp) (hok : okHere n news ⟨l, args, none, od, ho⟩ fps fp S' = true) (h : DW call n news os (fp :: fps) (r :: vals) env S' K) : DW call n news (⟨l, args, none, od, ho⟩ :: os) fps vals env S K := by
  obtain ⟨vals', S2, h1, h2⟩ := h
  subst hf
  refine ⟨vals', S2, ?_, h2⟩
  simp only [exDrw, onG, hx, hok, if_true]
  exact h1
theorem okFP_quiet : ∀ (bs : List Bool) (fs : List FP), bs.length = fs.length → okFP bs fs fpQuiet = true
  | [], [], _ => rfl
  | b :: bs, f :: fs, h => by
    simp only [okFP, Bool.and_eq_true]
    refine ⟨?_, okFP_quiet bs fs (by simpa using h)⟩
    unfold okPair
    split <;> simp_all [fpQuiet, apartW, indep]
  | [], _ :: _, h => by simp at h
  | _ :: _, [], h => by simp at h
/-- an operation on values -/
theorem dw_pop {r : D} (hl : l.loud = false) (hx : pop l (args.map (opd vals env)) = some r) (hn : od.length = fps.length) (h : DW call n news os (fpQuiet :: fps) (r :: vals) env S K) : DW call n news (⟨l, args, none, od, none⟩ :: os) fps vals env S K := by
  have hf : fpOf l (args.map (opd vals env)) r false = fpQuiet := by
    cases l <;> first | rfl | (simp [LOp.loud] at hl; done) | skip
    rename_i st _ _ _ _
    cases st
    · simp [LOp.loud] at hl
    · rfl
  refine dw_op (exOp_pop hl hx) (fp := fpQuiet) hf ?_ h
  simp only [okHere, Bool.and_eq_true]
  exact ⟨okFP_quiet od fps hn, rfl⟩
theorem dw_quiet {r : D} {wr : Bool} {S' : St} (hx : exOp call l (args.map (opd vals env)) S = some (r, S', wr)) (hl : l.loud = false) (hn : od.length = fps.length) (h : DW call n news os (fpQuiet :: fps) (r :: vals) env S' K) : DW call n news (⟨l, args, none, od, none⟩ :: os) fps vals env S K := by
  have : exOp call l (args.map (opd vals env)) S = aop l (args.map (opd vals env)) S := by cases l <;> first | rfl | (simp [LOp.loud] at hl; done)
  rw [this] at hx
  simp only [aop, hl, Bool.false_eq_true, if_false, Option.map_eq_some_iff, Prod.mk.injEq] at hx
  obtain ⟨r', h1, rfl, rfl, rfl⟩ := hx
  exact dw_pop hl h1 hn h
theorem dw_on {d : Nat} {b : Bool} (hg : vals.getD d .undef = .bool b) (h : DW call n news (⟨l, args, none, od, ho⟩ :: os) fps vals env S K) : DW call n news (⟨l, args, some (d, b), od, ho⟩ :: os) fps vals env S K := by
  obtain ⟨vals', S2, h1, h2⟩ := h
  refine ⟨vals', S2, ?_, h2⟩
  simp only [exDrw, onG, hg, beq_self_eq_true] at h1 ⊢
  exact h1
theorem dw_off {d : Nat} {b b' : Bool} (hg : vals.getD d .undef = .bool b') (hb : (b' == b) = false) (h : DW call n news os (fpQuiet :: fps) (.skip :: vals) env S K) : DW call n news (⟨l, args, some (d, b), od, ho⟩ :: os) fps vals env S K := by
  obtain ⟨vals', S2, h1, h2⟩ := h
  refine ⟨vals', S2, ?_, h2⟩
  simp only [exDrw, onG, hg, hb]
  exact h1
theorem dw_gone {d : Nat} {b : Bool} (hg : vals.getD d .undef = .skip) (h : DW call n news os (fpQuiet :: fps) (.skip :: vals) env S K) : DW call n news (⟨l, args, some (d, b), od, ho⟩ :: os) fps vals env S K := by
  obtain ⟨vals', S2, h1, h2⟩ := h
  refine ⟨vals', S2, ?_, h2⟩
  simp only [exDrw, onG, hg]
  exact h1
theorem dw_guard {d : Nat} {b b' : Bool} (hg : vals.getD d .undef = .bool b') (h1 : b' = b → DW call n news (⟨l, args, none, od, ho⟩ :: os) fps vals env S K) (h2 : b' = !b → DW call n news os (fpQuiet :: fps) (.skip :: vals) env S K) : DW call n news (⟨l, args, some (d, b), od, ho⟩ :: os) fps vals env S K := by
  by_cases e : b' = b
  · subst e
    exact dw_on hg (h1 rfl)
  · have : b' = !b := by cases b <;> cases b' <;> simp_all
    exact dw_off hg (by simpa using e) (h2 this)

/-- behind a round of a loop -/
def LoopK (I : Nat → List D → St → Prop) (n : Nat) (Q : LExit → List D → St → Prop) : LExit → List D → St → Prop
  | .normal, env, S => ∃ m, m < n ∧ I m env S
  | e, env, S => Q e env S
/-- a loop: an invariant I n, where n bounds the rounds that are left -/
theorem cw_loop {c : LCode} (I : Nat → List D → St → Prop) (n : Nat) (hn : n < 18446744073709551616) (h0 : I n env S) (hr : ∀ n env S, I n env S → CW call c (LoopK I n Q) env S) : CW call (.loop c) Q env S := by
  have key : ∀ n k env S, n < k → I n env S → ∃ e env' S', loopN (exCode call NN c) k env S = some (e, env', S') ∧ Q e env' S' := by
    intro n
    induction n using Nat.strongRecOn with
    | _ n ih =>
      intro k env S hk hI
      obtain ⟨e, env1, S1, h1, h2⟩ := hr n env S hI
      obtain ⟨k', rfl⟩ : ∃ k', k = k' + 1 := ⟨k - 1, by omega⟩
      simp only [loopN, h1]
      cases e with
      | normal =>
        obtain ⟨m, hm, hI'⟩ := h2
        exact ih m hm k' env1 S1 (by omega) hI'
      | ret => exact ⟨.ret, env1, S1, rfl, h2⟩
      | exit i => exact ⟨.exit i, env1, S1, rfl, h2⟩
  obtain ⟨e, env', S', h1, h2⟩ := key n NN env S (by unfold NN; exact hn) h0
  exact ⟨e, env', S', by simp only [exCode]; exact h1, h2⟩
end

/-- what is asked behind a function's body -/
def FinK (L : Prg) (f : FuncId) (F : LFunc) (S : St) (x : D × St × Bool) : LExit → List D → St → Prop
  | .exit _, _, _ => False
  | _, env', S2 => ∃ r0, resultD env' S2 F.res = some r0 ∧ leave (L.raw f) S r0 S2 = some x
/-- the same behind a call on the empty heap -/
def FinP (F : LFunc) (r : D) : LExit → List D → St → Prop
  | .exit _, _, _ => False
  | _, env', S2 => ∃ r0, resultD env' S2 F.res = some r0 ∧ leaveP ⟨[], 0⟩ r0 S2 = some (r, ⟨[], 0⟩, false)
theorem leaveP_any {S T : St} {r0 r : D} {S2 : St} (h : leaveP T r0 S2 = some (r, T, false)) : leaveP S r0 S2 = some (r, S, false) := by
  unfold leaveP at h ⊢
  split at h
  · rename_i r' S3 hl
    split at h
    · rename_i hf
      simp only [Option.some.injEq, Prod.mk.injEq] at h
      obtain ⟨rfl, _⟩ := h
      simp [hf]
    · simp at h
  · simp at h
theorem run_at {L : Prg} {d : Nat} {f : FuncId} {F : LFunc} {args args' env0 : List D} {S : St} {x : D × St × Bool} (hF : L.fns f = some F) (ha : (if L.raw f then some args else snapVs S.heap.length S.heap args) = some args') (hl : args'.length = F.nargs) (hp : (L.pure f && args'.all D.freeV) = false) (he : (F.slots.map fun s => args'.getD s .undef) = env0) (hd : 0 < d)
    (hb : ∀ d', d = d' + 1 → CW (runF L NN d') F.body (FinK L f F S x) env0 ⟨S.heap, S.heap.length⟩) : runF L NN d f args S = some x := by
  subst he
  obtain ⟨d', rfl⟩ : ∃ d', d = d' + 1 := ⟨d - 1, by omega⟩
  obtain ⟨e, env', S2, h1, h2⟩ := hb d' rfl
  simp only [runF, hF, ha, hl, hp, ne_eq, not_true_eq_false, if_false, Bool.false_eq_true, h1]
  cases e with
  | exit i => exact h2.elim
  | normal =>
    obtain ⟨r0, h3, h4⟩ := h2
    simp only [h3]
    exact h4
  | ret =>
    obtain ⟨r0, h3, h4⟩ := h2
    simp only [h3]
    exact h4
/-- a pure function -/
theorem run_pure {L : Prg} {d : Nat} {f : FuncId} {F : LFunc} {args args' env0 : List D} {S : St} {r : D} (hF : L.fns f = some F) (ha : (if L.raw f then some args else snapVs S.heap.length S.heap args) = some args') (hl : args'.length = F.nargs) (hp : (L.pure f && args'.all D.freeV) = true) (he : (F.slots.map fun s => args'.getD s .undef) = env0) (hd : 0 < d)
    (hb : ∀ d', d = d' + 1 → CW (runF L NN d') F.body (FinP F r) env0 ⟨[], 0⟩) : runF L NN d f args S = some (r, S, false) := by
  subst he
  obtain ⟨d', rfl⟩ : ∃ d', d = d' + 1 := ⟨d - 1, by omega⟩
  obtain ⟨e, env', S2, h1, h2⟩ := hb d' rfl
  simp only [runF, hF, ha, hl, hp, ne_eq, not_true_eq_false, if_false, if_true, h1]
  cases e with
  | exit i => exact h2.elim
  | normal =>
    obtain ⟨r0, h3, h4⟩ := h2
    simp only [h3]
    exact leaveP_any h4
  | ret =>
    obtain ⟨r0, h3, h4⟩ := h2
    simp only [h3]
    exact leaveP_any h4
section
variable {call : CallF} {b : LCode} {Q : LExit → List D → St → Prop} {env env' : List D} {S : St} {i j : Nat}
theorem sk_n (he : env' = env) (h : CW call b Q env S) : SeqK call b Q .normal env' S := he ▸ h
theorem sk_r (h : Q .ret env S) : SeqK call b Q .ret env S := h
theorem sk_e (h : Q (.exit i) env S) : SeqK call b Q (.exit i) env S := h
theorem bk_n (h : Q .normal env S) : BlkK i Q .normal env S := h
theorem bk_r (h : Q .ret env S) : BlkK i Q .ret env S := h
theorem bk_e (h : Q .normal env S) : BlkK i Q (.exit i) env S := by simpa [BlkK] using h
theorem lk_n {I : Nat → List D → St → Prop} {n : Nat} (he : env' = env) (h : ∃ m, m < n ∧ I m env S) : LoopK I n Q .normal env' S := he ▸ h
theorem lk_r {I : Nat → List D → St → Prop} {n : Nat} (h : Q .ret env S) : LoopK I n Q .ret env S := h
theorem lk_e {I : Nat → List D → St → Prop} {n : Nat} (h : Q (.exit i) env S) : LoopK I n Q (.exit i) env S := h
theorem bk_o (hj : (j == i) = false) (h : Q (.exit j) env S) : BlkK i Q (.exit j) env S := by
  have : ¬ j = i := by simpa using hj
  simpa [BlkK, this] using h
end
/-! the heap behind known objects -/
theorem at_app {α : Type} (H L : List α) (k : Nat) : (H ++ L)[H.length + k]? = L[k]? := by
  rw [List.getElem?_append_right (by omega), Nat.add_sub_cancel_left]
theorem at_app0 {α : Type} (H L : List α) : (H ++ L)[H.length]? = L[0]? := at_app H L 0
theorem set_app {α : Type} (H L : List α) (k : Nat) (x : α) : (H ++ L).set (H.length + k) x = H ++ L.set k x := by
  rw [List.set_append, if_neg (by omega), Nat.add_sub_cancel_left]
theorem set_app0 {α : Type} (H L : List α) (x : α) : (H ++ L).set H.length x = H ++ L.set 0 x := set_app H L 0 x
theorem min_low (n k : Nat) : min n (n + k) = n := by omega
end Go.Proofs.YtabgobmeibjeeaaGreatDoor

/- Proved here: rows that are appended to, somewhere in the abstract heap; no condition. -/
import Derived.Test.YtabgobmeibjeeaaGreatDoorLo17
namespace Go.Proofs.YtabgobmeibjeeaaGreatDoor
set_option linter.unusedVariables false
set_option linter.unusedSimpArgs false

/-! rows that are appended to, somewhere in the heap -/
def appY (sz : Nat) : List (List D) → D
  | [] => .nils
  | rows => .sl sz rows none
theorem appY_S (sz : Nat) (rows : List (List D)) : SlD sz rows (appY sz rows) := by
  cases rows with
  | nil => exact .nil _
  | cons r l => exact .of _ _ _
theorem strsD_appY (l : List ByteArray) : strsD l = appY 1 (strRows l) := by cases l <;> rfl
def AppAt (e : TypeId) (sz : Nat) (rows : List (List D)) (H : List AObj) (x : D) : Prop :=
  (rows = [] ∧ x = .nils) ∨ (rows ≠ [] ∧ ∃ g v, x = .msl g v 0 rows.length none ∧ H[g]? = some ⟨e, sz, rows, v, 1, true⟩)
theorem get_app {α : Type} {H : List α} {g : Nat} {o : α} (h : H[g]? = some o) (l : List α) : (H ++ l)[g]? = some o := by
  rw [List.getElem?_append_left (List.getElem?_eq_some_iff.1 h).1]; exact h
theorem get_set_ne {α : Type} {H : List α} {g k : Nat} {o : α} (h : H[g]? = some o) (hk : k ≠ g) (x : α) : (H.set k x)[g]? = some o := by
  rw [List.getElem?_set_ne hk]; exact h
theorem get_set_self {α : Type} {H : List α} {g : Nat} {o : α} (h : H[g]? = some o) (x : α) : (H.set g x)[g]? = some x := by
  rw [List.getElem?_set_self (List.getElem?_eq_some_iff.1 h).1]
section
variable {e : TypeId} {sz : Nat} {rows : List (List D)} {H : List AObj} {x : D}
theorem AppAt.nil (e : TypeId) (sz : Nat) (H : List AObj) : AppAt e sz [] H .nils := .inl ⟨rfl, rfl⟩
theorem AppAt.keep {H' : List AObj} (h : AppAt e sz rows H x) (hk : ∀ (g : Nat) (o : AObj), H[g]? = some o → o.kind = 1 → o.elem = e → H'[g]? = some o) : AppAt e sz rows H' x := by
  rcases h with h | ⟨h0, g, v, h1, h2⟩
  · exact .inl h
  · exact .inr ⟨h0, g, v, h1, hk g _ h2 rfl rfl⟩
theorem AppAt.push (h : AppAt e sz rows H x) (l : List AObj) : AppAt e sz rows (H ++ l) x := h.keep fun g o ho _ _ => get_app ho l
/-- another object is written -/
theorem AppAt.put (h : AppAt e sz rows H x) {k : Nat} {o' : AObj} (hk : H[k]? = some o') (hne : o'.kind = 0 ∨ o'.elem ≠ e) (n : AObj) : AppAt e sz rows (H.set k n) x := h.keep fun g o ho h1 h2 => by
  refine get_set_ne ho (fun hkg => ?_) n
  subst hkg
  rw [hk] at ho
  simp only [Option.some.injEq] at ho
  subst ho
  rcases hne with h | h
  · rw [h1] at h; simp at h
  · exact h h2
theorem AppAt.len (h : AppAt e sz rows H x) : lenD false x = some (.int .i64 rows.length) := by
  rcases h with ⟨rfl, rfl⟩ | ⟨h0, g, v, rfl, h2⟩ <;> rfl
theorem AppAt.snap (h : AppAt e sz rows H x) (m : Nat) : snap m H x = some (appY sz rows) := by
  rcases h with ⟨rfl, rfl⟩ | ⟨h0, g, v, rfl, h2⟩
  · rfl
  · cases rows with
    | nil => exact absurd rfl h0
    | cons r l => simp [snap_msl, h2, appY]
theorem AppAt.snapV (h : AppAt e sz rows H x) (m : Nat) : snapV m H x = some (appY sz rows) := by
  rw [← h.snap m]
  rcases h with ⟨rfl, rfl⟩ | ⟨h0, g, v, rfl, h2⟩ <;> rfl
theorem AppAt.snapR (h : AppAt e sz rows H x) (m : Nat) : snapR m H x = some (appY sz rows) := by
  rw [← h.snap m]
  rcases h with ⟨rfl, rfl⟩ | ⟨h0, g, v, rfl, h2⟩ <;> rfl
theorem AppAt.isCell (h : AppAt e sz rows H x) : x.isCell = true := by rcases h with ⟨rfl, rfl⟩ | ⟨h0, g, v, rfl, h2⟩ <;> rfl
theorem AppAt.val (h : AppAt e sz rows H x) : x.val = true := by rcases h with ⟨rfl, rfl⟩ | ⟨h0, g, v, rfl, h2⟩ <;> rfl
theorem AppAt.cells (h : AppAt e sz rows H x) : x.cells = [x] := by rcases h with ⟨rfl, rfl⟩ | ⟨h0, g, v, rfl, h2⟩ <;> rfl
theorem AppAt.app (h : AppAt e sz rows H x) (bytes : Nat) {new : List (List D)} {c : Option Nat} (hn : new.isEmpty = false) (hb : (rows.length + new.length) * bytes ≤ 140737488355328) :
    ∃ x' H', appendD e sz bytes 1 x (.sl sz new c) ⟨H, 0⟩ = some (x', ⟨H', 0⟩, true) ∧ AppAt e sz (rows ++ new) H' x' ∧ H.length ≤ H'.length ∧ ∀ (g : Nat) (o : AObj), H[g]? = some o → (o.kind = 0 ∨ o.elem ≠ e) → H'[g]? = some o := by
  have hne : rows ++ new ≠ [] := by cases new <;> simp at hn ⊢
  rcases h with ⟨rfl, rfl⟩ | ⟨h0, g, v, rfl, h2⟩
  · refine ⟨.msl H.length 0 0 new.length none, H ++ [⟨e, sz, new, 0, 1, true⟩], ?_, .inr ⟨hne, H.length, 0, by simp, by simp⟩, by simp, fun g o ho _ => get_app ho _⟩
    simp only [List.length_nil, Nat.zero_add] at hb
    simp [appendD, appendRows, readRows, hn, hb, newAt]
  · refine ⟨.msl g (v + 1) 0 (rows.length + new.length) none, H.set g ⟨e, sz, rows ++ new, v + 1, 1, true⟩, ?_, .inr ⟨hne, g, v + 1, by simp, get_set_self h2 _⟩, by simp, fun g' o ho hk => ?_⟩
    · simp [appendD, appendRows, readRows, rowsOf, h2, hb, setAt]
    · refine get_set_ne ho (fun hgg => ?_) _
      subst hgg
      rw [h2] at ho
      simp only [Option.some.injEq] at ho
      subst ho
      rcases hk with h | h
      · simp at h
      · exact h rfl
end
section
variable {call : CallF} {vals env : List D} {S : St} {K : List D → St → Prop} {n : Nat} {news : List (TypeId × List D)} {fps : List FP}
/-- a test that guards what comes is known -/
theorem ow_know {ops : List LOper} {vt : List D} (d : Nat) {b : Bool} (hg : vals.getD d .undef = .bool b) (ht : vals.set d (.bool b) = vt) (h : OW call ops vt env S K) : OW call ops vals env S K := by
  rw [set_getD hg (by simp)] at ht; rw [ht]; exact h
theorem dw_know {ops : List LOper} {vt : List D} (d : Nat) {b : Bool} (hg : vals.getD d .undef = .bool b) (ht : vals.set d (.bool b) = vt) (h : DW call n news ops fps vt env S K) : DW call n news ops fps vals env S K := by
  rw [set_getD hg (by simp)] at ht; rw [ht]; exact h
end
theorem plainV_int (k : IntKind) (n : Int) : plainV (.int k n) = true := rfl
theorem plainV_str (s : ByteArray) : plainV (.str s) = true := rfl
theorem plainV_bool (b : Bool) : plainV (.bool b) = true := rfl
theorem AppAt.plainV {e : TypeId} {sz : Nat} {rows : List (List D)} {H : List AObj} {x : D} (h : AppAt e sz rows H x) (hne : rows ≠ []) : plainV x = false := by
  rcases h with ⟨rfl, rfl⟩ | ⟨h0, g, v, rfl, h2⟩
  · exact absurd rfl hne
  · rfl
theorem cw_eval {call : CallF} {c : LCode} {Q : LExit → List D → St → Prop} {env env' : List D} {S S' : St} {e : LExit} (h : exCode call NN c env S = some (e, env', S')) (hq : Q e env' S') : CW call c Q env S := ⟨e, env', S', h, hq⟩
/-- rows that were appended to are given back -/
theorem leaveP_app {S2 T : St} {g e sz v n : Nat} {rows : List (List D)} (h : S2.heap[g]? = some ⟨e, sz, rows, v, 1, true⟩) (hn : rows.length = n) : leaveP T (.msl g v 0 n none) S2 = some (.sl sz rows none, T, false) := by
  subst hn
  simp [leaveP, leave, snapR_msl, snapV_msl, snap_msl, h, freeR_sl]
end Go.Proofs.YtabgobmeibjeeaaGreatDoor

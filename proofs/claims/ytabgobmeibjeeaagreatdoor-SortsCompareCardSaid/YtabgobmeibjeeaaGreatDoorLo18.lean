/- Proved here: a call that the abstract machine answers on the empty heap is a call of the program that returns that answer and leaves old memory as it was; no condition. -/
import Derived.Test.YtabgobmeibjeeaaGreatDoorLo17
import Derived.Below
import Derived.ChangeArms
import Derived.OpenShut
import Derived.DataReads
import Derived.Deep.Slices
namespace Go.Proofs.YtabgobmeibjeeaaGreatDoor
open Go.RowKit
set_option linter.unusedVariables false

/-- no object of the abstract heap lies anywhere -/
def rho0 : RMap := ⟨fun _ => none, fun _ _ => False⟩
theorem rel0 (w : World) : Rel w rho0 [] := ⟨fun g g' b h => by simp [rho0] at h, fun g b h => by simp [rho0] at h, fun b q h => h.elim⟩
theorem imm0 {w : World} {b q : Nat} (h : b < w.heap.size) : Imm w rho0 [] b q := ⟨h, fun h => h, fun g hg => by simp [rho0] at hg⟩
theorem call0 {P : Program} {L : Prg} (hm : P.follows .mixedOrders = true) (hL : PrgOK P L) {N d : Nat} {f : FuncId} {ds : List D} {b : Bool} (h : runF L N d f ds ⟨[], 0⟩ = some (.bool b, ⟨[], 0⟩, false)) {w : World} {vs : List Value} (hv : VL w rho0 [] ds vs) :
    Calls P f vs.toArray w fun e w' => e = .returned (.bool b) ∧ Below w.heap.size w w' := by
  obtain ⟨_, hc⟩ := run_ok hm hL N d f ds ⟨[], 0⟩ (.bool b) ⟨[], 0⟩ false h w rho0 vs (rel0 w) hv
  refine hc.mono ?_
  rintro e w' ⟨v, rfl, hp⟩
  obtain ⟨ρ', hr, hs, hv', _⟩ := hp
  refine ⟨?_, ?_⟩
  · cases hv'
    rfl
  · exact ⟨hs.os, hs.tape, hs.output, hs.size, fun k hk => (hs.out k hk (fun g hg => by simp [rho0] at hg)).1⟩
/-! an argument, as it is read, in the machine -/
section
variable {H : Type} {enc : TypeId × Value → H} {P : Program} {w : World} {base : Nat} {spare : Nat → Bool} {held : Bool}
/-- where the parts of a struct end, if they lie one behind the other -/
def tileT (P : Program) : List Field → Nat → Option Nat
  | [], o => some o
  | f :: l, o => if f.offset = o then tileT P l (o + P.cellsOf f.type) else none
/-- a type of plain data -/
def okT (P : Program) : Nat → TypeId → Bool
  | 0, _ => false
  | n + 1, t => match P.underlying t with
    | some (.int _) | some .bool | some .string => P.cellsOf t == 1
    | some (.slice e) => P.cellsOf t == 1 && okT P n e && decide (0 < P.cellsOf e)
    | some (.array k e) => okT P n e && P.cellsOf t == k * P.cellsOf e
    | some (.struct fs) => tileT P fs.toList 0 == some (P.cellsOf t) && fs.all fun f => okT P n f.type
    | _ => false
/-- the cells of a value of a type, in the machine -/
def Sh (P : Program) : Nat → TypeId → List D → Prop
  | 0, _, _ => False
  | n + 1, t, ds => match P.underlying t with
    | some (.int k) => ∃ m, ds = [.int k m] ∧ (Lit.int k m).wf = true
    | some .bool => ∃ b, ds = [.bool b]
    | some .string => ∃ s : ByteArray, ds = [.str s] ∧ s.size ≤ maxLen
    | some (.slice e) => ∃ x rows, ds = [x] ∧ SlD (P.cellsOf e) rows x ∧ rows.length ≤ maxLen ∧ ∀ r ∈ rows, Sh P n e r
    | some (.array k e) => ∃ parts : List (List D), ds = parts.flatten ∧ parts.length = k ∧ ∀ r ∈ parts, Sh P n e r
    | some (.struct fs) => ∃ parts : List (List D), ds = parts.flatten ∧ parts.length = fs.size ∧ ∀ (j : Nat) (f : Field), fs[j]? = some f → ∃ r, parts[j]? = some r ∧ Sh P n f.type r
    | _ => False
theorem Sh.int {n : Nat} {t : TypeId} {k : IntKind} {ds : List D} (hu : P.underlying t = some (.int k)) (h : Sh P (n + 1) t ds) : ∃ m, ds = [.int k m] ∧ (Lit.int k m).wf = true := by simpa only [Sh, hu] using h
theorem Sh.bool {n : Nat} {t : TypeId} {ds : List D} (hu : P.underlying t = some .bool) (h : Sh P (n + 1) t ds) : ∃ b, ds = [.bool b] := by simpa only [Sh, hu] using h
theorem Sh.str {n : Nat} {t : TypeId} {ds : List D} (hu : P.underlying t = some .string) (h : Sh P (n + 1) t ds) : ∃ s : ByteArray, ds = [.str s] ∧ s.size ≤ maxLen := by simpa only [Sh, hu] using h
theorem Sh.slice {n : Nat} {t e : TypeId} {ds : List D} (hu : P.underlying t = some (.slice e)) (h : Sh P (n + 1) t ds) : ∃ x rows, ds = [x] ∧ SlD (P.cellsOf e) rows x ∧ rows.length ≤ maxLen ∧ ∀ r ∈ rows, Sh P n e r := by simpa only [Sh, hu] using h
theorem Sh.array {n k : Nat} {t e : TypeId} {ds : List D} (hu : P.underlying t = some (.array k e)) (h : Sh P (n + 1) t ds) : ∃ parts : List (List D), ds = parts.flatten ∧ parts.length = k ∧ ∀ r ∈ parts, Sh P n e r := by simpa only [Sh, hu] using h
theorem Sh.struct {n : Nat} {t : TypeId} {fs : Array Field} {ds : List D} (hu : P.underlying t = some (.struct fs)) (h : Sh P (n + 1) t ds) : ∃ parts : List (List D), ds = parts.flatten ∧ parts.length = fs.size ∧ ∀ (j : Nat) (f : Field), fs[j]? = some f → ∃ r, parts[j]? = some r ∧ Sh P n f.type r := by simpa only [Sh, hu] using h
/-- rows that are each of a form are the rows of a list -/
theorem rows_of {α : Type} {f : α → List D} : ∀ {rows : List (List D)}, (∀ r ∈ rows, ∃ a, r = f a) → ∃ l : List α, rows = l.map f
  | [], _ => ⟨[], rfl⟩
  | r :: rows, h => by
    obtain ⟨l, rfl⟩ := rows_of (fun r' hr' => h r' (List.mem_cons_of_mem _ hr'))
    obtain ⟨a, rfl⟩ := h r List.mem_cons_self
    exact ⟨a :: l, rfl⟩
theorem u8_nat {n : Int} (h : (Lit.int .u8 n).wf = true) : ∃ m : Nat, n = m ∧ m < 256 := by
  have b : 0 ≤ n ∧ n ≤ 255 := by simpa [Lit.wf, IntKind.min, IntKind.max, IntKind.signed, IntKind.bits] using h
  exact ⟨n.toNat, by omega, by omega⟩
def freeL (ds : List D) : Prop := ∀ d ∈ ds, d.free = true
theorem freeL_flatten {parts : List (List D)} (h : ∀ r ∈ parts, freeL r) : freeL parts.flatten := by
  intro d hd
  obtain ⟨r, hr, hd⟩ := List.mem_flatten.1 hd
  exact h r hr d hd
theorem cell_plain {a : Addr} {v : Value} (h : w.cell? a = some v) : a.spot = none ∧ a.block < w.heap.size := by
  refine ⟨?_, World.block_lt_of_cell? w _ h⟩
  unfold World.cell? at h
  split at h
  · split at h
    · simp at h
    · rename_i hs; simpa using hs
  · simp at h
theorem vr_rows {sz len cap : Nat} {a : Addr} {rows : List (List D)} {vals : List (List Value)} (h0z : 0 < sz) (hlen : rows.length = len) (hvl : vals.length = len) (hcap : len ≤ cap) (hz : ∀ r ∈ rows, r.length = sz) (hfree : ∀ r ∈ rows, freeL r)
    (hi : ∀ i r vs, rows[i]? = some r → vals[i]? = some vs → VL w rho0 [] r vs ∧ ∀ j, j < sz → w.cell? (a.add (i * sz + j)) = vs[j]?) :
    VR w rho0 [] (.sl sz rows none) (.slice (some a) len cap) := by
  by_cases hne : rows ≠ []
  · have h0 : 0 < rows.length := List.length_pos_iff.2 hne
    have hv0 : 0 < vals.length := by omega
    have hr0 : rows[0]? = some rows[0] := List.getElem?_eq_getElem h0
    obtain ⟨hl, hc⟩ := hi 0 _ _ hr0 (List.getElem?_eq_getElem hv0)
    have hs0 := hz rows[0] (List.getElem_mem h0)
    have hc := hc 0 h0z
    have hl := hl.len
    rw [List.getElem?_eq_getElem (by omega)] at hc
    rw [show a.add (0 * sz + 0) = a by simp [Addr.add]] at hc
    obtain ⟨hsp, _⟩ := cell_plain hc
    obtain ⟨b, o, sp⟩ := a
    have hsp : sp = none := hsp
    subst hsp
    have hb : b < w.heap.size := World.block_lt_of_cell? w _ hc
    refine VR.sl sz rows none ⟨b, o, none⟩ len cap hlen.symm hcap (fun k h => by simp at h) hz b o (fun i j => ((vals[i]?.getD [])[j]?).getD .nilFunc) (fun _ => rfl) ?_ ?_
    · intro i r j d h1 h2
      obtain ⟨i1, _⟩ := List.getElem?_eq_some_iff.1 h1
      have hv1 : vals[i]? = some (vals[i]'(by omega)) := List.getElem?_eq_getElem (by omega)
      obtain ⟨hl', hc'⟩ := hi i r _ h1 hv1
      have hz' := hz r (List.mem_of_getElem? h1)
      have hj := (List.getElem?_eq_some_iff.1 h2).1
      have hc' := hc' j (by omega)
      rw [add_plain, ← Nat.add_assoc] at hc'
      have hl'' := hl'.len
      refine ⟨?_, imm0 hb, hfree r (List.mem_of_getElem? h1) d (List.mem_of_getElem? h2)⟩
      rw [hc', hv1]
      simp [List.getElem?_eq_getElem (show j < (vals[i]'(by omega)).length by omega)]
    · intro i r j d h1 h2
      obtain ⟨i1, _⟩ := List.getElem?_eq_some_iff.1 h1
      have hv1 : vals[i]? = some (vals[i]'(by omega)) := List.getElem?_eq_getElem (by omega)
      obtain ⟨hl', _⟩ := hi i r _ h1 hv1
      have hj := (List.getElem?_eq_some_iff.1 h2).1
      have hl'' := hl'.len
      refine hl'.get h2 ?_
      rw [hv1]
      simp [List.getElem?_eq_getElem (show j < (vals[i]'(by omega)).length by omega)]
  · have he : rows = [] := Classical.byContradiction hne
    subst he
    exact VR.sl sz [] none a len cap hlen.symm hcap (fun k h => by simp at h) hz 0 0 (fun _ _ => .nilFunc) (fun h => absurd rfl h) (fun i r j d h1 => by simp at h1) (fun i r j d h1 => by simp at h1)
theorem choose_rows {α β : Type} {p : Nat → α → β → Prop} : ∀ n, (∀ i, i < n → ∃ a b, p i a b) → ∃ (l : List α) (m : List β), l.length = n ∧ m.length = n ∧ ∀ i a b, l[i]? = some a → m[i]? = some b → p i a b
  | 0, _ => ⟨[], [], rfl, rfl, fun i a b h => by simp at h⟩
  | n + 1, h => by
    obtain ⟨l, m, h1, h2, h3⟩ := choose_rows n (fun i hi => h i (by omega))
    obtain ⟨a, b, hab⟩ := h n (by omega)
    refine ⟨l ++ [a], m ++ [b], by simp [h1], by simp [h2], fun i a' b' e1 e2 => ?_⟩
    rw [List.getElem?_append] at e1 e2
    rw [h1] at e1
    rw [h2] at e2
    by_cases hi : i < n
    · rw [if_pos hi] at e1 e2
      exact h3 i a' b' e1 e2
    · rw [if_neg hi] at e1 e2
      have : i = n := by
        rcases Nat.lt_trichotomy i n with h | h | h
        · omega
        · exact h
        · rw [List.getElem?_eq_none (by simp; omega)] at e1; simp at e1
      subst this
      simp at e1 e2
      subst e1 e2
      exact hab
theorem vl_parts {n : Nat} {cs : List Value} : ∀ (fs : List Field) (o e : Nat), tileT P fs o = some e → (∀ (j : Nat) (f : Field), fs[j]? = some f → ∃ r, VL w rho0 [] r ((cs.drop f.offset).take (P.cellsOf f.type)) ∧ Sh P n f.type r ∧ freeL r) →
    ∃ parts : List (List D), parts.length = fs.length ∧ o ≤ e ∧ VL w rho0 [] parts.flatten ((cs.drop o).take (e - o)) ∧ freeL parts.flatten ∧ ∀ (j : Nat) (f : Field), fs[j]? = some f → ∃ r, parts[j]? = some r ∧ Sh P n f.type r
  | [], o, e, h, _ => by
    simp only [tileT, Option.some.injEq] at h
    subst h
    exact ⟨[], rfl, Nat.le_refl _, by simpa using VL.nil, fun d hd => by simp at hd, fun j f h => by simp at h⟩
  | f :: l, o, e, h, hf => by
    simp only [tileT] at h
    split at h
    · rename_i ho
      obtain ⟨parts, h1, h2, h3, h4, h5⟩ := vl_parts l _ e h (fun j g hg => hf (j + 1) g (by simpa using hg))
      obtain ⟨r, r1, r2, r3⟩ := hf 0 f rfl
      rw [ho] at r1
      refine ⟨r :: parts, by simp [h1], by omega, ?_, ?_, ?_⟩
      · have e1 : (cs.drop o).take (e - o) = (cs.drop o).take (P.cellsOf f.type) ++ (cs.drop (o + P.cellsOf f.type)).take (e - (o + P.cellsOf f.type)) := by
          have : e - o = P.cellsOf f.type + (e - (o + P.cellsOf f.type)) := by omega
          rw [this, List.take_add, List.drop_drop]
        rw [List.flatten_cons, e1]
        exact r1.append h3
      · rw [List.flatten_cons]
        intro d hd
        rcases List.mem_append.1 hd with hd | hd
        · exact r3 d hd
        · exact h4 d hd
      · intro j g hg
        cases j with
        | zero => simp at hg; subst hg; exact ⟨r, rfl, r2⟩
        | succ j => simpa using h5 j g (by simpa using hg)
    · simp at h
/-- what is read of an argument of plain data, in the machine -/
theorem open_any : ∀ (n : Nat) (t : TypeId) (fuel : Nat) (cs : List Value) (x : DataW H × List MemPlace), okT P n t = true → DataW.trod enc P w base spare held fuel t cs = some x → ∃ ds, VL w rho0 [] ds cs ∧ Sh P n t ds ∧ freeL ds ∧ ds.length = P.cellsOf t
  | 0, t, fuel, cs, x, ho, h => by simp [okT] at ho
  | n + 1, t, fuel, cs, x, ho, h => by
    simp only [okT] at ho
    split at ho
    · rename_i k hu
      obtain ⟨m, rfl, _, hw⟩ := DataW.trod_int hu h
      exact ⟨[.int k m], .cons (.int k m) .nil, by simp only [Sh, hu]; exact ⟨m, rfl, hw⟩, by simp [freeL, free_int], by simpa using (beq_iff_eq.1 ho).symm⟩
    · rename_i hu
      obtain ⟨b, rfl, _⟩ := DataW.trod_bool hu h
      exact ⟨[.bool b], .cons (.bool b) .nil, by simp only [Sh, hu]; exact ⟨b, rfl⟩, by simp [freeL, free_bool], by simpa using (beq_iff_eq.1 ho).symm⟩
    · rename_i hu
      obtain ⟨s, rfl, _, hs⟩ := DataW.trod_string hu h
      exact ⟨[.str s], .cons (.str s) .nil, by simp only [Sh, hu]; exact ⟨s, rfl, hs⟩, by simp [freeL, free_str], by simpa using (beq_iff_eq.1 ho).symm⟩
    · rename_i e hu
      simp only [Bool.and_eq_true, beq_iff_eq, decide_eq_true_eq] at ho
      obtain ⟨⟨hc1, ho⟩, hpos⟩ := ho
      rcases DataW.trod_slice hu h with ⟨rfl, _⟩ | ⟨a, len, cap, elems, rest, m, _, rfl, _, hb, hl, hm, hel, hi, _⟩
      · exact ⟨[.nils], .cons .nils .nil, by simp only [Sh, hu]; exact ⟨_, [], rfl, .nil _, by simp, by simp⟩, by simp [freeL, free_nils], by simp [hc1]⟩
      · have key : ∀ i, i < len → ∃ (r : List D) (vs : List Value), (VL w rho0 [] r vs ∧ ∀ j, j < P.cellsOf e → w.cell? (a.add (i * P.cellsOf e + j)) = vs[j]?) ∧ Sh P n e r ∧ freeL r ∧ r.length = P.cellsOf e := by
          intro i hi'
          have h1 := hi i hi'
          rw [List.getElem?_eq_getElem (by omega), Option.bind_eq_some_iff] at h1
          obtain ⟨vs, hv, ht⟩ := h1
          obtain ⟨r, r1, r2, r3, r4⟩ := open_any n e m vs _ ho ht
          refine ⟨r, vs, ⟨r1, fun j hj => ?_⟩, r2, r3, r4⟩
          obtain ⟨_, _, hat⟩ := World.cells?_some hv
          rw [← Go.Deep.add_add]
          exact hat j hj
        obtain ⟨rows, vals, h1, h2, h3⟩ := choose_rows len key
        have hall : ∀ r ∈ rows, Sh P n e r ∧ freeL r ∧ r.length = P.cellsOf e := by
          intro r hr
          obtain ⟨i, hi1, rfl⟩ := List.getElem_of_mem hr
          exact (h3 i _ _ (List.getElem?_eq_getElem hi1) (List.getElem?_eq_getElem (show i < vals.length by omega))).2
        refine ⟨[.sl (P.cellsOf e) rows none], .cons (vr_rows hpos h1 h2 hl (fun r hr => (hall r hr).2.2) (fun r hr => (hall r hr).2.1) (fun i r vs e1 e2 => (h3 i r vs e1 e2).1)) .nil, ?_, by simp [freeL, free_sl], by simp [hc1]⟩
        simp only [Sh, hu]
        exact ⟨_, rows, rfl, .of _ _ _, by omega, fun r hr => (hall r hr).1⟩
    · rename_i k e hu
      simp only [Bool.and_eq_true, beq_iff_eq] at ho
      obtain ⟨ho, hsz⟩ := ho
      obtain ⟨xs, m, _, _, hcl, hxl, hi⟩ := DataW.trod_array hu h
      have key : ∀ k', k' ≤ k → ∃ parts : List (List D), parts.length = k' ∧ VL w rho0 [] parts.flatten (cs.take (k' * P.cellsOf e)) ∧ freeL parts.flatten ∧ ∀ r ∈ parts, Sh P n e r := by
        intro k'
        induction k' with
        | zero => intro _; exact ⟨[], rfl, by simpa using VL.nil, fun d hd => by simp at hd, by simp⟩
        | succ k' ih =>
          intro hk
          obtain ⟨parts, p1, p2, p3, p4⟩ := ih (by omega)
          have h1 := hi k' (by omega)
          rw [List.getElem?_eq_getElem (by omega)] at h1
          obtain ⟨r, r1, r2, r3, r4⟩ := open_any n e m _ _ ho h1
          refine ⟨parts ++ [r], by simp [p1], ?_, ?_, ?_⟩
          · rw [List.flatten_append, Nat.succ_mul, List.take_add]
            simpa using p2.append r1
          · rw [List.flatten_append]
            intro d hd
            rcases List.mem_append.1 hd with hd | hd
            · exact p3 d hd
            · exact r3 d (by simpa using hd)
          · intro r' hr'
            rcases List.mem_append.1 hr' with h | h
            · exact p4 r' h
            · simp at h; subst h; exact r2
      obtain ⟨parts, p1, p2, p3, p4⟩ := key k (Nat.le_refl _)
      rw [← hsz, ← hcl, List.take_length] at p2
      exact ⟨parts.flatten, p2, by simp only [Sh, hu]; exact ⟨parts, rfl, p1, p4⟩, p3, by rw [← p2.len, hcl]⟩
    · rename_i fs hu
      simp only [Bool.and_eq_true, beq_iff_eq, Array.all_eq_true] at ho
      obtain ⟨htile, ho⟩ := ho
      obtain ⟨xs, m, _, _, hcl, hxl, hi⟩ := DataW.trod_struct hu h
      obtain ⟨parts, p1, p2, p3, p4, p5⟩ := vl_parts (P := P) (n := n) (cs := cs) fs.toList 0 _ htile (fun j f hf => by
        have hf' : fs[j]? = some f := by simpa using hf
        obtain ⟨hj, hfe⟩ := Array.getElem?_eq_some_iff.1 hf'
        have h1 := hi j f hf'
        rw [List.getElem?_eq_getElem (by omega)] at h1
        obtain ⟨r, r1, r2, r3, r4⟩ := open_any n f.type m _ _ (by have := ho j hj; rw [hfe] at this; exact this) h1
        exact ⟨r, r1, r2, r3⟩)
      rw [Nat.sub_zero, List.drop_zero, ← hcl, List.take_length] at p3
      refine ⟨parts.flatten, p3, ?_, p4, by rw [← p3.len, hcl]⟩
      simp only [Sh, hu]
      exact ⟨parts, rfl, by simpa using p1, fun j f hf => p5 j f (by simpa using hf)⟩
    · simp at ho
end
end Go.Proofs.YtabgobmeibjeeaaGreatDoor

/- Proved here: words for memory (a slice as a list of rows of cells, a block known whole, a slice that the call owns and appends to) and their laws; no condition. -/
import Derived.Test.YtabgobmeibjeeaaGreatDoorRows
import Derived.WalkKit
import Derived.ProofKit
import Derived.OpenShut
import Derived.WalkSpells
import Derived.WalkLawsBesides
import Derived.Deep.QuietTactic
import Derived.BigQuiet
import Derived.Lib.Hide
import Derived.Laws.EntriesVeiled
import Derived.Deep.RegionHeld3
import Derived.Deep.RegionLaw
import Derived.Deep.AppendLies
import Derived.Deep.CutRange
import Derived.Deep.DeepCutAuto
import Derived.Deep.CutBlock
namespace Go.Proofs.YtabgobmeibjeeaaGreatDoor
open Go.ChangeShapes Go.WideShapes Go.ChangeAt Go.RowKit
set_option linter.unusedVariables false
set_option linter.unusedSectionVars false

theorem ret_int {k : IntKind} {a b : Int} (h : a = b) : Ending.returned (.int k a) = .returned (.int k b) := by rw [h]
theorem baeq (a b : ByteArray) : a.toList = b.toList ↔ a = b := by
  rw [ByteArray.toList_eq, ByteArray.toList_eq]
  constructor
  · intro h
    obtain ⟨⟨x⟩⟩ := a
    obtain ⟨⟨y⟩⟩ := b
    simp at h
    rw [h]
  · rintro rfl; rfl
theorem lt_of_some {α : Type} {l : List α} {j : Nat} {u : α} (h : l[j]? = some u) : j < l.length := (List.getElem?_eq_some_iff.1 h).1
theorem add_plain (b o q : Nat) : (⟨b, o, none⟩ : Addr).add q = ⟨b, o + q, none⟩ := by unfold Addr.add; split <;> simp_all
theorem below_drewN {B : Nat} {a w : World} (h : Below B a w) (n : Nat) : Below B a (w.drewN n) := ⟨h.os, h.tape, h.output, h.size, h.block⟩

/-- two worlds, one behind the other: nothing that was there has changed -/
abbrev Ext (w w' : World) : Prop := Below w.heap.size w w'
theorem Ext.trans {a b c : World} (h : Ext a b) (k : Ext b c) : Ext a c := Below.trans h (k.mono h.size)
theorem Ext.alloc_ {a w : World} (h : Ext a w) (o : Obj) : Ext a (w.alloc o) := Below.alloc h h.size o
theorem Ext.refl_ (w : World) : Ext w w := Below.refl _ _

/-! blocks -/
/-- block g holds just these cells, none frozen -/
def Blk (w : World) (g : Nat) (t : TypeId) (cs : Array Value) : Prop := w.heap[g]? = some (.cells cs t (0, 0))
section
variable {w w' : World} {g : Nat} {t : TypeId} {cs : Array Value}
theorem Blk.lt (h : Blk w g t cs) : g < w.heap.size := by
  rcases Nat.lt_or_ge g w.heap.size with h1 | h1
  · exact h1
  · unfold Blk at h; rw [Array.getElem?_eq_none h1] at h; cases h
theorem Blk.new (w : World) (t : TypeId) (cs : Array Value) : Blk (w.alloc (.cells cs t)) w.heap.size t cs := heap_alloc_new w _
theorem Blk.new' (h : g = w.heap.size) : Blk (w.alloc (.cells cs t)) g t cs := h ▸ heap_alloc_new w _
theorem Blk.alloc (h : Blk w g t cs) (o : Obj) : Blk (w.alloc o) g t cs := (Below.heap_alloc w o g h.lt).trans h
theorem Blk.below {B : Nat} (h : Blk w g t cs) (hb : Below B w w') (hg : g < B) : Blk w' g t cs := (hb.block g hg).trans h
theorem Blk.ext (h : Blk w g t cs) (hb : Ext w w') : Blk w' g t cs := (hb.block g h.lt).trans h
theorem Blk.cell (h : Blk w g t cs) {j : Nat} {u : Value} (hu : cs[j]? = some u) : w.cell? ⟨g, j, none⟩ = some u := by
  unfold Blk at h
  simp [World.cell?, h, hu]
theorem Blk.set_ (h : Blk w g t cs) (i : Nat) (u : Value) : Blk (w.setCell ⟨g, i, none⟩ u) g t (cs.setIfInBounds i u) := by
  unfold Blk at h ⊢
  simp [World.setCell, Array.getElem?_modify, h]
theorem Blk.far (h : Blk w g t cs) {p : Addr} (hp : g ≠ p.block) (u : Value) : Blk (w.setCell p u) g t cs := (Below.heap_setCell w p u g hp).trans h
theorem Blk.grown {row : Option Nat} (h : Blk w g t cs) (hb : w.grownBy w' row) (hg : row ≠ some g) : Blk w' g t cs := (hb.block g h.lt (Ne.symm hg)).trans h
theorem Blk.frozen (h : Blk w g t cs) (i : Nat) : w.frozen? ⟨g, i, none⟩ = false := by
  unfold Blk at h
  simp [World.frozen?, h]
theorem Blk.drew (h : Blk w g t cs) : Blk w.drew g t cs := h
theorem Blk.drewN (h : Blk w g t cs) (n : Nat) : Blk (w.drewN n) g t cs := h
theorem Blk.ne_ {g' : Nat} {t' : TypeId} {cs' : Array Value} (h : Blk w g t cs) (h' : Blk w g' t' cs') (hne : t ≠ t') : g ≠ g' := by
  rintro rfl
  unfold Blk at h h'
  rw [h] at h'
  injection h' with h'
  injection h' with _ ht
  exact hne ht
end

/-! slices that are read -/
/-- a slice whose elements are the given rows of cells, in a block below B -/
def Row (w : World) (B sz : Nat) (A : Option Addr) (xs : List (List Value)) : Prop :=
  xs ≠ [] → ∃ b o, A = some ⟨b, o, none⟩ ∧ b < B ∧ ∀ i x, xs[i]? = some x → ∀ j u, x[j]? = some u → w.cell? ⟨b, o + i * sz + j, none⟩ = some u
section
variable {w w' : World} {B B' sz : Nat} {A : Option Addr} {xs : List (List Value)}
theorem Row.below (h : Row w B sz A xs) (hb : Below B w w') : Row w' B sz A xs := by
  intro hx
  obtain ⟨b, o, rfl, hlt, hc⟩ := h hx
  exact ⟨b, o, rfl, hlt, fun i x hi j u hu => (hb.cell (p := ⟨b, o + i * sz + j, none⟩) hlt).trans (hc i x hi j u hu)⟩
theorem Row.mono (h : Row w B sz A xs) (hb : B ≤ B') : Row w B' sz A xs := by
  intro hx
  obtain ⟨b, o, rfl, hlt, hc⟩ := h hx
  exact ⟨b, o, rfl, by omega, hc⟩
theorem Row.ext (h : Row w w.heap.size sz A xs) (hb : Ext w w') : Row w' w'.heap.size sz A xs := (h.below hb).mono hb.size
theorem Row.nil : Row w B sz A [] := fun h => absurd rfl h
theorem Row.drewN (h : Row w B sz A xs) (n : Nat) : Row (w.drewN n) B sz A xs := h
theorem Row.get {α : Type} {l : List α} {enc : α → List Value} {k : Nat} (h : Row w B sz A (l.map enc)) (hk : k < l.length) :
    ∃ b o, A = some ⟨b, o, none⟩ ∧ b < B ∧ ∀ j u, (enc l[k])[j]? = some u → w.cell? ⟨b, o + k * sz + j, none⟩ = some u := by
  obtain ⟨b, o, rfl, hlt, hc⟩ := h (by intro h; simp at h; subst h; simp at hk)
  exact ⟨b, o, rfl, hlt, hc k _ (by simp [hk])⟩
/-- s[k:] -/
theorem Row.drop {b o k : Nat} (h : Row w B sz (some ⟨b, o, none⟩) xs) : Row w B sz (some ⟨b, o + k * sz, none⟩) (xs.drop k) := by
  intro hx
  obtain ⟨b', o', hA, hlt, hc⟩ := h (by rintro rfl; simp at hx)
  injection hA with hA
  injection hA with h1 h2
  subst h1 h2
  refine ⟨b, _, rfl, hlt, fun i x hi j u hu => ?_⟩
  rw [List.getElem?_drop] at hi
  have := hc (k + i) x hi j u hu
  rw [Nat.add_mul] at this
  rw [show o + k * sz + i * sz + j = o + (k * sz + i * sz) + j by omega]
  exact this
theorem Row.take (h : Row w B sz A xs) (k : Nat) : Row w B sz A (xs.take k) := by
  intro hx
  obtain ⟨b, o, hA, hlt, hc⟩ := h (by rintro rfl; simp at hx)
  refine ⟨b, o, hA, hlt, fun i x hi j u hu => hc i x ?_ j u hu⟩
  rw [List.getElem?_take] at hi
  split at hi
  · exact hi
  · cases hi
end
theorem flatten_at {α : Type} {sz : Nat} : ∀ (xs : List (List α)) (i j : Nat) (x : List α) (u : α), (∀ x ∈ xs, x.length = sz) → xs[i]? = some x → x[j]? = some u → xs.flatten[i * sz + j]? = some u
  | [], i, j, x, u, _, h, _ => by simp at h
  | y :: xs, 0, j, x, u, hall, h, hu => by
    simp at h
    subst h
    rw [List.flatten_cons, Nat.zero_mul, Nat.zero_add, List.getElem?_append_left (lt_of_some hu), hu]
  | y :: xs, i + 1, j, x, u, hall, h, hu => by
    have hy : y.length = sz := hall y (by simp)
    have ih := flatten_at xs i j x u (fun x hx => hall x (by simp [hx])) (by simpa using h) hu
    rw [List.flatten_cons, List.getElem?_append_right (by rw [hy, Nat.succ_mul]; omega), hy, ← ih]
    congr 1
    rw [Nat.succ_mul]
    omega
theorem flatten_back {α : Type} {sz : Nat} (h0 : 0 < sz) : ∀ (xs : List (List α)) (q : Nat) (u : α), (∀ x ∈ xs, x.length = sz) → xs.flatten[q]? = some u → ∃ x, xs[q / sz]? = some x ∧ x[q % sz]? = some u
  | [], q, u, _, h => by simp at h
  | y :: xs, q, u, hall, h => by
    have hy : y.length = sz := hall y (by simp)
    rw [List.flatten_cons] at h
    rcases Nat.lt_or_ge q sz with hq | hq
    · rw [List.getElem?_append_left (by omega)] at h
      rw [Nat.div_eq_of_lt hq, Nat.mod_eq_of_lt hq]
      exact ⟨y, rfl, h⟩
    · rw [List.getElem?_append_right (by omega), hy] at h
      obtain ⟨x, h1, h2⟩ := flatten_back h0 xs (q - sz) u (fun x hx => hall x (by simp [hx])) h
      refine ⟨x, ?_, ?_⟩
      · rw [show q / sz = (q - sz) / sz + 1 by rw [Nat.div_eq q sz, if_pos ⟨h0, hq⟩]]
        simpa using h1
      · rw [show q % sz = (q - sz) % sz by rw [Nat.mod_eq_sub_mod hq]]
        exact h2
section
variable {w : World} {B sz : Nat} {xs : List (List Value)}
theorem Row.flat {b o : Nat} (hall : ∀ x ∈ xs, x.length = sz) (hb : b < B) (hc : ∀ j u, xs.flatten[j]? = some u → w.cell? ⟨b, o + j, none⟩ = some u) : Row w B sz (some ⟨b, o, none⟩) xs := by
  intro _
  refine ⟨b, o, rfl, hb, fun i x hi j u hu => ?_⟩
  rw [Nat.add_assoc]
  exact hc _ _ (flatten_at xs i j x u hall hi hu)
theorem Row.blk {g : Nat} {t : TypeId} {cs : Array Value} (h : Blk w g t cs) (hB : g < B) (hall : ∀ x ∈ xs, x.length = sz) (hx : xs.flatten = cs.toList) : Row w B sz (some ⟨g, 0, none⟩) xs :=
  Row.flat hall hB fun j u hu => by
    rw [Nat.zero_add]
    exact h.cell (by rw [hx] at hu; simpa using hu)
theorem Row.own {base e n c : Nat} {A : Option Addr} (h : w.ownsRow base e sz (.slice A n c) n xs.flatten) (hn : xs ≠ [] → 0 < n) (hall : ∀ x ∈ xs, x.length = sz) : Row w w.heap.size sz A xs := by
  intro hx
  obtain ⟨g, cap, hv, _, hlt⟩ := h.form (hn hx)
  injection hv with hA
  subst hA
  refine Row.flat (o := 0) hall hlt (fun j u hu => ?_) hx
  have h1 := h.cells (g := g) rfl j u hu
  rwa [add_plain] at h1
theorem Row.ownMap {α : Type} {base e c : Nat} {A : Option Addr} {l : List α} {f : α → List Value} (h : w.ownsRow base e sz (.slice A l.length c) l.length (l.flatMap f)) (hf : ∀ x, (f x).length = sz) : Row w w.heap.size sz A (l.map f) := by
  refine Row.own (xs := l.map f) (by rwa [← List.flatMap_def]) (fun hx => ?_) (fun x hx => ?_)
  · cases l with
    | nil => simp at hx
    | cons a l => simp
  · obtain ⟨y, _, rfl⟩ := List.mem_map.1 hx
    exact hf y
end

/-! slices that the call owns -/
section
variable {w w' : World} {base : Nat} {e1 e2 s1 s2 n1 n2 : Nat} {v1 v2 : Value} {xs1 xs2 : List Value}
theorem own_ne (h1 : w.ownsRow base e1 s1 v1 n1 xs1) (h2 : w.ownsRow base e2 s2 v2 n2 xs2) (hne : e1 ≠ e2) : v1.ownBlock = none ∨ v1.ownBlock ≠ v2.ownBlock := by
  rcases h1.2 with ⟨rfl, _⟩ | ⟨g, cap, cur, rfl, _, hg, _⟩
  · exact .inl rfl
  · right
    rcases h2.2 with ⟨rfl, _⟩ | ⟨g', cap', cur', rfl, _, hg', _⟩
    · simp [Value.ownBlock]
    · simp only [Value.ownBlock, ne_eq, Option.some.injEq]
      rintro rfl
      rw [hg] at hg'
      injection hg' with h
      injection h with _ h
      exact hne h
theorem own_blk {g : Nat} {t : TypeId} {cs : Array Value} (h1 : w.ownsRow base e1 s1 v1 n1 xs1) (hb : Blk w g t cs) (hne : e1 ≠ t) : v1.ownBlock ≠ some g := by
  rcases h1.2 with ⟨rfl, _⟩ | ⟨g', cap, cur, rfl, _, hg, _⟩
  · simp [Value.ownBlock]
  · simp only [Value.ownBlock, ne_eq, Option.some.injEq]
    rintro rfl
    unfold Blk at hb
    rw [hg] at hb
    injection hb with h
    injection h with _ h
    exact hne h
theorem own_setCell (h1 : w.ownsRow base e1 s1 v1 n1 xs1) {p : Addr} (hp : v1.ownBlock ≠ some p.block) (u : Value) : (w.setCell p u).ownsRow base e1 s1 v1 n1 xs1 := by
  refine ⟨h1.1, ?_⟩
  rcases h1.2 with h | ⟨g', cap, cur, rfl, hb, hg, hr⟩
  · exact .inl h
  · refine .inr ⟨g', cap, cur, rfl, hb, ?_, hr⟩
    rw [Below.heap_setCell _ _ _ _ (by simpa [Value.ownBlock] using hp)]
    exact hg
theorem own_form (h : w.ownsRow base e1 s1 v1 n1 xs1) : ∃ A c, v1 = .slice A n1 c := by
  rcases h.2 with ⟨rfl, rfl⟩ | ⟨g, cap, cur, rfl, _⟩
  · exact ⟨_, _, rfl⟩
  · exact ⟨_, _, rfl⟩
theorem own_ext (h : w.ownsRow base e1 s1 v1 n1 xs1) (hb : Ext w w') : w'.ownsRow base e1 s1 v1 n1 xs1 := by
  refine ⟨h.1, ?_⟩
  rcases h.2 with h | ⟨g', cap, cur, rfl, h1, hg, hr⟩
  · exact .inl h
  · have hlt : g' < w.heap.size := (Array.getElem?_eq_some_iff.1 hg).1
    exact .inr ⟨g', cap, cur, rfl, h1, (hb.block g' hlt).trans hg, hr⟩
theorem own_cap {A : Option Addr} {n c : Nat} (h : w.ownsRow base e1 s1 (.slice A n c) n xs1) : n ≤ c := by
  rcases h.2 with ⟨h, h0⟩ | ⟨_, _, _, h, _, _, h1, _⟩
  · omega
  · injection h with _ _ h; omega
theorem ne_new {v' : Value} {gg : Nat} (h : w.ownsRow base e1 s1 v1 n1 xs1) (ha : v1.ownBlock = none ∨ v1.ownBlock ≠ v'.ownBlock) (hat : v'.ownBlock = some gg ∨ gg = w.heap.size) : v1.ownBlock = none ∨ v1.ownBlock ≠ some gg := by
  rcases hat with hat | rfl
  · rwa [hat] at ha
  · right
    intro h1
    have := (h.lt _ h1).2
    omega
end
/-- an element of a slice that the call owns is written (elements of one cell) -/
theorem own_set {w : World} {base e n c : Nat} {A : Option Addr} {xs : List Value} {i : Nat} (h : w.ownsRow base e 1 (.slice A n c) n xs) (hi : i < n) : ∃ q, A = some ⟨q, 0, none⟩ ∧ base ≤ q ∧ q < w.heap.size ∧ w.frozen? ⟨q, i, none⟩ = false ∧ (∀ v, xs[i]? = some v → w.cell? ⟨q, i, none⟩ = some v) ∧
    (∀ u, (w.setCell ⟨q, i, none⟩ u).ownsRow base e 1 (.slice A n c) n (xs.set i u)) ∧ (∀ g t cs, Blk w g t cs → e ≠ t → g ≠ q) ∧ (∀ v e' s' n' xs', w.ownsRow base e' s' v n' xs' → e' ≠ e → v.ownBlock ≠ some q) := by
  have h0 := h
  rcases h.2 with ⟨_, h⟩ | ⟨q, cap, cur, hv, hb, hg, hnc, hcm, hcs, htk⟩
  · omega
  · injection hv with h1 _ h3
    subst h1 h3
    have hq : q < w.heap.size := (Array.getElem?_eq_some_iff.1 hg).1
    refine ⟨q, rfl, hb, hq, Blk.frozen hg i, fun v hv => ?_, fun u => ⟨by simpa using h0.1, .inr ⟨q, c, cur.setIfInBounds i u, rfl, hb, Blk.set_ hg i u, hnc, hcm, by simpa using hcs, ?_⟩⟩, ?_, ?_⟩
    · have hx := h0.cells (g := q) rfl i v hv
      rwa [add_plain, Nat.zero_add] at hx
    · rw [Array.toList_setIfInBounds, List.take_set, htk]
    · rintro g t cs hB hne rfl
      unfold Blk at hB
      rw [hg] at hB
      injection hB with hB
      injection hB with _ hB
      exact hne hB
    · intro v e' s' n' xs' h' hne
      exact own_blk h' hg hne

/-! append -/
/-- slice type t has elements of type e, of so many cells and bytes -/
def Elem (P : Program) (t e : TypeId) (size bytes : Nat) : Prop :=
  P.underlying t = some (.slice e) ∧ (∃ i z, P.info? e = some i ∧ i.zero = some z ∧ i.size = size ∧ i.bytes = bytes ∧ z.cells.size = size) ∧ 0 < size ∧ 0 < bytes
theorem Elem.mk {P : Program} {t e : TypeId} {z : Value} {size bytes : Nat} (ht : P.underlying t = some (.slice e)) (h : (P.info? e).map (fun i => (i.zero, i.size, i.bytes)) = some (some z, size, bytes)) (hz : z.cells.size = size) (hs : 0 < size) (hb : 0 < bytes) : Elem P t e size bytes := by
  obtain ⟨i, h1, h2, h3, h4⟩ := info_parts h
  exact ⟨ht, ⟨i, z, h1, h2, h3, h4, hz⟩, hs, hb⟩
/-- the first m elements of a slice at A are these cells -/
def Src (w : World) (size : Nat) (A : Option Addr) (m : Nat) (news : List Value) : Prop :=
  news.length = m * size ∧ (0 < m → ∃ ad, A = some ad ∧ ∀ j u, news[j]? = some u → w.cell? (ad.add j) = some u)
section
variable {P : Program} {w : World} {t e : TypeId} {size bytes base : Nat}
theorem run_app (hE : Elem P t e size bytes) (ty : TypeId) {v : Value} {n : Nat} {xs : List Value} (hown : w.ownsRow base e size v n xs) {A : Option Addr} {m : Nat} (c : Nat) {news : List Value}
    (hr : Src w size A m news) (h1 : ∀ u ∈ news, u.oneCell' = true) (hb : (n + m) * bytes ≤ 140737488355328) (hbase : base ≤ w.heap.size) :
    ∃ A' c' w', (Builtin.append_ #[t, t] ty #[v, .slice A m c]).run P w = .ok (.slice A' (n + m) c') w' ∧ w'.ownsRow base e size (.slice A' (n + m) c') (n + m) (xs ++ news) ∧ w.grownBy w' v.ownBlock ∧
      ((Value.slice A' (n + m) c').ownBlock = v.ownBlock ∨ (Value.slice A' (n + m) c').ownBlock = some w.heap.size) := by
  obtain ⟨ht, ⟨i, z, hi, hz, hsz, hby, hzs⟩, hs0, hb0⟩ := hE
  have h63 : n + m ≤ maxLen := by
    have h2 : (n + m) * 1 ≤ (n + m) * bytes := Nat.mul_le_mul_left _ hb0
    unfold maxLen
    omega
  rcases A with _ | ad
  · have hm : m = 0 := by
      rcases Nat.eq_zero_or_pos m with h0 | h0
      · exact h0
      · obtain ⟨_, h, _⟩ := hr.2 h0
        cases h
    subst hm
    have hn : news = [] := List.eq_nil_of_length_eq_zero (by simpa using hr.1)
    subst hn
    obtain ⟨A', c', rfl⟩ := own_form hown
    refine ⟨A', c', w, ?_, by simpa using hown, World.grownBy.refl w _, .inl rfl⟩
    rcases hown.2 with ⟨hv, rfl⟩ | ⟨g, cap, cur, hv, _, _, hnc, _⟩
    · injection hv with h1 h2 h3
      subst h1 h3
      simp [Builtin.append_, run_underlying ht, sizeOf, typeInfo, hi, Builtin.lenOf, Builtin.firstCells]
    · injection hv with h1 h2 h3
      subst h1 h3
      simp [Builtin.append_, run_underlying ht, sizeOf, typeInfo, hi, Builtin.lenOf, Builtin.firstCells, hnc, storeCells]
  · have hnews : ∀ j u, news[j]? = some u → w.cell? (ad.add j) = some u := by
      intro j u hu
      rcases Nat.eq_zero_or_pos m with h0 | h0
      · subst h0
        have hn : news = [] := List.eq_nil_of_length_eq_zero (by simpa using hr.1)
        subst hn
        simp at hu
      · obtain ⟨ad', h, hc⟩ := hr.2 h0
        injection h with h
        subst h
        exact hc j u hu
    obtain ⟨v', w', hrun, h2, h3, _, h5⟩ := run_append_own_at (P := P) w base t ty e i z size bytes ht hi hz hsz hby hzs hs0 v n xs hown ad m c news hr.1 hnews h1 h63 hb hbase
    obtain ⟨A', c', rfl⟩ := own_form h2
    exact ⟨A', c', w', hrun, h2, h3, h5⟩

theorem wp_app {o : Oper} {a : Act} {K : Act → World → Prop} {Q : Exit → Act → World → Prop} (hE : Elem P t e size bytes) (s x : Operand)
    (ho : o.op = .call { callee := .builtin .append, args := #[s, x], argTypes := #[t, t] })
    {v : Value} {n : Nat} {xs : List Value} (hs : a.eval s = v) (hown : w.ownsRow base e size v n xs)
    {A : Option Addr} {m c : Nat} {news : List Value} (hx : a.eval x = .slice A m c) (hr : Src w size A m news) (h1 : ∀ u ∈ news, u.oneCell' = true) (hb : (n + m) * bytes ≤ 140737488355328) (hbase : base ≤ w.heap.size)
    (h : ∀ A' c' w', w'.ownsRow base e size (.slice A' (n + m) c') (n + m) (xs ++ news) → w.grownBy w' v.ownBlock → ((Value.slice A' (n + m) c').ownBlock = v.ownBlock ∨ (Value.slice A' (n + m) c').ownBlock = some w.heap.size) → K (a.put o.dst (.slice A' (n + m) c')) w') : o.wp P a w K Q := by
  obtain ⟨A', c', w', hrun, h2, h3, h4⟩ := run_app hE o.type hown c hr h1 hb hbase
  unfold Oper.wp execOp
  simp only [ho, resolve, invoke, builtin, Sem.run_bind, Sem.run_pure, Result.andThen_ok, List.map_toArray, List.map_cons, List.map_nil, hs, hx, hrun]
  exact h A' c' w' h2 h3 h4

theorem wpList_app {ops : Array Oper} {rest : List Oper} {o : Oper} {a : Act} {Q : Exit → Act → World → Prop} (hE : Elem P t e size bytes) (hgd : o.guard = none) (s x : Operand)
    (ho : o.op = .call { callee := .builtin .append, args := #[s, x], argTypes := #[t, t] })
    {v : Value} {n : Nat} {xs : List Value} (hs : a.eval s = v) (hown : w.ownsRow base e size v n xs)
    {A : Option Addr} {m c : Nat} {news : List Value} (hx : a.eval x = .slice A m c) (hr : Src w size A m news) (h1 : ∀ u ∈ news, u.oneCell' = true) (hb : (n + m) * bytes ≤ 140737488355328) (hbase : base ≤ w.heap.size)
    (h : ∀ A' c' w', w'.ownsRow base e size (.slice A' (n + m) c') (n + m) (xs ++ news) → w.grownBy w' v.ownBlock → ((Value.slice A' (n + m) c').ownBlock = v.ownBlock ∨ (Value.slice A' (n + m) c').ownBlock = some w.heap.size) → wpList P ops Q rest (a.put o.dst (.slice A' (n + m) c')) w') : wpList P ops Q (o :: rest) a w :=
  wpList_plain hgd fun _ hK => wp_app hE s x ho hs hown hx hr h1 hb hbase fun A' c' w' h2 h3 h4 => hK _ _ (h A' c' w' h2 h3 h4)

theorem step_app {ops : Array Oper} {o : Oper} {a : Act} {K : Act → World → Prop} {Q : Exit → Act → World → Prop} {E : Prop} (hE : Elem P t e size bytes) (hgd : o.guard = none) (s x : Operand)
    (ho : o.op = .call { callee := .builtin .append, args := #[s, x], argTypes := #[t, t] })
    {v : Value} {n : Nat} {xs : List Value} (hs : a.eval s = v) (hown : w.ownsRow base e size v n xs)
    {A : Option Addr} {m c : Nat} {news : List Value} (hx : a.eval x = .slice A m c) (hr : Src w size A m news) (h1 : ∀ u ∈ news, u.oneCell' = true) (hb : (n + m) * bytes ≤ 140737488355328) (hbase : base ≤ w.heap.size)
    (h : ∀ A' c' w', w'.ownsRow base e size (.slice A' (n + m) c') (n + m) (xs ++ news) → w.grownBy w' v.ownBlock → ((Value.slice A' (n + m) c').ownBlock = v.ownBlock ∨ (Value.slice A' (n + m) c').ownBlock = some w.heap.size) → K (a.put o.dst (.slice A' (n + m) c')) w') :
    if Region.wanted o (yielded ops a.tmps) = true then Oper.wp P o a w K Q else E := by
  have hw : Region.wanted o (yielded ops a.tmps) = true := by simp [Region.wanted, hgd]
  rw [if_pos hw]
  exact wp_app hE s x ho hs hown hx hr h1 hb hbase h

/-- a source out of a block that is known whole -/
theorem Src.blk {g : Nat} {cs : Array Value} {m : Nat} {tt : TypeId} (h : Blk w g tt cs) (hl : cs.toList.length = m * size) : Src w size (some ⟨g, 0, none⟩) m cs.toList :=
  ⟨hl, fun _ => ⟨_, rfl, World.news_of_block h⟩⟩
/-- the first elements of a slice that the call owns -/
theorem Src.own {A : Option Addr} {n c m : Nat} {xs : List Value} (h : w.ownsRow base e size (.slice A n c) n xs) (hm : m ≤ n) : Src w size A m (xs.take (m * size)) := by
  refine ⟨by rw [List.length_take, h.1]; exact Nat.min_eq_left (Nat.mul_le_mul_right _ hm), fun h0 => ?_⟩
  obtain ⟨g, cap, hv, _, _⟩ := h.form (by omega)
  injection hv with hA
  subst hA
  exact ⟨_, rfl, fun j u hu => h.cells (g := g) rfl j u (by rw [List.getElem?_take] at hu; split at hu
                                                            · exact hu
                                                            · cases hu)⟩
theorem Src.alloc {A : Option Addr} {m : Nat} {xs : List Value} (h : Src w size A m xs) (o : Obj) : Src (w.alloc o) size A m xs :=
  ⟨h.1, fun h0 => by
    obtain ⟨ad, e, hc⟩ := h.2 h0
    exact ⟨ad, e, fun j u hu => (World.cell?_alloc_lt _ _ _ (World.block_lt_of_cell? w _ (hc j u hu))).trans (hc j u hu)⟩⟩
/-- the source is a slice that is read -/
theorem Src.row {α : Type} {B : Nat} {A : Option Addr} {l : List α} {enc : α → List Value} (h : Row w B size A (l.map enc)) (hs : 0 < size) (hf : ∀ x, (enc x).length = size) : Src w size A l.length (l.flatMap enc) := by
  have hall : ∀ x ∈ l.map enc, x.length = size := fun x hx => by obtain ⟨y, _, rfl⟩ := List.mem_map.1 hx; exact hf y
  refine ⟨?_, fun h0 => ?_⟩
  · clear h hall
    induction l with
    | nil => simp
    | cons a l ih => rw [List.flatMap_cons, List.length_append, ih, hf, List.length_cons, Nat.succ_mul, Nat.add_comm]
  · obtain ⟨b, o, rfl, _, hc⟩ := h (by cases l <;> simp_all)
    refine ⟨_, rfl, fun j u hu => ?_⟩
    rw [List.flatMap_def] at hu
    obtain ⟨x, h1, h2⟩ := flatten_back hs _ j u hall hu
    have := hc _ _ h1 _ _ h2
    rw [add_plain]
    rw [Nat.add_assoc, Nat.mul_comm, Nat.div_add_mod] at this
    exact this
end
/-- the block of a fresh slice lies above -/
theorem own_new {w : World} {base e sz n q : Nat} {v : Value} {xs : List Value} (h : w.ownsRow base e sz v n xs) (hb : v.ownBlock = some q ∨ v.ownBlock = some (q + 1)) : ∀ k, v.ownBlock = some k → q ≤ k := by
  intro k hk
  rcases hb with hb | hb <;> rw [hb] at hk <;> injection hk with hk <;> omega
/-- behind an append onto a slice of the call's own (all its blocks lie from base on) -/
theorem below_app {w0 w w' : World} {base e sz n : Nat} {v : Value} {xs : List Value} (h : Below base w0 w) (hown : w.ownsRow base e sz v n xs) (hg : w.grownBy w' v.ownBlock) (hb : base ≤ w.heap.size) : Below base w0 w' :=
  h.grown hg hb fun k hk => (hown.lt k hk).1
/-! a slice that is read, whose block's element type is known -/
/-- as Row; the block has elements of type e -/
def TRow (w : World) (B e sz : Nat) (A : Option Addr) (xs : List (List Value)) : Prop :=
  xs ≠ [] → ∃ b o cs fr, A = some ⟨b, o, none⟩ ∧ b < B ∧ w.heap[b]? = some (.cells cs e fr) ∧ ∀ i x, xs[i]? = some x → ∀ j u, x[j]? = some u → cs[o + i * sz + j]? = some u
section
variable {w w' : World} {B B' e sz : Nat} {A : Option Addr} {xs : List (List Value)}
theorem TRow.row (h : TRow w B e sz A xs) : Row w B sz A xs := by
  intro hx
  obtain ⟨b, o, cs, fr, rfl, hb, hh, hc⟩ := h hx
  exact ⟨b, o, rfl, hb, fun i x hi j u hu => by rw [cell_of_row w b _ cs e fr hh]; exact hc i x hi j u hu⟩
theorem TRow.nil : TRow w B e sz A [] := fun h => absurd rfl h
theorem TRow.mono (h : TRow w B e sz A xs) (hb : B ≤ B') : TRow w B' e sz A xs := by
  intro hx
  obtain ⟨b, o, cs, fr, rfl, hlt, hh, hc⟩ := h hx
  exact ⟨b, o, cs, fr, rfl, by omega, hh, hc⟩
theorem TRow.below (h : TRow w B e sz A xs) (hb : Below B w w') : TRow w' B e sz A xs := by
  intro hx
  obtain ⟨b, o, cs, fr, rfl, hlt, hh, hc⟩ := h hx
  exact ⟨b, o, cs, fr, rfl, hlt, (hb.block b hlt).trans hh, hc⟩
theorem TRow.ext (h : TRow w w.heap.size e sz A xs) (hb : Ext w w') : TRow w' w'.heap.size e sz A xs := (h.below hb).mono hb.size
/-- a row of another element type has grown -/
theorem TRow.grown {base e2 s2 n2 : Nat} {v2 : Value} {xs2 : List Value} (h : TRow w B e sz A xs) (hown : w.ownsRow base e2 s2 v2 n2 xs2) (hg : w.grownBy w' v2.ownBlock) (hne : e ≠ e2) : TRow w' B e sz A xs := by
  intro hx
  obtain ⟨b, o, cs, fr, rfl, hlt, hh, hc⟩ := h hx
  refine ⟨b, o, cs, fr, rfl, hlt, ?_, hc⟩
  rw [hg.block b (Array.getElem?_eq_some_iff.1 hh).1 ?_]
  · exact hh
  · rcases hown.2 with ⟨rfl, _⟩ | ⟨g', cap, cur, rfl, _, hg', _⟩
    · simp [Value.ownBlock]
    · simp only [Value.ownBlock, ne_eq, Option.some.injEq]
      rintro rfl
      rw [hh] at hg'
      injection hg' with h1
      injection h1 with _ h1
      exact hne h1
theorem TRow.set {g i : Nat} {t : TypeId} {cs' : Array Value} (h : TRow w B e sz A xs) (hb : Blk w g t cs') (hne : e ≠ t) (u : Value) : TRow (w.setCell ⟨g, i, none⟩ u) B e sz A xs := by
  intro hx
  obtain ⟨b, o, cs, fr, rfl, hlt, hh, hc⟩ := h hx
  refine ⟨b, o, cs, fr, rfl, hlt, ?_, hc⟩
  rw [Below.heap_setCell w _ u b ?_]
  · exact hh
  · rintro rfl
    unfold Blk at hb
    rw [hh] at hb
    injection hb with h1
    injection h1 with _ h1
    exact hne h1
theorem TRow.ownMap {α : Type} {base c : Nat} {l : List α} {f : α → List Value} (h : w.ownsRow base e sz (.slice A l.length c) l.length (l.flatMap f)) (hf : ∀ x, (f x).length = sz) : TRow w w.heap.size e sz A (l.map f) := by
  intro hx
  have h0 : 0 < l.length := by
    cases l with
    | nil => simp at hx
    | cons a l => simp
  rcases h.2 with ⟨_, h1⟩ | ⟨g, cap, cur, hv, _, hg, _, _, _, ht⟩
  · omega
  · injection hv with hA _ _
    subst hA
    refine ⟨g, 0, cur, (0, 0), rfl, (Array.getElem?_eq_some_iff.1 hg).1, hg, fun i x hi j u hu => ?_⟩
    have h2 := flatten_at (l.map f) i j x u (fun x hx => by obtain ⟨y, _, rfl⟩ := List.mem_map.1 hx; exact hf y) hi hu
    rw [← List.flatMap_def, ← ht, List.getElem?_take] at h2
    rw [Nat.zero_add]
    split at h2
    · simpa using h2
    · cases h2
theorem TRow.drop {b o k : Nat} (h : TRow w B e sz (some ⟨b, o, none⟩) xs) : TRow w B e sz (some ⟨b, o + k * sz, none⟩) (xs.drop k) := by
  intro hx
  obtain ⟨b', o', cs, fr, hA, hlt, hh, hc⟩ := h (by rintro rfl; simp at hx)
  injection hA with hA
  injection hA with h1 h2
  subst h1 h2
  refine ⟨b, _, cs, fr, rfl, hlt, hh, fun i x hi j u hu => ?_⟩
  rw [List.getElem?_drop] at hi
  have := hc (k + i) x hi j u hu
  rw [Nat.add_mul] at this
  rw [show o + k * sz + i * sz + j = o + (k * sz + i * sz) + j by omega]
  exact this
theorem TRow.blk {g : Nat} {cs : Array Value} (h : Blk w g e cs) (hB : g < B) (hall : ∀ x ∈ xs, x.length = sz) (hx : xs.flatten = cs.toList) : TRow w B e sz (some ⟨g, 0, none⟩) xs := by
  intro _
  refine ⟨g, 0, cs, (0, 0), rfl, hB, h, fun i x hi j u hu => ?_⟩
  have h2 := flatten_at xs i j x u hall hi hu
  rw [hx] at h2
  rw [Nat.zero_add]
  simpa using h2
end
/-! a struct that is stored cell by cell -/
def setAll (w : World) (g : Nat) (ps : List (Nat × Value)) : World := ps.foldl (fun w p => w.setCell ⟨g, p.1, none⟩ p.2) w
theorem Blk.setAll {g : Nat} {t : TypeId} : ∀ (ps : List (Nat × Value)) {w : World} {cs : Array Value}, Blk w g t cs → Blk (setAll w g ps) g t (ps.foldl (fun cs p => cs.setIfInBounds p.1 p.2) cs)
  | [], _, _, h => h
  | p :: ps, _, _, h => Blk.setAll ps (h.set_ p.1 p.2)
theorem TRow.setAll {B e sz g : Nat} {t : TypeId} {A : Option Addr} {xs : List (List Value)} (hne : e ≠ t) : ∀ (ps : List (Nat × Value)) {w : World} {cs : Array Value}, Blk w g t cs → TRow w B e sz A xs → TRow (Go.Proofs.YtabgobmeibjeeaaGreatDoor.setAll w g ps) B e sz A xs
  | [], _, _, _, h => h
  | p :: ps, _, _, hb, h => TRow.setAll hne ps (hb.set_ p.1 p.2) (h.set hb hne p.2)
theorem own_setAll {base e sz n g : Nat} {t : TypeId} {v : Value} {xs : List Value} (hne : e ≠ t) : ∀ (ps : List (Nat × Value)) {w : World} {cs : Array Value}, Blk w g t cs → w.ownsRow base e sz v n xs → (setAll w g ps).ownsRow base e sz v n xs
  | [], _, _, _, h => h
  | p :: ps, _, _, hb, h => own_setAll hne ps (hb.set_ p.1 p.2) (own_setCell h (own_blk h hb hne) p.2)
theorem below_setAll {B g : Nat} (hg : B ≤ g) : ∀ (ps : List (Nat × Value)) {w0 w : World}, Below B w0 w → Below B w0 (setAll w g ps)
  | [], _, _, h => h
  | p :: ps, _, _, h => below_setAll hg ps (h.setCell hg p.2)
theorem size_setAll {g : Nat} : ∀ (ps : List (Nat × Value)) {w : World}, (setAll w g ps).heap.size = w.heap.size
  | [], _ => rfl
  | p :: ps, w => (size_setAll ps).trans (by simp [World.setCell])
end Go.Proofs.YtabgobmeibjeeaaGreatDoor

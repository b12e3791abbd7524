/- Proved here: plain facts on first differences of changed results; lists of bytes. -/
import Derived.Test.YtfcdfacfdlphfaaT8
namespace Go.Proofs.Ytfcdfacfdlphfaa
open Go.ChangeShapes Go.WideShapes Go.ChangeAt Go.RowKit
set_option linter.unusedVariables false
set_option linter.unusedSimpArgs false

/-- the result that plain data tell -/
def resOf (zs : List Int) : Res :=
  ⟨0, 0, zs.map fun z => (z, 0), zs, zs.map ch, 3, zs.map fun z => (⟨#[]⟩, ch z, ⟨#[]⟩, 0), zs.map fun z => (⟨#[]⟩, ⟨#[]⟩, ch z), zs.map ch⟩

theorem SixL.own {w : World} {base : Nat} {zs : List Int} {v1 v2 v3 v4 v5 v6 : Value} (h : SixL w base zs v1 v2 v3 v4 v5 v6) :
    ∃ p, #[.int .u8 0, .int .i64 0, v1, v2, v3, .int .i64 3, v4, v5, v6] = (resOf zs).cells p ∧ ROwn w base (resOf zs) p := by
  obtain ⟨o1, o2, o3, o4, o5, o6, _, _⟩ := h
  obtain ⟨A1, c1, rfl⟩ := own_form o1
  obtain ⟨A2, c2, rfl⟩ := own_form o2
  obtain ⟨A3, c3, rfl⟩ := own_form o3
  obtain ⟨A4, c4, rfl⟩ := own_form o4
  obtain ⟨A5, c5, rfl⟩ := own_form o5
  obtain ⟨A6, c6, rfl⟩ := own_form o6
  refine ⟨⟨A1, A2, A3, A4, A5, A6, c1, c2, c3, c4, c5, c6⟩, by simp [Res.cells, resOf], ?_, ?_, ?_, ?_, ?_, ?_⟩
  · simpa [resOf, List.flatMap_map, enc_step] using o1
  · simpa [resOf, flatMap_byte] using o2
  · simpa [resOf, List.flatMap_map, enc_str, ← List.map_eq_flatMap] using o3
  · simpa [resOf, List.flatMap_map, enc_file] using o4
  · simpa [resOf, List.flatMap_map, enc_listing] using o5
  · simpa [resOf, List.flatMap_map, enc_str, ← List.map_eq_flatMap] using o6

def SameAt (a b : Res) : Nat → Prop
  | 0 => a.trace = b.trace
  | 1 => a.end_ = b.end_
  | 2 => a.e = b.e
  | 3 => a.store = b.store
  | 4 => a.out = b.out
  | 5 => a.calls = b.calls
  | 6 => a.files = b.files
  | 7 => a.listings = b.listings
  | _ => a.performed = b.performed

theorem nine {P : Nat → Prop} (h0 : P 0) (h1 : P 1) (h2 : P 2) (h3 : P 3) (h4 : P 4) (h5 : P 5) (h6 : P 6) (h7 : P 7) (h8 : P 8) : ∀ j, j < 9 → P j := by
  intro j hj
  have : j = 0 ∨ j = 1 ∨ j = 2 ∨ j = 3 ∨ j = 4 ∨ j = 5 ∨ j = 6 ∨ j = 7 ∨ j = 8 := by omega
  rcases this with rfl | rfl | rfl | rfl | rfl | rfl | rfl | rfl | rfl <;> assumption

theorem fd_self {α : Type} [DecidableEq α] (l : List α) : fd l l = -1 := by
  induction l with
  | nil => rfl
  | cons a l ih => simp [fd, ih]
theorem prt_same {a b : Res} : ∀ j, j < 9 → SameAt a b j → prt a b j = -1 := by
  refine nine ?_ ?_ ?_ ?_ ?_ ?_ ?_ ?_ ?_ <;> (intro h; simp only [SameAt] at h; simp only [prt, h, fd_self])
theorem SameAt.refl {a : Res} : ∀ j, j < 9 → SameAt a a j := by
  refine nine ?_ ?_ ?_ ?_ ?_ ?_ ?_ ?_ ?_ <;> rfl
theorem SameAt.symm {a b : Res} : ∀ j, SameAt a b j → SameAt b a j := by
  intro j h
  unfold SameAt at h ⊢
  split at h <;> exact h.symm
theorem SameAt.trans {a b c : Res} : ∀ j, j < 9 → SameAt a b j → SameAt b c j → SameAt a c j := by
  refine nine ?_ ?_ ?_ ?_ ?_ ?_ ?_ ?_ ?_ <;> exact fun h k => Eq.trans h k
theorem same_chg (m i : Nat) (b : Res) (hm : m < 9) : ∀ j, j < 9 → j ≠ m → SameAt (chg m i b) b j := by
  revert m
  refine nine ?_ ?_ ?_ ?_ ?_ ?_ ?_ ?_ ?_ <;> (refine nine ?_ ?_ ?_ ?_ ?_ ?_ ?_ ?_ ?_ <;> (intro h; first | rfl | exact absurd rfl h))
theorem prt_congr {a b b' : Res} : ∀ j, j < 9 → SameAt b' b j → prt a b' j = prt a b j ∧ prt b' a j = prt b a j := by
  refine nine ?_ ?_ ?_ ?_ ?_ ?_ ?_ ?_ ?_ <;> (intro h; simp only [SameAt] at h; simp only [prt, h, and_self])

section
variable {α : Type} [DecidableEq α]
theorem fd_snoc : ∀ (l : List α) (i : Nat) (y : α), i ≤ l.length → (∀ x ∈ l, x ≠ y) → fd l (l.take i ++ [y]) = i ∧ fd (l.take i ++ [y]) l = i
  | [], 0, y, _, _ => by simp [fd]
  | [], i + 1, y, h, _ => by simp at h
  | x :: l, 0, y, _, hn => by
    have hx := hn x (by simp)
    have hx' : ¬ y = x := fun h => hx h.symm
    simp [fd, hx, hx']
  | x :: l, i + 1, y, h, hn => by
    obtain ⟨h1, h2⟩ := fd_snoc l i y (by simpa using h) (fun z hz => hn z (by simp [hz]))
    simp only [List.take_succ_cons, List.cons_append, fd, if_true, h1, h2]
    rw [if_neg (by omega)]
    omega
theorem fd_set : ∀ (l : List α) (i : Nat) (y : α) (h : i < l.length), l[i] ≠ y → fd l (l.set i y) = i ∧ fd (l.set i y) l = i
  | [], i, y, h, _ => by simp at h
  | x :: l, 0, y, _, hn => by
    have hx : ¬ x = y := hn
    have hx' : ¬ y = x := fun h => hx h.symm
    simp [fd, hx, hx']
  | x :: l, i + 1, y, h, hn => by
    obtain ⟨h1, h2⟩ := fd_set l i y (by simpa using h) (by simpa using hn)
    simp only [List.set_cons_succ, fd, if_true, h1, h2]
    rw [if_neg (by omega)]
    omega
theorem fd_more (l : List α) (y : α) : fd l (l ++ [y]) = l.length ∧ fd (l ++ [y]) l = l.length := by
  induction l with
  | nil => simp [fd]
  | cons x l ih =>
    simp only [List.cons_append, fd, if_true, ih.1, ih.2, List.length_cons]
    rw [if_neg (by omega)]
    omega
end

theorem ch_ne (z : Int) (h0 : 0 ≤ z) : ch z ≠ ⟨#[63]⟩ ∧ ch z ≠ ⟨#[]⟩ := by
  unfold ch strOfNums
  constructor
  · intro h
    have h1 : (97 + z % 26).toNat < 256 := by omega
    simp only [List.map_cons, List.map_nil, ByteArray.mk.injEq] at h
    have h2 := congrArg (fun a : Array UInt8 => (a.getD 0 0).toNat) h
    simp at h2
    omega
  · intro h
    have := congrArg ByteArray.size h
    simp [ByteArray.size] at this

/-- which index the first difference has -/
def idx (k i : Nat) : Nat := if k = 1 ∨ k = 2 ∨ k = 5 then 0 else i

theorem prt_at {b : Res} {zs : List Int} (hz : ∀ z ∈ zs, 0 ≤ z ∧ z ≤ 255) (i : Nat) (hi : i ≤ zs.length) : ∀ k, k < 9 → SameAt b (resOf zs) k → prt (resOf zs) (chg k i b) k = idx k i ∧ prt (chg k i b) (resOf zs) k = idx k i := by
  refine nine ?_ ?_ ?_ ?_ ?_ ?_ ?_ ?_ ?_ <;> (intro h; simp only [SameAt] at h; simp only [prt, chg, h, idx, resOf])
  · refine fd_snoc _ i _ (by simpa using hi) ?_
    simp only [List.mem_map]
    rintro x ⟨z, hm, rfl⟩ h
    have := hz z hm
    injection h with h _
    omega
  · simp [fd]
  · simp [fd]
  · split
    · rename_i hlt
      refine fd_set _ i _ hlt ?_
      have := hz zs[i] (List.getElem_mem _)
      intro h
      omega
    · have : i = zs.length := by omega
      subst this
      exact fd_more _ _
  · refine fd_snoc _ i _ (by simpa using hi) ?_
    simp only [List.mem_map]
    rintro x ⟨z, hm, rfl⟩ h
    exact (ch_ne z (hz z hm).1).1 h
  · simp [fd]
  · refine fd_snoc _ i _ (by simpa using hi) ?_
    simp only [List.mem_map]
    rintro x ⟨z, hm, rfl⟩ h
    simp only [Prod.mk.injEq] at h
    exact (ch_ne z (hz z hm).1).2 h.2.1
  · refine fd_snoc _ i _ (by simpa using hi) ?_
    simp only [List.mem_map]
    rintro x ⟨z, hm, rfl⟩ h
    simp only [Prod.mk.injEq] at h
    exact (ch_ne z (hz z hm).1).2 h.2.2
  · refine fd_snoc _ i _ (by simpa using hi) ?_
    simp only [List.mem_map]
    rintro x ⟨z, hm, rfl⟩ h
    exact (ch_ne z (hz z hm).1).1 h

/-- b differs from R first at part k, at index i -/
def Good (R b : Res) (k i : Nat) : Prop := (∀ j, j < k → prt R b j < 0 ∧ prt b R j < 0) ∧ prt R b k = idx k i ∧ prt b R k = idx k i
theorem Good.first {b : Res} {zs : List Int} (hz : ∀ z ∈ zs, 0 ≤ z ∧ z ≤ 255) {i k : Nat} (hi : i ≤ zs.length) (hk : k < 9) (hs : ∀ j, j < 9 → SameAt b (resOf zs) j) : Good (resOf zs) (chg k i b) k i := by
  refine ⟨fun j hj => ?_, prt_at hz i hi k hk (hs k hk)⟩
  have h1 := prt_congr (a := resOf zs) j (by omega) (same_chg k i b hk j (by omega) (by omega))
  rw [h1.1, h1.2, prt_same j (by omega) (SameAt.symm _ (hs j (by omega))), prt_same j (by omega) (hs j (by omega))]
  omega
theorem Good.later {R b : Res} {k i m i' : Nat} (h : Good R b k i) (hm : k < m) (hm9 : m < 9) : Good R (chg m i' b) k i := by
  have h1 := fun j (hj : j < 9) (hne : j ≠ m) => prt_congr (a := R) j hj (same_chg m i' b hm9 j hj hne)
  refine ⟨fun j hj => ?_, ?_, ?_⟩
  · rw [(h1 j (by omega) (by omega)).1, (h1 j (by omega) (by omega)).2]
    exact h.1 j hj
  · rw [(h1 k (by omega) (by omega)).1]; exact h.2.1
  · rw [(h1 k (by omega) (by omega)).2]; exact h.2.2
theorem same_later {R b : Res} {m i : Nat} (h : ∀ j, m ≤ j → j < 9 → SameAt b R j) (hm : m < 9) : ∀ j, m + 1 ≤ j → j < 9 → SameAt (chg m i b) R j := by
  intro j hj hj9
  exact SameAt.trans j hj9 (same_chg m i b hm j hj9 (by omega)) (h j (by omega) hj9)
/-- the lengths of the lists -/
def Len (b : Res) (N : Nat) : Prop := b.trace.length ≤ N ∧ b.store.length ≤ N ∧ b.out.length ≤ N ∧ b.files.length ≤ N ∧ b.listings.length ≤ N ∧ b.performed.length ≤ N
theorem len_resOf (zs : List Int) : Len (resOf zs) zs.length := by simp [Len, resOf]
theorem len_chg {b : Res} {N i : Nat} (h : Len b N) : ∀ m, m < 9 → Len (chg m i b) (N + 1) := by
  obtain ⟨h1, h2, h3, h4, h5, h6⟩ := h
  refine nine ?_ ?_ ?_ ?_ ?_ ?_ ?_ ?_ ?_ <;> (simp only [Len, chg]; refine ⟨?_, ?_, ?_, ?_, ?_, ?_⟩) <;> first | omega | (simp only [List.length_append, List.length_take, List.length_cons, List.length_nil]; omega) | (split <;> simp <;> omega)
end Go.Proofs.Ytfcdfacfdlphfaa

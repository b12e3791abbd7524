/- Proved here: the records of the law, and the order of keys as the order of lists of numbers; no condition. -/
import Derived.Test.YtabgobmeibjeeaaGreatDoorS14
namespace Go.Proofs.YtabgobmeibjeeaaGreatDoor
set_option linter.unusedVariables false
set_option linter.unusedSimpArgs false
/-! records of digits -/
def qI (r : Int) : Int := IntKind.u32.wrap (r.tdiv 10)
def dgI (r : Int) : Int := IntKind.u8.wrap (48 + IntKind.u8.wrap (r.tmod 10))
theorem rOf_eval (d : Nat) (S : St) (r : Int) : runF LP NN (d + 1) 16 [.int .u32 r] S = some (.sl 1 [[.int .u8 (dgI (qI (qI (qI (qI (qI r))))))], [.int .u8 (dgI (qI (qI (qI (qI r)))))], [.int .u8 (dgI (qI (qI (qI r))))], [.int .u8 (dgI (qI (qI r)))], [.int .u8 (dgI (qI r))], [.int .u8 (dgI r)]] (some 6), S, false) := by kernel_rfl
def digs (r : Nat) : List UInt8 := [UInt8.ofNat (48 + r / 100000 % 10), UInt8.ofNat (48 + r / 10000 % 10), UInt8.ofNat (48 + r / 1000 % 10), UInt8.ofNat (48 + r / 100 % 10), UInt8.ofNat (48 + r / 10 % 10), UInt8.ofNat (48 + r % 10)]
theorem qI_nat (r : Nat) (h : r < 4294967296) : qI r = ((r / 10 : Nat) : Int) := by
  unfold qI
  rw [Int.tdiv_eq_ediv_of_nonneg (by omega)]
  simp only [IntKind.wrap, IntKind.signed, IntKind.bits, Bool.false_and, Bool.false_eq_true, if_false]
  omega
theorem u8_of (m : Nat) (h : m < 256) : (UInt8.ofNat m).toNat = m := by simp only [UInt8.toNat_ofNat']; omega
theorem dgI_nat (r : Nat) : dgI r = ((UInt8.ofNat (48 + r % 10)).toNat : Int) := by
  unfold dgI
  rw [Int.tmod_eq_emod_of_nonneg (by omega)]
  simp only [IntKind.wrap, IntKind.signed, IntKind.bits, Bool.false_and, Bool.false_eq_true, if_false]
  rw [u8_of _ (by omega)]
  omega
theorem rOf_run {d : Nat} (hd : 1 ≤ d) (S : St) (r : Nat) (h : r < 4294967296) : runF LP NN d 16 [.int .u32 r] S = some (.sl 1 (bR (digs r)) (some 6), S, false) := by
  obtain ⟨d, rfl⟩ : ∃ d', d = d' + 1 := ⟨d - 1, by omega⟩
  rw [rOf_eval]
  rw [qI_nat r h, qI_nat _ (by omega), qI_nat _ (by omega), qI_nat _ (by omega), qI_nat _ (by omega)]
  simp only [dgI_nat, Nat.div_div_eq_div_mul, Nat.reduceMul]
  rfl
theorem digs_len (r : Nat) : (digs r).length = 6 := rfl
theorem dig_of (m : Nat) : isDig (UInt8.ofNat (48 + m % 10)) = true := by
  simp only [isDig, Bool.and_eq_true, decide_eq_true_eq]
  rw [u8_of _ (by omega)]
  omega
theorem digs_dig (r : Nat) : ∀ c ∈ digs r, isDig c = true := by
  intro c hc
  simp only [digs, List.mem_cons, List.not_mem_nil, or_false] at hc
  rcases hc with rfl | rfl | rfl | rfl | rfl | rfl <;> exact dig_of _
/-! the order of lists of numbers -/
def lexI : List Int → List Int → Int
  | a :: l, b :: m => if a < b then -1 else if a > b then 1 else lexI l m
  | _, _ => 0
theorem lexI_app {p q : List Int} (h : p.length = q.length) (a b : List Int) : lexI (p ++ a) (q ++ b) = if lexI p q == 0 then lexI a b else lexI p q := by
  induction p generalizing q with
  | nil => cases q with
    | nil => rfl
    | cons x q => simp at h
  | cons x p ih => cases q with
    | nil => simp at h
    | cons y q =>
      simp only [List.cons_append, lexI]
      by_cases h1 : x < y
      · simp [h1]
      · by_cases h2 : x > y
        · simp [h1, h2]
        · simp only [h1, h2, if_false]
          exact ih (by simpa using h)
theorem lexI_neg (a b : List Int) : lexI (a.map (0 - ·)) (b.map (0 - ·)) = 0 - lexI a b := by
  induction a generalizing b with
  | nil => rfl
  | cons x a ih => cases b with
    | nil => rfl
    | cons y b =>
      simp only [List.map_cons, lexI]
      rcases Int.lt_trichotomy x y with h | h | h
      · rw [if_neg (by omega), if_pos (by omega), if_pos h]; rfl
      · subst h; rw [if_neg (by omega), if_neg (by omega), if_neg (by omega), if_neg (by omega)]; exact ih b
      · rw [if_pos (by omega), if_neg (by omega), if_pos (by omega)]; rfl
theorem lexI_self (a : List Int) : lexI a a = 0 := by
  induction a with
  | nil => rfl
  | cons x a ih => simp [lexI, ih]
theorem lexI_swap (a b : List Int) (h : a.length = b.length) : lexI a b = 0 - lexI b a := by
  induction a generalizing b with
  | nil => cases b with
    | nil => rfl
    | cons y b => simp at h
  | cons x a ih => cases b with
    | nil => simp at h
    | cons y b =>
      simp only [lexI]
      rcases Int.lt_trichotomy x y with h' | h' | h'
      · rw [if_pos h', if_neg (by omega), if_pos (by omega)]; rfl
      · subst h'; rw [if_neg (by omega), if_neg (by omega), if_neg (by omega), if_neg (by omega)]; exact ih b (by simpa using h)
      · rw [if_neg (by omega), if_pos h', if_pos (by omega)]; rfl
theorem lexI_range (a b : List Int) : lexI a b = -1 ∨ lexI a b = 0 ∨ lexI a b = 1 := by
  induction a generalizing b with
  | nil => exact .inr (.inl rfl)
  | cons x a ih => cases b with
    | nil => exact .inr (.inl rfl)
    | cons y b =>
      simp only [lexI]
      split
      · exact .inl rfl
      · split
        · exact .inr (.inr rfl)
        · exact ih b
theorem lexI_trans (a b c : List Int) (h : a.length = b.length) (h' : b.length = c.length) (h1 : lexI a b ≤ 0) (h2 : lexI b c ≤ 0) : lexI a c ≤ 0 := by
  induction a generalizing b c with
  | nil => exact Int.le_refl _
  | cons x a ih => cases b with
    | nil => simp at h
    | cons y b => cases c with
      | nil => simp at h'
      | cons z c =>
        simp only [lexI] at h1 h2 ⊢
        split at h1
        · split at h2
          · rw [if_pos (by omega)]; omega
          · split at h2
            · omega
            · rw [if_pos (by omega)]; omega
        · split at h1
          · omega
          · split at h2
            · rw [if_pos (by omega)]; omega
            · split at h2
              · omega
              · rw [if_neg (by omega), if_neg (by omega)]
                exact ih b c (by simpa using h) (by simpa using h') h1 h2
end Go.Proofs.YtabgobmeibjeeaaGreatDoor

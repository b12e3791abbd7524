/- Proved here: byte strings as lists, digits, the order of digits; plain, no program; no condition. -/
import Derived.Test.YtabgobmeibjeeaaGreatDoorLoZ
import Derived.Test.YtabgobmeibjeeaaGreatDoorLo19
namespace Go.Proofs.YtabgobmeibjeeaaGreatDoor
set_option linter.unusedVariables false
set_option linter.unusedSimpArgs false

/-- a string of these bytes -/
def mkS (l : List UInt8) : ByteArray := ⟨l.toArray⟩
theorem mkS_size (l : List UInt8) : (mkS l).size = l.length := by simp [mkS, ByteArray.size]
theorem size_data (b : ByteArray) : b.size = b.data.toList.length := rfl
theorem toList_go (b : ByteArray) : ∀ (k i : Nat) (r : List UInt8), b.size - i = k → ByteArray.toList.loop b i r = r.reverse ++ b.data.toList.drop i
  | 0, i, r, h => by
    rw [ByteArray.toList.loop, if_neg (by omega), List.drop_eq_nil_of_le (by rw [size_data] at h; omega)]
    simp
  | k + 1, i, r, h => by
    rw [ByteArray.toList.loop, if_pos (by omega), toList_go b k (i + 1) _ (by omega)]
    have hi : i < b.data.toList.length := by rw [size_data] at h; omega
    rw [List.drop_eq_getElem_cons hi]
    have hi2 : i < b.data.size := hi
    simp [ByteArray.get!, getElem!_pos b.data i hi2]
theorem mkS_toList (l : List UInt8) : (mkS l).toList = l := by
  have := toList_go (mkS l) _ 0 [] rfl
  simpa [ByteArray.toList, mkS] using this
theorem mkS_app (a b : List UInt8) : mkS a ++ mkS b = mkS (a ++ b) := by
  apply ByteArray.ext
  simp [mkS, ByteArray.data_append]
theorem mkS_extract (l : List UInt8) (a b : Nat) : (mkS l).extract a b = mkS ((l.drop a).take (b - a)) := by
  apply ByteArray.ext
  apply Array.ext'
  simp only [mkS, ByteArray.data_extract, List.extract_toArray, List.extract_eq_take_drop]
theorem mkS_get (l : List UInt8) (i : Nat) : (mkS l)[i]? = l[i]? := by
  by_cases h : i < l.length
  · rw [getElem?_pos (mkS l) i (by rw [mkS_size]; exact h), getElem?_pos l i h]
    simp [mkS, ByteArray.getElem_eq_getElem_data]
  · rw [getElem?_neg (mkS l) i (by rw [mkS_size]; exact h), getElem?_neg l i h]
theorem mkS_nil : (⟨#[]⟩ : ByteArray) = mkS [] := rfl
theorem nil_toList : (⟨#[]⟩ : ByteArray).toList = [] := mkS_toList []
theorem mkS_all (s : ByteArray) : ∃ l, s = mkS l ∧ l.length = s.size := ⟨s.data.toList, by simp [mkS], rfl⟩

/-- rows of these bytes -/
def bR (l : List UInt8) : List (List D) := l.map fun b => [.int .u8 b.toNat]
theorem bR_len (l : List UInt8) : (bR l).length = l.length := by simp [bR]
theorem bR_at {l : List UInt8} {i : Nat} {b : UInt8} (h : l[i]? = some b) : (bR l)[i]? = some [.int .u8 b.toNat] := by simp [bR, h]
theorem bR_sub (l : List UInt8) (a n : Nat) : ((bR l).drop a).take n = bR ((l.drop a).take n) := by simp [bR, List.map_drop, List.map_take]
theorem bytesOf_bR : ∀ l : List UInt8, bytesOf (bR l) = some l
  | [] => rfl
  | b :: l => by
    have := bytesOf_bR l
    simp only [bR, List.map_cons] at this ⊢
    simp only [bytesOf, this, Option.map_some, Int.toNat_natCast, UInt8.ofNat_toNat]

/-! digits -/
def isDig (c : UInt8) : Bool := decide (48 ≤ c.toNat) && decide (c.toNat ≤ 57)
def digTab : List D := (List.range 256).map fun i => .bool (decide (48 ≤ i) && decide (i ≤ 57))
theorem digTab_at (c : UInt8) : digTab[c.toNat]? = some (.bool (isDig c)) := by
  have : c.toNat < 256 := c.toNat_lt
  simp [digTab, isDig, this]
/-- without the digits at the end -/
def rtrim (l : List UInt8) : List UInt8 := (l.reverse.dropWhile isDig).reverse
def trimD (l : List UInt8) : List UInt8 := (rtrim l).dropWhile isDig
theorem rtrim_snoc (l : List UInt8) (c : UInt8) : rtrim (l ++ [c]) = if isDig c then rtrim l else l ++ [c] := by
  simp only [rtrim, List.reverse_append, List.reverse_cons, List.reverse_nil, List.nil_append, List.singleton_append, List.dropWhile_cons]
  split <;> simp
theorem dropWhile_all {α : Type} {p : α → Bool} : ∀ {l : List α}, l.dropWhile p = [] ↔ l.all p = true
  | [] => by simp
  | a :: l => by
    rw [List.dropWhile_cons]
    by_cases h : p a = true
    · simp [h, dropWhile_all (l := l)]
    · simp [h]
theorem trimD_nil (l : List UInt8) : (trimD l == []) = l.all isDig := by
  rw [Bool.eq_iff_iff]
  simp only [beq_iff_eq, trimD]
  rw [dropWhile_all]
  constructor
  · intro h
    have h2 : ∀ c ∈ l.reverse.dropWhile isDig, isDig c = true := by
      intro c hc
      exact List.all_eq_true.1 h c (by simpa [rtrim] using hc)
    have h3 : l.reverse.dropWhile isDig = [] := by
      cases e : l.reverse.dropWhile isDig with
      | nil => rfl
      | cons a r =>
        have h4 := List.head?_dropWhile_not isDig l.reverse
        rw [e] at h4 h2
        simp only [List.head?_cons] at h4
        rw [h2 a List.mem_cons_self] at h4
        simp at h4
    rw [dropWhile_all] at h3
    simpa using h3
  · intro h
    have : l.reverse.dropWhile isDig = [] := by rw [dropWhile_all]; simpa using h
    simp [rtrim, this]
/-- without the zeros in front; 0 if nothing is left -/
def strip0 (l : List UInt8) : List UInt8 := l.dropWhile (· == 48)
def strip (l : List UInt8) : List UInt8 := if strip0 l = [] then [48] else strip0 l
def nz (l : List UInt8) : Bool := strip0 l != []
theorem strip0_strip0 (l : List UInt8) : strip0 (strip0 l) = strip0 l := by
  unfold strip0
  cases e : l.dropWhile (· == 48) with
  | nil => rfl
  | cons a r =>
    have h4 := List.head?_dropWhile_not (fun x : UInt8 => x == 48) l
    rw [e] at h4
    simp only [List.head?_cons] at h4
    rw [List.dropWhile_cons, if_neg (by simpa using h4)]
theorem strip_idem (l : List UInt8) : strip (strip l) = strip l := by
  unfold strip
  by_cases h : strip0 l = []
  · rw [if_pos h]; rfl
  · rw [if_neg h, strip0_strip0, if_neg h]
theorem strip0_suffix (l : List UInt8) : ∃ k, l = List.replicate k 48 ++ strip0 l := by
  induction l with
  | nil => exact ⟨0, rfl⟩
  | cons a l ih =>
    unfold strip0 at ih ⊢
    rw [List.dropWhile_cons]
    by_cases h : (a == 48) = true
    · obtain ⟨k, hk⟩ := ih
      rw [if_pos h]
      have : a = 48 := by simpa using h
      refine ⟨k + 1, ?_⟩
      rw [List.replicate_succ, List.cons_append, ← hk, this]
    · rw [if_neg h]; exact ⟨0, rfl⟩
theorem strip_len (l : List UInt8) (h : l ≠ []) : (strip l).length ≤ l.length ∧ 0 < (strip l).length := by
  unfold strip
  obtain ⟨k, hk⟩ := strip0_suffix l
  have hl := congrArg List.length hk
  simp at hl
  have : 0 < l.length := List.length_pos_iff.2 h
  split
  · simp; omega
  · rename_i h0
    have := List.length_pos_iff.2 h0
    omega
theorem strip_dig (l : List UInt8) (h : l.all isDig = true) : (strip l).all isDig = true := by
  unfold strip
  split
  · rfl
  · obtain ⟨k, hk⟩ := strip0_suffix l
    rw [hk, List.all_append, Bool.and_eq_true] at h
    exact h.2
/-- zeros in front, to n -/
def pad (n : Nat) (l : List UInt8) : List UInt8 := List.replicate (n - l.length) 48 ++ l
theorem pad_strip (l : List UInt8) (n : Nat) (h : l ≠ []) (h1 : (strip l).length ≤ n) (h2 : n ≤ l.length) : l = List.replicate (l.length - n) 48 ++ pad n (strip l) := by
  obtain ⟨k, hk⟩ := strip0_suffix l
  have hl := congrArg List.length hk
  simp at hl
  unfold strip at h1 ⊢
  unfold pad
  by_cases h0 : strip0 l = []
  · rw [if_pos h0] at h1 ⊢
    rw [h0, List.append_nil] at hk
    rw [h0] at hl
    simp at hl h1
    rw [← List.append_assoc, List.replicate_append_replicate, show ([48] : List UInt8) = List.replicate 1 48 from rfl, List.replicate_append_replicate]
    simp only [List.length_replicate]
    rw [show l.length - n + (n - 1) + 1 = k by omega]
    exact hk
  · rw [if_neg h0] at h1 ⊢
    rw [← List.append_assoc, List.replicate_append_replicate]
    rw [show l.length - n + (n - (strip0 l).length) = k by omega]
    exact hk
/-- the order of byte strings -/
def cmpL (a b : List UInt8) : Int := if Op.bytesLess a b then -1 else if Op.bytesLess a b || a == b then 0 else 1
theorem cmpL_cons (c : UInt8) (a b : List UInt8) : cmpL (c :: a) (c :: b) = cmpL a b := by
  have : Op.bytesLess (c :: a) (c :: b) = Op.bytesLess a b := by simp [Op.bytesLess]
  simp [cmpL, this]
theorem cmpL_app (p a b : List UInt8) : cmpL (p ++ a) (p ++ b) = cmpL a b := by
  induction p with
  | nil => rfl
  | cons c p ih => rw [List.cons_append, List.cons_append, cmpL_cons, ih]
theorem cmpL_pad (a b : List UInt8) (h : a.length = b.length) (ha : a ≠ []) : cmpL (pad (max (strip a).length (strip b).length) (strip a)) (pad (max (strip a).length (strip b).length) (strip b)) = cmpL a b := by
  have hb : b ≠ [] := by intro e; subst e; simp at h; exact ha h
  obtain ⟨a1, a2⟩ := strip_len a ha
  obtain ⟨b1, b2⟩ := strip_len b hb
  have e1 := pad_strip a (max (strip a).length (strip b).length) ha (by omega) (by omega)
  have e2 := pad_strip b (max (strip a).length (strip b).length) hb (by omega) (by omega)
  generalize max (strip a).length (strip b).length = m at e1 e2 ⊢
  generalize pad m (strip a) = x at e1 ⊢
  generalize pad m (strip b) = y at e2 ⊢
  rw [h] at e1
  generalize List.replicate (b.length - m) (48 : UInt8) = p at e1 e2
  rw [e1, e2, cmpL_app]
end Go.Proofs.YtabgobmeibjeeaaGreatDoor

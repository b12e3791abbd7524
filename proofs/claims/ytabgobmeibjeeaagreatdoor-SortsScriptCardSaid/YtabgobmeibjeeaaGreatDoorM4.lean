/- Proved here: parts of the proof, joined (Low, S0, S1, S2, S3, S4, S5, S6, S7, S8, S9, S10, S11, S12, S13, S14, S15, S16): an abstract machine, its soundness, what functions of the program compute in it; no condition. -/
import Derived.Test.YtabgobmeibjeeaaGreatDoorM3
namespace Go.Proofs.YtabgobmeibjeeaaGreatDoor
set_option maxRecDepth 100000
set_option maxHeartbeats 4000000
set_option linter.unusedVariables false

def fnOf : FuncId → Option LFunc
  | 7 => some F7
  | 9 => some F9
  | 10 => some F10
  | 12 => some F12
  | 13 => some F13
  | 14 => some F14
  | 16 => some F16
  | 17 => some F17
  | 18 => some F18
  | 22 => some F22
  | 23 => some F23
  | 24 => some F24
  | 25 => some F25
  | 26 => some F26
  | 27 => some F27
  | 28 => some F28
  | 29 => some F29
  | 31 => some F31
  | 32 => some F32
  | 33 => some F33
  | 34 => some F34
  | 35 => some F35
  | 36 => some F36
  | 38 => some F38
  | 42 => some F42
  | 43 => some F43
  | 44 => some F44
  | 45 => some F45
  | 46 => some F46
  | 47 => some F47
  | 48 => some F48
  | 49 => some F49
  | 50 => some F50
  | 51 => some F51
  | 52 => some F52
  | 53 => some F53
  | 54 => some F54
  | 55 => some F55
  | 56 => some F56
  | 57 => some F57
  | 58 => some F58
  | 59 => some F59
  | 60 => some F60
  | 61 => some F61
  | 62 => some F62
  | 63 => some F63
  | 64 => some F64
  | 78 => some F78
  | 79 => some F79
  | 80 => some F80
  | 81 => some F81
  | 82 => some F82
  | 83 => some F83
  | 84 => some F84
  | 85 => some F85
  | 86 => some F86
  | 87 => some F87
  | 88 => some F88
  | 90 => some F90
  | 91 => some F91
  | 92 => some F92
  | 93 => some F93
  | 96 => some F96
  | 97 => some F97
  | 98 => some F98
  | 99 => some F99
  | 100 => some F100
  | 101 => some F101
  | 105 => some F105
  | 113 => some F113
  | 116 => some F116
  | 117 => some F117
  | 118 => some F118
  | 119 => some F119
  | 120 => some F120
  | 121 => some F121
  | 122 => some F122
  | 123 => some F123
  | 124 => some F124
  | 125 => some F125
  | 126 => some F126
  | 127 => some F127
  | 130 => some F130
  | 132 => some F132
  | 133 => some F133
  | 135 => some F135
  | 136 => some F136
  | 145 => some F145
  | 146 => some F146
  | 147 => some F147
  | 148 => some F148
  | 160 => some F160
  | 161 => some F161
  | 162 => some F162
  | 164 => some F164
  | 166 => some F166
  | 174 => some F174
  | _ => none
def LP : Prg := ⟨fnOf, fun f => f == 48 || f == 79 || f == 118 || f == 119 || f == 146 || f == 161, fun f => !(f == 22 || f == 55 || f == 56)⟩
theorem LP_ok : PrgOK Tryz.prog LP := by
  intro f F h
  have h' : fnOf f = some F := h
  unfold fnOf at h'
  split at h'
  · injection h' with h'; subst h'; exact ⟨Tryz.f7, _, _, Tryz.func7, F7_low⟩
  · injection h' with h'; subst h'; exact ⟨Tryz.f9, _, _, Tryz.func9, F9_low⟩
  · injection h' with h'; subst h'; exact ⟨Tryz.f10, _, _, Tryz.func10, F10_low⟩
  · injection h' with h'; subst h'; exact ⟨Tryz.f12, _, _, Tryz.func12, F12_low⟩
  · injection h' with h'; subst h'; exact ⟨Tryz.f13, _, _, Tryz.func13, F13_low⟩
  · injection h' with h'; subst h'; exact ⟨Tryz.f14, _, _, Tryz.func14, F14_low⟩
  · injection h' with h'; subst h'; exact ⟨Tryz.f16, _, _, Tryz.func16, F16_low⟩
  · injection h' with h'; subst h'; exact ⟨Tryz.f17, _, _, Tryz.func17, F17_low⟩
  · injection h' with h'; subst h'; exact ⟨Tryz.f18, _, _, Tryz.func18, F18_low⟩
  · injection h' with h'; subst h'; exact ⟨Tryz.f22, _, _, Tryz.func22, F22_low⟩
  · injection h' with h'; subst h'; exact ⟨Tryz.f23, _, _, Tryz.func23, F23_low⟩
  · injection h' with h'; subst h'; exact ⟨Tryz.f24, _, _, Tryz.func24, F24_low⟩
  · injection h' with h'; subst h'; exact ⟨Tryz.f25, _, _, Tryz.func25, F25_low⟩
  · injection h' with h'; subst h'; exact ⟨Tryz.f26, _, _, Tryz.func26, F26_low⟩
  · injection h' with h'; subst h'; exact ⟨Tryz.f27, _, _, Tryz.func27, F27_low⟩
  · injection h' with h'; subst h'; exact ⟨Tryz.f28, _, _, Tryz.func28, F28_low⟩
  · injection h' with h'; subst h'; exact ⟨Tryz.f29, _, _, Tryz.func29, F29_low⟩
  · injection h' with h'; subst h'; exact ⟨Tryz.f31, _, _, Tryz.func31, F31_low⟩
  · injection h' with h'; subst h'; exact ⟨Tryz.f32, _, _, Tryz.func32, F32_low⟩
  · injection h' with h'; subst h'; exact ⟨Tryz.f33, _, _, Tryz.func33, F33_low⟩
  · injection h' with h'; subst h'; exact ⟨Tryz.f34, _, _, Tryz.func34, F34_low⟩
  · injection h' with h'; subst h'; exact ⟨Tryz.f35, _, _, Tryz.func35, F35_low⟩
  · injection h' with h'; subst h'; exact ⟨Tryz.f36, _, _, Tryz.func36, F36_low⟩
  · injection h' with h'; subst h'; exact ⟨Tryz.f38, _, _, Tryz.func38, F38_low⟩
  · injection h' with h'; subst h'; exact ⟨Tryz.f42, _, _, Tryz.func42, F42_low⟩
  · injection h' with h'; subst h'; exact ⟨Tryz.f43, _, _, Tryz.func43, F43_low⟩
  · injection h' with h'; subst h'; exact ⟨Tryz.f44, _, _, Tryz.func44, F44_low⟩
  · injection h' with h'; subst h'; exact ⟨Tryz.f45, _, _, Tryz.func45, F45_low⟩
  · injection h' with h'; subst h'; exact ⟨Tryz.f46, _, _, Tryz.func46, F46_low⟩
  · injection h' with h'; subst h'; exact ⟨Tryz.f47, _, _, Tryz.func47, F47_low⟩
  · injection h' with h'; subst h'; exact ⟨Tryz.f48, _, _, Tryz.func48, F48_low⟩
  · injection h' with h'; subst h'; exact ⟨Tryz.f49, _, _, Tryz.func49, F49_low⟩
  · injection h' with h'; subst h'; exact ⟨Tryz.f50, _, _, Tryz.func50, F50_low⟩
  · injection h' with h'; subst h'; exact ⟨Tryz.f51, _, _, Tryz.func51, F51_low⟩
  · injection h' with h'; subst h'; exact ⟨Tryz.f52, _, _, Tryz.func52, F52_low⟩
  · injection h' with h'; subst h'; exact ⟨Tryz.f53, _, _, Tryz.func53, F53_low⟩
  · injection h' with h'; subst h'; exact ⟨Tryz.f54, _, _, Tryz.func54, F54_low⟩
  · injection h' with h'; subst h'; exact ⟨Tryz.f55, _, _, Tryz.func55, F55_low⟩
  · injection h' with h'; subst h'; exact ⟨Tryz.f56, _, _, Tryz.func56, F56_low⟩
  · injection h' with h'; subst h'; exact ⟨Tryz.f57, _, _, Tryz.func57, F57_low⟩
  · injection h' with h'; subst h'; exact ⟨Tryz.f58, _, _, Tryz.func58, F58_low⟩
  · injection h' with h'; subst h'; exact ⟨Tryz.f59, _, _, Tryz.func59, F59_low⟩
  · injection h' with h'; subst h'; exact ⟨Tryz.f60, _, _, Tryz.func60, F60_low⟩
  · injection h' with h'; subst h'; exact ⟨Tryz.f61, _, _, Tryz.func61, F61_low⟩
  · injection h' with h'; subst h'; exact ⟨Tryz.f62, _, _, Tryz.func62, F62_low⟩
  · injection h' with h'; subst h'; exact ⟨Tryz.f63, _, _, Tryz.func63, F63_low⟩
  · injection h' with h'; subst h'; exact ⟨Tryz.f64, _, _, Tryz.func64, F64_low⟩
  · injection h' with h'; subst h'; exact ⟨Tryz.f78, _, _, Tryz.func78, F78_low⟩
  · injection h' with h'; subst h'; exact ⟨Tryz.f79, _, _, Tryz.func79, F79_low⟩
  · injection h' with h'; subst h'; exact ⟨Tryz.f80, _, _, Tryz.func80, F80_low⟩
  · injection h' with h'; subst h'; exact ⟨Tryz.f81, _, _, Tryz.func81, F81_low⟩
  · injection h' with h'; subst h'; exact ⟨Tryz.f82, _, _, Tryz.func82, F82_low⟩
  · injection h' with h'; subst h'; exact ⟨Tryz.f83, _, _, Tryz.func83, F83_low⟩
  · injection h' with h'; subst h'; exact ⟨Tryz.f84, _, _, Tryz.func84, F84_low⟩
  · injection h' with h'; subst h'; exact ⟨Tryz.f85, _, _, Tryz.func85, F85_low⟩
  · injection h' with h'; subst h'; exact ⟨Tryz.f86, _, _, Tryz.func86, F86_low⟩
  · injection h' with h'; subst h'; exact ⟨Tryz.f87, _, _, Tryz.func87, F87_low⟩
  · injection h' with h'; subst h'; exact ⟨Tryz.f88, _, _, Tryz.func88, F88_low⟩
  · injection h' with h'; subst h'; exact ⟨Tryz.f90, _, _, Tryz.func90, F90_low⟩
  · injection h' with h'; subst h'; exact ⟨Tryz.f91, _, _, Tryz.func91, F91_low⟩
  · injection h' with h'; subst h'; exact ⟨Tryz.f92, _, _, Tryz.func92, F92_low⟩
  · injection h' with h'; subst h'; exact ⟨Tryz.f93, _, _, Tryz.func93, F93_low⟩
  · injection h' with h'; subst h'; exact ⟨Tryz.f96, _, _, Tryz.func96, F96_low⟩
  · injection h' with h'; subst h'; exact ⟨Tryz.f97, _, _, Tryz.func97, F97_low⟩
  · injection h' with h'; subst h'; exact ⟨Tryz.f98, _, _, Tryz.func98, F98_low⟩
  · injection h' with h'; subst h'; exact ⟨Tryz.f99, _, _, Tryz.func99, F99_low⟩
  · injection h' with h'; subst h'; exact ⟨Tryz.f100, _, _, Tryz.func100, F100_low⟩
  · injection h' with h'; subst h'; exact ⟨Tryz.f101, _, _, Tryz.func101, F101_low⟩
  · injection h' with h'; subst h'; exact ⟨Tryz.f105, _, _, Tryz.func105, F105_low⟩
  · injection h' with h'; subst h'; exact ⟨Tryz.f113, _, _, Tryz.func113, F113_low⟩
  · injection h' with h'; subst h'; exact ⟨Tryz.f116, _, _, Tryz.func116, F116_low⟩
  · injection h' with h'; subst h'; exact ⟨Tryz.f117, _, _, Tryz.func117, F117_low⟩
  · injection h' with h'; subst h'; exact ⟨Tryz.f118, _, _, Tryz.func118, F118_low⟩
  · injection h' with h'; subst h'; exact ⟨Tryz.f119, _, _, Tryz.func119, F119_low⟩
  · injection h' with h'; subst h'; exact ⟨Tryz.f120, _, _, Tryz.func120, F120_low⟩
  · injection h' with h'; subst h'; exact ⟨Tryz.f121, _, _, Tryz.func121, F121_low⟩
  · injection h' with h'; subst h'; exact ⟨Tryz.f122, _, _, Tryz.func122, F122_low⟩
  · injection h' with h'; subst h'; exact ⟨Tryz.f123, _, _, Tryz.func123, F123_low⟩
  · injection h' with h'; subst h'; exact ⟨Tryz.f124, _, _, Tryz.func124, F124_low⟩
  · injection h' with h'; subst h'; exact ⟨Tryz.f125, _, _, Tryz.func125, F125_low⟩
  · injection h' with h'; subst h'; exact ⟨Tryz.f126, _, _, Tryz.func126, F126_low⟩
  · injection h' with h'; subst h'; exact ⟨Tryz.f127, _, _, Tryz.func127, F127_low⟩
  · injection h' with h'; subst h'; exact ⟨Tryz.f130, _, _, Tryz.func130, F130_low⟩
  · injection h' with h'; subst h'; exact ⟨Tryz.f132, _, _, Tryz.func132, F132_low⟩
  · injection h' with h'; subst h'; exact ⟨Tryz.f133, _, _, Tryz.func133, F133_low⟩
  · injection h' with h'; subst h'; exact ⟨Tryz.f135, _, _, Tryz.func135, F135_low⟩
  · injection h' with h'; subst h'; exact ⟨Tryz.f136, _, _, Tryz.func136, F136_low⟩
  · injection h' with h'; subst h'; exact ⟨Tryz.f145, _, _, Tryz.func145, F145_low⟩
  · injection h' with h'; subst h'; exact ⟨Tryz.f146, _, _, Tryz.func146, F146_low⟩
  · injection h' with h'; subst h'; exact ⟨Tryz.f147, _, _, Tryz.func147, F147_low⟩
  · injection h' with h'; subst h'; exact ⟨Tryz.f148, _, _, Tryz.func148, F148_low⟩
  · injection h' with h'; subst h'; exact ⟨Tryz.f160, _, _, Tryz.func160, F160_low⟩
  · injection h' with h'; subst h'; exact ⟨Tryz.f161, _, _, Tryz.func161, F161_low⟩
  · injection h' with h'; subst h'; exact ⟨Tryz.f162, _, _, Tryz.func162, F162_low⟩
  · injection h' with h'; subst h'; exact ⟨Tryz.f164, _, _, Tryz.func164, F164_low⟩
  · injection h' with h'; subst h'; exact ⟨Tryz.f166, _, _, Tryz.func166, F166_low⟩
  · injection h' with h'; subst h'; exact ⟨Tryz.f174, _, _, Tryz.func174, F174_low⟩
  · simp at h'
theorem mixed : Tryz.prog.follows .mixedOrders = true := by kernel_rfl
end Go.Proofs.YtabgobmeibjeeaaGreatDoor

namespace Go.Proofs.YtabgobmeibjeeaaGreatDoor
set_option linter.unusedVariables false
set_option linter.unusedSimpArgs false

/-- a string of these bytes -/
def mkS (l : List UInt8) : ByteArray := ⟨l.toArray⟩
theorem mkS_size (l : List UInt8) : (mkS l).size = l.length := by simp [mkS, ByteArray.size]
theorem size_data (b : ByteArray) : b.size = b.data.toList.length := rfl
theorem toList_go (b : ByteArray) : ∀ (k i : Nat) (r : List UInt8), b.size - i = k → ByteArray.toList.loop b i r = r.reverse ++ b.data.toList.drop i
  | 0, i, r, h => by
    rw [ByteArray.toList.loop, if_neg (by omega), List.drop_eq_nil_of_le (by rw [size_data] at h; omega)]
    simp
  | k + 1, i, r, h => by
    rw [ByteArray.toList.loop, if_pos (by omega), toList_go b k (i + 1) _ (by omega)]
    have hi : i < b.data.toList.length := by rw [size_data] at h; omega
    rw [List.drop_eq_getElem_cons hi]
    have hi2 : i < b.data.size := hi
    simp [ByteArray.get!, getElem!_pos b.data i hi2]
theorem mkS_toList (l : List UInt8) : (mkS l).toList = l := by
  have := toList_go (mkS l) _ 0 [] rfl
  simpa [ByteArray.toList, mkS] using this
theorem mkS_app (a b : List UInt8) : mkS a ++ mkS b = mkS (a ++ b) := by
  apply ByteArray.ext
  simp [mkS, ByteArray.data_append]
theorem mkS_extract (l : List UInt8) (a b : Nat) : (mkS l).extract a b = mkS ((l.drop a).take (b - a)) := by
  apply ByteArray.ext
  apply Array.ext'
  simp only [mkS, ByteArray.data_extract, List.extract_toArray, List.extract_eq_take_drop]
theorem mkS_get (l : List UInt8) (i : Nat) : (mkS l)[i]? = l[i]? := by
  by_cases h : i < l.length
  · rw [getElem?_pos (mkS l) i (by rw [mkS_size]; exact h), getElem?_pos l i h]
    simp [mkS, ByteArray.getElem_eq_getElem_data]
  · rw [getElem?_neg (mkS l) i (by rw [mkS_size]; exact h), getElem?_neg l i h]
theorem nil_toList : (⟨#[]⟩ : ByteArray).toList = [] := mkS_toList []
/-- rows of these bytes -/
def bR (l : List UInt8) : List (List D) := l.map fun b => [.int .u8 b.toNat]
theorem bR_len (l : List UInt8) : (bR l).length = l.length := by simp [bR]
theorem bR_at {l : List UInt8} {i : Nat} {b : UInt8} (h : l[i]? = some b) : (bR l)[i]? = some [.int .u8 b.toNat] := by simp [bR, h]
theorem bR_sub (l : List UInt8) (a n : Nat) : ((bR l).drop a).take n = bR ((l.drop a).take n) := by simp [bR, List.map_drop, List.map_take]
theorem bytesOf_bR : ∀ l : List UInt8, bytesOf (bR l) = some l
  | [] => rfl
  | b :: l => by
    have := bytesOf_bR l
    simp only [bR, List.map_cons] at this ⊢
    simp only [bytesOf, this, Option.map_some, Int.toNat_natCast, UInt8.ofNat_toNat]

/-! digits -/
def isDig (c : UInt8) : Bool := decide (48 ≤ c.toNat) && decide (c.toNat ≤ 57)
def digTab : List D := (List.range 256).map fun i => .bool (decide (48 ≤ i) && decide (i ≤ 57))
theorem digTab_at (c : UInt8) : digTab[c.toNat]? = some (.bool (isDig c)) := by
  have : c.toNat < 256 := c.toNat_lt
  simp [digTab, isDig, this]
/-- without the digits at the end -/
def rtrim (l : List UInt8) : List UInt8 := (l.reverse.dropWhile isDig).reverse
def trimD (l : List UInt8) : List UInt8 := (rtrim l).dropWhile isDig
theorem rtrim_snoc (l : List UInt8) (c : UInt8) : rtrim (l ++ [c]) = if isDig c then rtrim l else l ++ [c] := by
  simp only [rtrim, List.reverse_append, List.reverse_cons, List.reverse_nil, List.nil_append, List.singleton_append, List.dropWhile_cons]
  split <;> simp
theorem dropWhile_all {α : Type} {p : α → Bool} : ∀ {l : List α}, l.dropWhile p = [] ↔ l.all p = true
  | [] => by simp
  | a :: l => by
    rw [List.dropWhile_cons]
    by_cases h : p a = true
    · simp [h, dropWhile_all (l := l)]
    · simp [h]
theorem trimD_nil (l : List UInt8) : (trimD l == []) = l.all isDig := by
  rw [Bool.eq_iff_iff]
  simp only [beq_iff_eq, trimD]
  rw [dropWhile_all]
  constructor
  · intro h
    have h2 : ∀ c ∈ l.reverse.dropWhile isDig, isDig c = true := by
      intro c hc
      exact List.all_eq_true.1 h c (by simpa [rtrim] using hc)
    have h3 : l.reverse.dropWhile isDig = [] := by
      cases e : l.reverse.dropWhile isDig with
      | nil => rfl
      | cons a r =>
        have h4 := List.head?_dropWhile_not isDig l.reverse
        rw [e] at h4 h2
        simp only [List.head?_cons] at h4
        rw [h2 a List.mem_cons_self] at h4
        simp at h4
    rw [dropWhile_all] at h3
    simpa using h3
  · intro h
    have : l.reverse.dropWhile isDig = [] := by rw [dropWhile_all]; simpa using h
    simp [rtrim, this]
/-- without the zeros in front; 0 if nothing is left -/
def strip0 (l : List UInt8) : List UInt8 := l.dropWhile (· == 48)
def strip (l : List UInt8) : List UInt8 := if strip0 l = [] then [48] else strip0 l
def nz (l : List UInt8) : Bool := strip0 l != []
theorem strip0_strip0 (l : List UInt8) : strip0 (strip0 l) = strip0 l := by
  unfold strip0
  cases e : l.dropWhile (· == 48) with
  | nil => rfl
  | cons a r =>
    have h4 := List.head?_dropWhile_not (fun x : UInt8 => x == 48) l
    rw [e] at h4
    simp only [List.head?_cons] at h4
    rw [List.dropWhile_cons, if_neg (by simpa using h4)]
theorem strip_idem (l : List UInt8) : strip (strip l) = strip l := by
  unfold strip
  by_cases h : strip0 l = []
  · rw [if_pos h]; rfl
  · rw [if_neg h, strip0_strip0, if_neg h]
theorem strip0_suffix (l : List UInt8) : ∃ k, l = List.replicate k 48 ++ strip0 l := by
  induction l with
  | nil => exact ⟨0, rfl⟩
  | cons a l ih =>
    unfold strip0 at ih ⊢
    rw [List.dropWhile_cons]
    by_cases h : (a == 48) = true
    · obtain ⟨k, hk⟩ := ih
      rw [if_pos h]
      have : a = 48 := by simpa using h
      refine ⟨k + 1, ?_⟩
      rw [List.replicate_succ, List.cons_append, ← hk, this]
    · rw [if_neg h]; exact ⟨0, rfl⟩
theorem strip_len (l : List UInt8) (h : l ≠ []) : (strip l).length ≤ l.length ∧ 0 < (strip l).length := by
  unfold strip
  obtain ⟨k, hk⟩ := strip0_suffix l
  have hl := congrArg List.length hk
  simp at hl
  have : 0 < l.length := List.length_pos_iff.2 h
  split
  · simp; omega
  · rename_i h0
    have := List.length_pos_iff.2 h0
    omega
theorem strip_dig (l : List UInt8) (h : l.all isDig = true) : (strip l).all isDig = true := by
  unfold strip
  split
  · rfl
  · obtain ⟨k, hk⟩ := strip0_suffix l
    rw [hk, List.all_append, Bool.and_eq_true] at h
    exact h.2
/-- zeros in front, to n -/
def pad (n : Nat) (l : List UInt8) : List UInt8 := List.replicate (n - l.length) 48 ++ l
theorem pad_strip (l : List UInt8) (n : Nat) (h : l ≠ []) (h1 : (strip l).length ≤ n) (h2 : n ≤ l.length) : l = List.replicate (l.length - n) 48 ++ pad n (strip l) := by
  obtain ⟨k, hk⟩ := strip0_suffix l
  have hl := congrArg List.length hk
  simp at hl
  unfold strip at h1 ⊢
  unfold pad
  by_cases h0 : strip0 l = []
  · rw [if_pos h0] at h1 ⊢
    rw [h0, List.append_nil] at hk
    rw [h0] at hl
    simp at hl h1
    rw [← List.append_assoc, List.replicate_append_replicate, show ([48] : List UInt8) = List.replicate 1 48 from rfl, List.replicate_append_replicate]
    simp only [List.length_replicate]
    rw [show l.length - n + (n - 1) + 1 = k by omega]
    exact hk
  · rw [if_neg h0] at h1 ⊢
    rw [← List.append_assoc, List.replicate_append_replicate]
    rw [show l.length - n + (n - (strip0 l).length) = k by omega]
    exact hk
/-- the order of byte strings -/
def cmpL (a b : List UInt8) : Int := if Op.bytesLess a b then -1 else if Op.bytesLess a b || a == b then 0 else 1
theorem cmpL_cons (c : UInt8) (a b : List UInt8) : cmpL (c :: a) (c :: b) = cmpL a b := by
  have : Op.bytesLess (c :: a) (c :: b) = Op.bytesLess a b := by simp [Op.bytesLess]
  simp [cmpL, this]
theorem cmpL_app (p a b : List UInt8) : cmpL (p ++ a) (p ++ b) = cmpL a b := by
  induction p with
  | nil => rfl
  | cons c p ih => rw [List.cons_append, List.cons_append, cmpL_cons, ih]
theorem cmpL_pad (a b : List UInt8) (h : a.length = b.length) (ha : a ≠ []) : cmpL (pad (max (strip a).length (strip b).length) (strip a)) (pad (max (strip a).length (strip b).length) (strip b)) = cmpL a b := by
  have hb : b ≠ [] := by intro e; subst e; simp at h; exact ha h
  obtain ⟨a1, a2⟩ := strip_len a ha
  obtain ⟨b1, b2⟩ := strip_len b hb
  have e1 := pad_strip a (max (strip a).length (strip b).length) ha (by omega) (by omega)
  have e2 := pad_strip b (max (strip a).length (strip b).length) hb (by omega) (by omega)
  generalize max (strip a).length (strip b).length = m at e1 e2 ⊢
  generalize pad m (strip a) = x at e1 ⊢
  generalize pad m (strip b) = y at e2 ⊢
  rw [h] at e1
  generalize List.replicate (b.length - m) (48 : UInt8) = p at e1 e2
  rw [e1, e2, cmpL_app]
end Go.Proofs.YtabgobmeibjeeaaGreatDoor

namespace Go.Proofs.YtabgobmeibjeeaaGreatDoor
set_option linter.unusedSimpArgs false
set_option linter.unusedVariables false
set_option maxRecDepth 10000

theorem str_from (z : Nat) (l : List UInt8) (k : Nat) (i : Int) (hi : i = k) (h : k ≤ l.length) : pop (.slice true z true false false) [.str (mkS l), .int .i64 i] = some (.str (mkS (l.drop k))) := by
 subst hi
 simp only [pop, sliceArgs, boundsD, natOr, natOf, mkS_size]
 rw [if_pos (by omega)]
 simp only [Int.toNat_natCast]
 rw [if_pos ⟨h, Nat.le_refl _⟩]
 simp only [Option.map_some, mkS_extract]
 rw [List.take_of_length_le (by simp)]
theorem str_to (z : Nat) (l : List UInt8) (k : Nat) (i : Int) (hi : i = k) (h : k ≤ l.length) : pop (.slice true z false true false) [.str (mkS l), .int .i64 i] = some (.str (mkS (l.take k))) := by
 subst hi
 simp only [pop, sliceArgs, boundsD, natOr, natOf, mkS_size]
 rw [if_pos (by omega)]
 simp only [Int.toNat_natCast]
 rw [if_pos ⟨Nat.zero_le _, h⟩]
 simp only [Option.map_some, mkS_extract, List.drop_zero, Nat.sub_zero]
theorem eqNil (l : List UInt8) : (l == []) = true ↔ l = [] := by simp

theorem nan126_run {d : Nat} (hd : 1 ≤ d) (S : St) (x : Int) : runF LP NN d 126 [.int .u8 x] S = some (.bool false, S, false) := by
 refine run_pure (F := F126) rfl (by simp only [LP, fnOf, snapVs, snaps, zs, Bool.false_eq_true, if_false, Option.map_some, List.map_cons, List.map_nil] <;> exact rfl) rfl (by simp only [LP, zf, List.all_cons, List.all_nil, Bool.and_true, Bool.true_and]; try rfl) (by simp only [F126, zv] <;> exact rfl) (by omega) ?_
 rintro d rfl
 refine cw_seq (cw_region ?_)
 refine ow_mc ?_
 refine ow_nil ?_
 refine sk_n (by simp only [ze] <;> exact rfl) ?_
 refine cw_seq (cw_region ?_)
 refine ow_me rfl ?_
 refine ow_me rfl ?_
 refine ow_op (by simp only [zo, binD, zb, Int.reduceEq, Int.reduceToNat, Int.reduceLT, bne_self_eq_false, beq_self_eq_true, Bool.not_true] <;> exact rfl) ?_
 refine ow_ml rfl ?_
 refine ow_nil ?_
 refine sk_n (by simp only [ze] <;> exact rfl) ?_
 refine cw_ret ?_
 refine ⟨_, by simp only [F126, resultD, resDs, resD, List.getD_cons_zero, List.getD_cons_succ, zd, rowsOf, partD, List.getElem?_cons_zero, List.getElem?_cons_succ, if_true, if_false, Bool.false_eq_true, List.take, List.drop, zm] <;> exact rfl, ?_⟩
 rfl

theorem nan125_run {d : Nat} (hd : 1 ≤ d) (S : St) (x : ByteArray) : runF LP NN d 125 [.str x] S = some (.bool false, S, false) := by
 refine run_pure (F := F125) rfl (by simp only [LP, fnOf, snapVs, snaps, zs, Bool.false_eq_true, if_false, Option.map_some, List.map_cons, List.map_nil] <;> exact rfl) rfl (by simp only [LP, zf, List.all_cons, List.all_nil, Bool.and_true, Bool.true_and]; try rfl) (by simp only [F125, zv] <;> exact rfl) (by omega) ?_
 rintro d rfl
 refine cw_seq (cw_region ?_)
 refine ow_mc ?_
 refine ow_nil ?_
 refine sk_n (by simp only [ze] <;> exact rfl) ?_
 refine cw_seq (cw_region ?_)
 refine ow_me rfl ?_
 refine ow_me rfl ?_
 refine ow_op (by simp only [zo, binD, zb, Int.reduceEq, Int.reduceToNat, Int.reduceLT, bne_self_eq_false, beq_self_eq_true, Bool.not_true] <;> exact rfl) ?_
 refine ow_ml rfl ?_
 refine ow_nil ?_
 refine sk_n (by simp only [ze] <;> exact rfl) ?_
 refine cw_ret ?_
 refine ⟨_, by simp only [F125, resultD, resDs, resD, List.getD_cons_zero, List.getD_cons_succ, zd, rowsOf, partD, List.getElem?_cons_zero, List.getElem?_cons_succ, if_true, if_false, Bool.false_eq_true, List.take, List.drop, zm] <;> exact rfl, ?_⟩
 rfl

def cmpI (a b : Int) : Int := if a < b then -1 else if a > b then 1 else 0
theorem cmpB_run {d : Nat} (hd : 2 ≤ d) (S : St) (a b : Int) : runF LP NN d 86 [.int .u8 a, .int .u8 b] S = some (.int .i64 (cmpI a b), S, false) := by
 refine run_pure (F := F86) rfl (by simp only [LP, fnOf, snapVs, snaps, zs, Bool.false_eq_true, if_false, Option.map_some, List.map_cons, List.map_nil] <;> exact rfl) rfl (by simp only [LP, zf, List.all_cons, List.all_nil, Bool.and_true, Bool.true_and]; try rfl) (by simp only [F86, zv] <;> exact rfl) (by omega) ?_
 rintro d rfl
 refine cw_seq (cw_region ?_)
 refine ow_mc ?_
 refine ow_nil ?_
 refine sk_n (by simp only [ze] <;> exact rfl) ?_
 refine cw_seq (cw_region ?_)
 refine ow_me rfl ?_
 refine ow_op (by simp only [zo]; exact nan126_run (by omega) _ _) ?_
 refine ow_ml rfl ?_
 refine ow_nil ?_
 refine sk_n (by simp only [ze] <;> exact rfl) ?_
 refine cw_seq (cw_region ?_)
 refine ow_me rfl ?_
 refine ow_op (by simp only [zo]; exact nan126_run (by omega) _ _) ?_
 refine ow_ml rfl ?_
 refine ow_nil ?_
 refine sk_n (by simp only [ze] <;> exact rfl) ?_
 refine cw_seq (cw_seq (cw_region ?_))
 refine ow_me rfl ?_
 refine ow_nil ?_
 refine sk_n (by simp only [ze] <;> exact rfl) ?_
 skip
 refine cw_false (by simp only [opd, zv] <;> rfl) ?_
 refine cw_skip (sk_n rfl (cw_seq (cw_seq (cw_region ?_))))
 refine ow_me rfl ?_
 refine ow_nil ?_
 refine sk_n (by simp only [ze] <;> exact rfl) ?_
 skip
 refine cw_false (by simp only [opd, zv] <;> rfl) ?_
 refine cw_skip (sk_n rfl (cw_seq (cw_seq (cw_region ?_))))
 refine ow_me rfl ?_
 refine ow_me rfl ?_
 refine ow_op (by simp only [zo, binD, zb, Int.reduceEq, Int.reduceToNat, Int.reduceLT] <;> exact rfl) ?_
 refine ow_nil ?_
 refine sk_n (by simp only [ze] <;> exact rfl) ?_
 refine cw_cond (by simp only [opd, zv] <;> exact rfl) (fun hc => ?_) (fun hc => ?_)
 ·
  refine cw_seq (cw_region ?_)
  refine ow_mc ?_
  refine ow_nil ?_
  refine sk_n (by simp only [ze] <;> exact rfl) ?_
  refine cw_ret (sk_r ?_)
  refine ⟨_, by simp only [F86, resultD, resDs, resD, List.getD_cons_zero, List.getD_cons_succ, zd, rowsOf, partD, List.getElem?_cons_zero, List.getElem?_cons_succ, if_true, if_false, Bool.false_eq_true, List.take, List.drop, zm] <;> exact rfl, ?_⟩
  rw [cmpI, if_pos (of_decide_eq_true hc)]; rfl
 ·
  refine cw_skip (sk_n rfl (cw_seq (cw_seq (cw_region ?_))))
  refine ow_me rfl ?_
  refine ow_me rfl ?_
  refine ow_op (by simp only [zo, binD, zb, Int.reduceEq, Int.reduceToNat, Int.reduceLT] <;> exact rfl) ?_
  refine ow_nil ?_
  refine sk_n (by simp only [ze] <;> exact rfl) ?_
  refine cw_cond (by simp only [opd, zv] <;> exact rfl) (fun hcF => ?_) (fun hcF => ?_)
  ·
   refine cw_seq (cw_region ?_)
   refine ow_mc ?_
   refine ow_nil ?_
   refine sk_n (by simp only [ze] <;> exact rfl) ?_
   refine cw_ret (sk_r ?_)
   refine ⟨_, by simp only [F86, resultD, resDs, resD, List.getD_cons_zero, List.getD_cons_succ, zd, rowsOf, partD, List.getElem?_cons_zero, List.getElem?_cons_succ, if_true, if_false, Bool.false_eq_true, List.take, List.drop, zm] <;> exact rfl, ?_⟩
   rw [cmpI, if_neg (of_decide_eq_false hc), if_pos (of_decide_eq_true hcF)]; rfl
  ·
   refine cw_skip (sk_n rfl (cw_seq (cw_region ?_)))
   refine ow_mc ?_
   refine ow_nil ?_
   refine sk_n (by simp only [ze] <;> exact rfl) ?_
   refine cw_ret ?_
   refine ⟨_, by simp only [F86, resultD, resDs, resD, List.getD_cons_zero, List.getD_cons_succ, zd, rowsOf, partD, List.getElem?_cons_zero, List.getElem?_cons_succ, if_true, if_false, Bool.false_eq_true, List.take, List.drop, zm] <;> exact rfl, ?_⟩
   rw [cmpI, if_neg (of_decide_eq_false hc), if_neg (of_decide_eq_false hcF)]; rfl

theorem cmpS_run {d : Nat} (hd : 2 ≤ d) (S : St) (a b : List UInt8) : runF LP NN d 85 [.str (mkS a), .str (mkS b)] S = some (.int .i64 (cmpL a b), S, false) := by
 refine run_pure (F := F85) rfl (by simp only [LP, fnOf, snapVs, snaps, zs, Bool.false_eq_true, if_false, Option.map_some, List.map_cons, List.map_nil] <;> exact rfl) rfl (by simp only [LP, zf, List.all_cons, List.all_nil, Bool.and_true, Bool.true_and]; try rfl) (by simp only [F85, zv] <;> exact rfl) (by omega) ?_
 rintro d rfl
 refine cw_seq (cw_region ?_)
 refine ow_mc ?_
 refine ow_nil ?_
 refine sk_n (by simp only [ze] <;> exact rfl) ?_
 refine cw_seq (cw_region ?_)
 refine ow_me rfl ?_
 refine ow_op (by simp only [zo, mkS_toList]; exact nan125_run (by omega) _ _) ?_
 refine ow_ml rfl ?_
 refine ow_nil ?_
 refine sk_n (by simp only [ze] <;> exact rfl) ?_
 refine cw_seq (cw_region ?_)
 refine ow_me rfl ?_
 refine ow_op (by simp only [zo, mkS_toList]; exact nan125_run (by omega) _ _) ?_
 refine ow_ml rfl ?_
 refine ow_nil ?_
 refine sk_n (by simp only [ze] <;> exact rfl) ?_
 refine cw_seq (cw_seq (cw_region ?_))
 refine ow_me rfl ?_
 refine ow_nil ?_
 refine sk_n (by simp only [ze] <;> exact rfl) ?_
 skip
 refine cw_false (by simp only [opd, zv, mkS_toList] <;> rfl) ?_
 refine cw_skip (sk_n rfl (cw_seq (cw_seq (cw_region ?_))))
 refine ow_me rfl ?_
 refine ow_nil ?_
 refine sk_n (by simp only [ze] <;> exact rfl) ?_
 skip
 refine cw_false (by simp only [opd, zv, mkS_toList] <;> rfl) ?_
 refine cw_skip (sk_n rfl (cw_seq (cw_seq (cw_region ?_))))
 refine ow_me rfl ?_
 refine ow_me rfl ?_
 refine ow_op (by simp only [zo, binD, zb, Int.reduceEq, Int.reduceToNat, Int.reduceLT, mkS_toList] <;> exact rfl) ?_
 refine ow_nil ?_
 refine sk_n (by simp only [ze] <;> exact rfl) ?_
 refine cw_cond (by simp only [opd, zv, mkS_toList] <;> exact rfl) (fun hc => ?_) (fun hc => ?_)
 ·
  refine cw_seq (cw_region ?_)
  refine ow_mc ?_
  refine ow_nil ?_
  refine sk_n (by simp only [ze] <;> exact rfl) ?_
  refine cw_ret (sk_r ?_)
  refine ⟨_, by simp only [F85, resultD, resDs, resD, List.getD_cons_zero, List.getD_cons_succ, zd, rowsOf, partD, List.getElem?_cons_zero, List.getElem?_cons_succ, if_true, if_false, Bool.false_eq_true, List.take, List.drop, zm] <;> exact rfl, ?_⟩
  rw [cmpL, if_pos hc]; rfl
 ·
  refine cw_skip (sk_n rfl (cw_seq (cw_seq (cw_region ?_))))
  refine ow_me rfl ?_
  refine ow_me rfl ?_
  refine ow_op (by simp only [zo, binD, zb, Int.reduceEq, Int.reduceToNat, Int.reduceLT, mkS_toList] <;> exact rfl) ?_
  refine ow_nil ?_
  refine sk_n (by simp only [ze] <;> exact rfl) ?_
  refine cw_cond (by simp only [opd, zv, mkS_toList] <;> exact rfl) (fun hcF => ?_) (fun hcF => ?_)
  ·
   refine cw_seq (cw_region ?_)
   refine ow_mc ?_
   refine ow_nil ?_
   refine sk_n (by simp only [ze] <;> exact rfl) ?_
   refine cw_ret (sk_r ?_)
   refine ⟨_, by simp only [F85, resultD, resDs, resD, List.getD_cons_zero, List.getD_cons_succ, zd, rowsOf, partD, List.getElem?_cons_zero, List.getElem?_cons_succ, if_true, if_false, Bool.false_eq_true, List.take, List.drop, zm] <;> exact rfl, ?_⟩
   rw [cmpL, if_neg (by simp [hc]), if_neg (by simpa using hcF)]; rfl
  ·
   refine cw_skip (sk_n rfl (cw_seq (cw_region ?_)))
   refine ow_mc ?_
   refine ow_nil ?_
   refine sk_n (by simp only [ze] <;> exact rfl) ?_
   refine cw_ret ?_
   refine ⟨_, by simp only [F85, resultD, resDs, resD, List.getD_cons_zero, List.getD_cons_succ, zd, rowsOf, partD, List.getElem?_cons_zero, List.getElem?_cons_succ, if_true, if_false, Bool.false_eq_true, List.take, List.drop, zm] <;> exact rfl, ?_⟩
   rw [cmpL, if_neg (by simp [hc]), if_pos (by simpa only [Bool.not_eq_false'] using hcF)]; rfl

theorem trimLB_run {d : Nat} (hd : 1 ≤ d) (S : St) (l : List UInt8) (hl : l.length ≤ 1000000) : runF LP NN d 99 [.str (mkS l), .int .u8 48] S = some (.str (mkS (strip0 l)), S, false) := by
 refine run_pure (F := F99) rfl (by simp only [LP, fnOf, snapVs, snaps, zs, Bool.false_eq_true, if_false, Option.map_some, List.map_cons, List.map_nil] <;> exact rfl) rfl (by simp only [LP, zf, List.all_cons, List.all_nil, Bool.and_true, Bool.true_and]; try rfl) (by simp only [F99, zv] <;> exact rfl) (by omega) ?_
 rintro d rfl
 refine cw_seq (cw_region ?_)
 refine ow_mc ?_
 refine ow_nil ?_
 refine sk_n (by simp only [ze] <;> exact rfl) ?_
 refine cw_seq (cw_block ?_)
 refine cw_loop (fun n env S' => ∃ (l' : List UInt8) (u3 : D), strip0 l' = strip0 l ∧ l'.length = n ∧ S' = ⟨[], 0⟩ ∧ env = [.str (mkS l'), .int .u8 48, .str ⟨#[]⟩, u3]) (l.length) (by omega) (⟨l, _, rfl, rfl, rfl, rfl⟩) ?_
 rintro n env S' ⟨l', u3, hl', rfl, rfl, rfl⟩
 refine cw_seq (cw_seq (cw_region ?_))
 refine ow_me rfl ?_
 refine ow_op (by simp only [zo, lenD_str, lenD_nils, lenD_sl, lenD_msl, mkS_size, mkS_get] <;> exact rfl) ?_
 refine ow_op (by simp only [zo, binD, zb, Int.reduceEq, Int.reduceToNat, Int.reduceLT, mkS_size, mkS_get] <;> exact rfl) ?_
 refine ow_ml rfl ?_
 refine ow_split 0 (by simp only [opd, zv] <;> exact rfl) (by simp only [zn] <;> exact rfl) (by simp only [zn] <;> exact rfl) (fun hgA => ?_) (fun hgA => ?_)
 ·
  obtain ⟨c, l'', rfl⟩ : ∃ c l'', l' = c :: l'' := by
   cases l' with
   | nil => simp at hgA
   | cons c l => exact ⟨c, l, rfl⟩
  rename List UInt8 => l'
  refine ow_on (by simp only [opd, zv]) ?_
  refine ow_me rfl ?_
  refine ow_on (by simp only [opd, zv]) ?_
  refine ow_op (by simp only [zo, indexD, zm, mkS_size, mkS_get, List.getElem?_cons_zero] <;> exact rfl) ?_
  refine ow_on (by simp only [opd, zv]) ?_
  refine ow_me rfl ?_
  refine ow_on (by simp only [opd, zv]) ?_
  refine ow_op (by simp only [zo, binD, zb, Int.reduceEq, Int.reduceToNat, Int.reduceLT, mkS_size, mkS_get, List.getElem?_cons_zero] <;> exact rfl) ?_
  refine ow_op (by simp only [zo, mkS_size, mkS_get, List.getElem?_cons_zero] <;> exact rfl) ?_
  refine ow_nil ?_
  refine sk_n (by simp only [ze] <;> exact rfl) ?_
  refine cw_cond (by simp only [opd, zv, mkS_size, mkS_get, List.getElem?_cons_zero] <;> exact rfl) (fun hcAT => ?_) (fun hcAT => ?_)
  ·
   have h48 : (c == 48) = true := by
    have := hcAT
    simp only [beq_iff_eq] at this ⊢
    exact UInt8.toNat_inj.1 (by show c.toNat = 48; omega)
   refine cw_skip (sk_n rfl (cw_block (cw_region ?_)))
   refine ow_me rfl ?_
   refine ow_op (by simp only [opd, zv, exOp, aop, LOp.loud, Bool.false_eq_true, if_false, mkS_size]; rw [str_from _ _ 1 1 rfl (by simp)]; exact rfl) ?_
   refine ow_ml rfl ?_
   refine ow_nil (bk_n ?_)
   refine lk_n (by simp only [ze] <;> exact rfl) ?_
   exact ⟨l'.length, by simp, l', _, by rw [← hl', strip0, strip0, List.dropWhile_cons, if_pos h48], rfl, rfl, rfl⟩
  ·
   refine cw_exit (sk_e (lk_e (bk_e (sk_n rfl (cw_seq (cw_region ?_))))))
   refine ow_me rfl ?_
   refine ow_ml rfl ?_
   refine ow_nil ?_
   refine sk_n (by simp only [ze] <;> exact rfl) ?_
   refine cw_ret ?_
   refine ⟨_, by simp only [F99, resultD, resDs, resD, List.getD_cons_zero, List.getD_cons_succ, zd, rowsOf, partD, List.getElem?_cons_zero, List.getElem?_cons_succ, if_true, if_false, Bool.false_eq_true, List.take, List.drop, zm] <;> exact rfl, ?_⟩
   rw [← hl', show strip0 (c :: l') = c :: l' by rw [strip0, List.dropWhile_cons, if_neg (fun h => by have := hcAT; simp at h; subst h; simp at this)]]; rfl
 ·
  obtain rfl : l' = [] := by
   cases l' with
   | nil => rfl
   | cons c l => have := of_decide_eq_false hgA; simp at this
  refine ow_off (b' := false) (by simp only [opd, zv]) rfl ?_
  refine ow_off (b' := false) (by simp only [opd, zv]) rfl ?_
  refine ow_off (b' := false) (by simp only [opd, zv]) rfl ?_
  refine ow_off (b' := false) (by simp only [opd, zv]) rfl ?_
  refine ow_op (by simp only [zo, mkS_size, mkS_get] <;> exact rfl) ?_
  refine ow_nil ?_
  refine sk_n (by simp only [ze] <;> exact rfl) ?_
  refine cw_false (by simp only [opd, zv, mkS_size, mkS_get]) ?_
  refine cw_exit (sk_e (lk_e (bk_e (sk_n rfl (cw_seq (cw_region ?_))))))
  refine ow_me rfl ?_
  refine ow_ml rfl ?_
  refine ow_nil ?_
  refine sk_n (by simp only [ze] <;> exact rfl) ?_
  refine cw_ret ?_
  refine ⟨_, by simp only [F99, resultD, resDs, resD, List.getD_cons_zero, List.getD_cons_succ, zd, rowsOf, partD, List.getElem?_cons_zero, List.getElem?_cons_succ, if_true, if_false, Bool.false_eq_true, List.take, List.drop, zm] <;> exact rfl, ?_⟩
  rw [← hl']; rfl

end Go.Proofs.YtabgobmeibjeeaaGreatDoor

namespace Go.Proofs.YtabgobmeibjeeaaGreatDoor
set_option linter.unusedSimpArgs false
set_option linter.unusedVariables false
set_option maxRecDepth 10000

theorem m48 : (⟨#[48]⟩ : ByteArray) = mkS [48] := rfl
theorem trimL0_run {d : Nat} (hd : 2 ≤ d) (S : St) (l : List UInt8) (hl : l.length ≤ 1000000) : runF LP NN d 64 [.str (mkS l), .str ⟨#[48]⟩] S = some (.str (mkS (strip0 l)), S, false) := by
 refine run_pure (F := F64) rfl (by simp only [LP, fnOf, snapVs, snaps, zs, Bool.false_eq_true, if_false, Option.map_some, List.map_cons, List.map_nil] <;> exact rfl) rfl (by simp only [LP, zf, List.all_cons, List.all_nil, Bool.and_true, Bool.true_and]; try rfl) (by simp only [F64, zv] <;> exact rfl) (by omega) ?_
 rintro d rfl
 refine cw_seq (cw_region ?_)
 refine ow_mc ?_
 refine ow_nil ?_
 refine sk_n (by simp only [ze] <;> exact rfl) ?_
 refine cw_seq (cw_seq (cw_region ?_))
 refine ow_me rfl ?_
 refine ow_op (by simp only [zo, binD, zb, Int.reduceEq, Int.reduceToNat, Int.reduceLT, mkS_toList, mkS_size, mkS_get, List.length_cons, List.length_nil, List.getElem?_cons_zero, nil_toList, m48] <;> exact rfl) ?_
 refine ow_ml rfl ?_
 refine ow_split 0 (by simp only [opd, zv] <;> exact rfl) (by simp only [zn] <;> exact rfl) (by simp only [zn] <;> exact rfl) (fun hg => ?_) (fun hg => ?_)
 ·
  refine ow_off (b' := true) (by simp only [opd, zv]) rfl ?_
  refine ow_off (b' := true) (by simp only [opd, zv]) rfl ?_
  refine ow_op (by simp only [zo, mkS_toList, mkS_size, mkS_get, List.length_cons, List.length_nil, List.getElem?_cons_zero, nil_toList, m48] <;> exact rfl) ?_
  refine ow_nil ?_
  refine sk_n (by simp only [ze] <;> exact rfl) ?_
  refine cw_true (by simp only [opd, zv, mkS_toList, mkS_size, mkS_get, List.length_cons, List.length_nil, List.getElem?_cons_zero, nil_toList, m48]) ?_
  refine cw_seq (cw_region ?_)
  refine ow_me rfl ?_
  refine ow_ml rfl ?_
  refine ow_nil ?_
  refine sk_n (by simp only [ze] <;> exact rfl) ?_
  refine cw_ret (sk_r ?_)
  refine ⟨_, by simp only [F64, resultD, resDs, resD, List.getD_cons_zero, List.getD_cons_succ, zd, rowsOf, partD, List.getElem?_cons_zero, List.getElem?_cons_succ, if_true, if_false, Bool.false_eq_true, List.take, List.drop, zm] <;> exact rfl, ?_⟩
  obtain rfl := (eqNil l).1 hg
  rfl
 ·
  refine ow_on (by simp only [opd, zv]) ?_
  refine ow_me rfl ?_
  refine ow_on (by simp only [opd, zv]) ?_
  refine ow_op (by simp only [zo, binD, zb, Int.reduceEq, Int.reduceToNat, Int.reduceLT, mkS_toList, mkS_size, mkS_get, List.length_cons, List.length_nil, List.getElem?_cons_zero, nil_toList, m48] <;> exact rfl) ?_
  refine ow_op (by simp only [zo, mkS_toList, mkS_size, mkS_get, List.length_cons, List.length_nil, List.getElem?_cons_zero, nil_toList, m48] <;> exact rfl) ?_
  refine ow_nil ?_
  refine sk_n (by simp only [ze] <;> exact rfl) ?_
  skip
  refine cw_false (by simp only [opd, zv, mkS_toList, mkS_size, mkS_get, List.length_cons, List.length_nil, List.getElem?_cons_zero, nil_toList, m48] <;> rfl) ?_
  refine cw_skip (sk_n rfl (cw_seq (cw_seq (cw_region ?_))))
  refine ow_me rfl ?_
  refine ow_op (by simp only [zo, lenD_str, lenD_nils, lenD_sl, lenD_msl, mkS_toList, mkS_size, mkS_get, List.length_cons, List.length_nil, List.getElem?_cons_zero, nil_toList, m48] <;> exact rfl) ?_
  refine ow_op (by simp only [zo, binD, zb, Int.reduceEq, Int.reduceToNat, Int.reduceLT, mkS_toList, mkS_size, mkS_get, List.length_cons, List.length_nil, List.getElem?_cons_zero, nil_toList, m48] <;> exact rfl) ?_
  refine ow_ml rfl ?_
  refine ow_know 0 (b := true) (by simp only [opd, zv, mkS_toList, mkS_size, mkS_get, List.length_cons, List.length_nil, List.getElem?_cons_zero, nil_toList, m48] <;> rfl) (by simp only [zn] <;> exact rfl) ?_
  refine ow_on (by simp only [opd, zv]) ?_
  refine ow_me rfl ?_
  refine ow_on (by simp only [opd, zv]) ?_
  refine ow_op (by simp only [zo, indexD, zm, mkS_toList, mkS_size, mkS_get, List.length_cons, List.length_nil, List.getElem?_cons_zero, nil_toList, m48] <;> exact rfl) ?_
  refine ow_on (by simp only [opd, zv]) ?_
  refine ow_op (by simp only [zo, binD, zb, Int.reduceEq, Int.reduceToNat, Int.reduceLT, mkS_toList, mkS_size, mkS_get, List.length_cons, List.length_nil, List.getElem?_cons_zero, nil_toList, m48] <;> exact rfl) ?_
  refine ow_op (by simp only [zo, mkS_toList, mkS_size, mkS_get, List.length_cons, List.length_nil, List.getElem?_cons_zero, nil_toList, m48] <;> exact rfl) ?_
  refine ow_nil ?_
  refine sk_n (by simp only [ze] <;> exact rfl) ?_
  skip
  refine cw_true (by simp only [opd, zv, mkS_toList, mkS_size, mkS_get, List.length_cons, List.length_nil, List.getElem?_cons_zero, nil_toList, m48] <;> rfl) ?_
  refine cw_seq (cw_region ?_)
  refine ow_me rfl ?_
  refine ow_me rfl ?_
  refine ow_op (by simp only [zo, indexD, zm, mkS_toList, mkS_size, mkS_get, List.length_cons, List.length_nil, List.getElem?_cons_zero, nil_toList, m48] <;> exact rfl) ?_
  refine ow_op (by simp only [zo, mkS_toList, mkS_size, mkS_get, List.length_cons, List.length_nil, List.getElem?_cons_zero, nil_toList, m48]; exact trimLB_run (by omega) _ l hl) ?_
  refine ow_ml rfl ?_
  refine ow_nil ?_
  refine sk_n (by simp only [ze] <;> exact rfl) ?_
  refine cw_ret (sk_r ?_)
  refine ⟨_, by simp only [F64, resultD, resDs, resD, List.getD_cons_zero, List.getD_cons_succ, zd, rowsOf, partD, List.getElem?_cons_zero, List.getElem?_cons_succ, if_true, if_false, Bool.false_eq_true, List.take, List.drop, zm] <;> exact rfl, ?_⟩
  rfl

def digOb : AObj := ⟨158, 256, [digTab], 0, 0, false⟩
theorem c256 (c : UInt8) : (0 : Int) ≤ (c.toNat : Int) ∧ (c.toNat : Int) < ((256 : Nat) : Int) := by have := c.toNat_lt; omega
theorem cont_run {d : Nat} (hd : 1 ≤ d) (S : St) (g : Nat) (hcap : S.heap[g]? = some digOb) (c : UInt8) : runF LP NN d 136 [.ptr g 0 0 0, .int .u8 c.toNat] S = some (.bool (isDig c), S, false) := by
 refine run_at (F := F136) rfl (by simp only [LP, fnOf, snapVs, snaps, zs, Bool.false_eq_true, if_false, Option.map_some, List.map_cons, List.map_nil] <;> exact rfl) rfl (by simp only [LP, zf, List.all_cons, List.all_nil, Bool.and_true, Bool.true_and]; try rfl) (by simp only [F136, zv] <;> exact rfl) (by omega) ?_
 rintro d rfl
 refine cw_seq (cw_region ?_)
 refine ow_mc ?_
 refine ow_nil ?_
 refine sk_n (by simp only [ze] <;> exact rfl) ?_
 refine cw_seq (cw_region ?_)
 refine ow_me rfl ?_
 refine ow_me rfl ?_
 refine ow_op (by simp only [zo, hcap, digOb, Int.toNat_natCast, Nat.zero_add, Nat.mul_one, digTab_at, c256 c, and_self] <;> exact rfl) ?_
 refine ow_op (by simp only [zo, aaddrD, zm, hcap, digOb, Int.toNat_natCast, Nat.zero_add, Nat.mul_one, digTab_at, c256 c, and_self] <;> exact rfl) ?_
 refine ow_op (by simp only [zl, zm, zd, partD, List.take, List.drop, hcap, digOb, Int.toNat_natCast, Nat.zero_add, Nat.mul_one, digTab_at, c256 c, and_self] <;> exact rfl) ?_
 refine ow_ml rfl ?_
 refine ow_nil ?_
 refine sk_n (by simp only [ze] <;> exact rfl) ?_
 refine cw_ret ?_
 refine ⟨_, by simp only [F136, resultD, resDs, resD, List.getD_cons_zero, List.getD_cons_succ, zd, rowsOf, partD, List.getElem?_cons_zero, List.getElem?_cons_succ, if_true, if_false, Bool.false_eq_true, List.take, List.drop, zm] <;> exact rfl, ?_⟩
 simp [leave, LP, snapR, snapV, snap, D.freeR, D.freeV, D.free]

theorem trimLA_run {d : Nat} (hd : 2 ≤ d) (S : St) (g : Nat) (hcap : S.heap[g]? = some digOb) (l : List UInt8) (hl : l.length ≤ 1000000) : runF LP NN d 101 [.str (mkS l), .ptr g 0 0 0] S = some (.str (mkS (l.dropWhile isDig)), S, false) := by
 refine run_at (F := F101) rfl (by simp only [LP, fnOf, snapVs, snaps, zs, Bool.false_eq_true, if_false, Option.map_some, List.map_cons, List.map_nil] <;> exact rfl) rfl (by simp only [LP, zf, List.all_cons, List.all_nil, Bool.and_true, Bool.true_and]; try rfl) (by simp only [F101, zv] <;> exact rfl) (by omega) ?_
 rintro d rfl
 refine cw_seq (cw_region ?_)
 refine ow_mc ?_
 refine ow_nil ?_
 refine sk_n (by simp only [ze] <;> exact rfl) ?_
 refine cw_seq (cw_block ?_)
 refine cw_loop (fun n env S' => ∃ (l' : List UInt8) (u3 u4 : D), l'.dropWhile isDig = l.dropWhile isDig ∧ l'.length = n ∧ S' = ⟨S.heap, S.heap.length⟩ ∧ env = [.str (mkS l'), .ptr g 0 0 0, .str ⟨#[]⟩, u3, u4]) (l.length) (by omega) (⟨l, _, _, rfl, rfl, rfl, rfl⟩) ?_
 rintro n env S' ⟨l', u3, u4, hl', rfl, rfl, rfl⟩
 refine cw_seq (cw_seq (cw_region ?_))
 refine ow_me rfl ?_
 refine ow_op (by simp only [zo, lenD_str, lenD_nils, lenD_sl, lenD_msl, mkS_size, mkS_get] <;> exact rfl) ?_
 refine ow_op (by simp only [zo, binD, zb, Int.reduceEq, Int.reduceToNat, Int.reduceLT, mkS_size, mkS_get] <;> exact rfl) ?_
 refine ow_nil ?_
 refine sk_n (by simp only [ze] <;> exact rfl) ?_
 refine cw_cond (by simp only [opd, zv, mkS_size, mkS_get] <;> exact rfl) (fun hcA => ?_) (fun hcA => ?_)
 ·
  obtain ⟨c, l'', rfl⟩ : ∃ c l'', l' = c :: l'' := by
   cases l' with
   | nil => simp at hcA
   | cons c l => exact ⟨c, l, rfl⟩
  rename List UInt8 => l'
  refine cw_skip (sk_n rfl (cw_block (cw_seq (cw_seq (cw_region ?_)))))
  refine ow_me rfl ?_
  refine ow_me rfl ?_
  refine ow_op (by simp only [zo, indexD, zm, mkS_size, mkS_get, List.getElem?_cons_zero] <;> exact rfl) ?_
  refine ow_op (by simp only [zo, mkS_size, mkS_get, List.getElem?_cons_zero]; exact cont_run (by omega) ⟨S.heap, S.heap.length⟩ g hcap c) ?_
  refine ow_op (by simp only [zo, unD, mkS_size, mkS_get, List.getElem?_cons_zero] <;> exact rfl) ?_
  refine ow_nil ?_
  refine sk_n (by simp only [ze] <;> exact rfl) ?_
  refine cw_cond (by simp only [opd, zv, mkS_size, mkS_get, List.getElem?_cons_zero] <;> exact rfl) (fun hcAT => ?_) (fun hcAT => ?_)
  ·
   refine cw_exit (sk_e (bk_o rfl (lk_e (bk_e (sk_n rfl (cw_seq (cw_region ?_)))))))
   refine ow_me rfl ?_
   refine ow_ml rfl ?_
   refine ow_nil ?_
   refine sk_n (by simp only [ze] <;> exact rfl) ?_
   refine cw_ret ?_
   refine ⟨_, by simp only [F101, resultD, resDs, resD, List.getD_cons_zero, List.getD_cons_succ, zd, rowsOf, partD, List.getElem?_cons_zero, List.getElem?_cons_succ, if_true, if_false, Bool.false_eq_true, List.take, List.drop, zm] <;> exact rfl, ?_⟩
   rw [← hl', List.dropWhile_cons, if_neg (by simpa using hcAT)]
   simp [leave, LP, snapR, snapV, snap, D.freeR, D.freeV, D.free]
  ·
   refine cw_skip (sk_n rfl (cw_region ?_))
   refine ow_me rfl ?_
   refine ow_op (by simp only [opd, zv, exOp, aop, LOp.loud, Bool.false_eq_true, if_false, mkS_size]; rw [str_from _ _ 1 1 rfl (by simp)]; exact rfl) ?_
   refine ow_ml rfl ?_
   refine ow_nil (bk_n ?_)
   refine lk_n (by simp only [ze] <;> exact rfl) ?_
   exact ⟨l'.length, by simp, l', _, _, by rw [← hl', List.dropWhile_cons, if_pos (by simpa using hcAT)], rfl, rfl, rfl⟩
 ·
  obtain rfl : l' = [] := by
   cases l' with
   | nil => rfl
   | cons c l => have := of_decide_eq_false hcA; simp at this
  refine cw_exit (sk_e (lk_e (bk_e (sk_n rfl (cw_seq (cw_region ?_))))))
  refine ow_me rfl ?_
  refine ow_ml rfl ?_
  refine ow_nil ?_
  refine sk_n (by simp only [ze] <;> exact rfl) ?_
  refine cw_ret ?_
  refine ⟨_, by simp only [F101, resultD, resDs, resD, List.getD_cons_zero, List.getD_cons_succ, zd, rowsOf, partD, List.getElem?_cons_zero, List.getElem?_cons_succ, if_true, if_false, Bool.false_eq_true, List.take, List.drop, zm] <;> exact rfl, ?_⟩
  rw [← hl']
  simp [leave, LP, snapR, snapV, snap, D.freeR, D.freeV, D.free]

theorem trimRA_run {d : Nat} (hd : 2 ≤ d) (S : St) (g : Nat) (hcap : S.heap[g]? = some digOb) (l : List UInt8) (hl : l.length ≤ 1000000) : runF LP NN d 105 [.str (mkS l), .ptr g 0 0 0] S = some (.str (mkS (rtrim l)), S, false) := by
 refine run_at (F := F105) rfl (by simp only [LP, fnOf, snapVs, snaps, zs, Bool.false_eq_true, if_false, Option.map_some, List.map_cons, List.map_nil] <;> exact rfl) rfl (by simp only [LP, zf, List.all_cons, List.all_nil, Bool.and_true, Bool.true_and]; try rfl) (by simp only [F105, zv] <;> exact rfl) (by omega) ?_
 rintro d rfl
 refine cw_seq (cw_region ?_)
 refine ow_mc ?_
 refine ow_nil ?_
 refine sk_n (by simp only [ze] <;> exact rfl) ?_
 refine cw_seq (cw_block ?_)
 refine cw_loop (fun n env S' => ∃ (l' : List UInt8) (u3 u4 : D), rtrim l' = rtrim l ∧ l'.length = n ∧ n ≤ l.length ∧ S' = ⟨S.heap, S.heap.length⟩ ∧ env = [.str (mkS l'), .ptr g 0 0 0, .str ⟨#[]⟩, u3, u4]) (l.length) (by omega) (⟨l, _, _, rfl, rfl, by omega, rfl, rfl⟩) ?_
 rintro n env S' ⟨l', u3, u4, hl', rfl, hle, rfl, rfl⟩
 refine cw_seq (cw_seq (cw_region ?_))
 refine ow_me rfl ?_
 refine ow_op (by simp only [zo, lenD_str, lenD_nils, lenD_sl, lenD_msl, mkS_size, mkS_get] <;> exact rfl) ?_
 refine ow_op (by simp only [zo, binD, zb, Int.reduceEq, Int.reduceToNat, Int.reduceLT, mkS_size, mkS_get] <;> exact rfl) ?_
 refine ow_nil ?_
 refine sk_n (by simp only [ze] <;> exact rfl) ?_
 refine cw_cond (by simp only [opd, zv, mkS_size, mkS_get] <;> exact rfl) (fun hcA => ?_) (fun hcA => ?_)
 ·
  obtain ⟨l'', c, rfl⟩ : ∃ l'' c, l' = l'' ++ [c] := by
   rcases List.eq_nil_or_concat l' with h | ⟨a, b, h⟩
   ·
    subst h; simp at hcA
   ·
    exact ⟨a, b, by simpa using h⟩
  rename List UInt8 => l'
  have hw : IntKind.i64.wrap (((l' ++ [c]).length : Nat) - 1 : Int) = (l'.length : Int) := by rw [IntKind.wrap_i64]; simp at hle ⊢; omega
  have hix : (l' ++ [c])[l'.length]? = some c := by simp
  have h0 : (0 : Int) ≤ (l'.length : Int) := by omega
  refine cw_skip (sk_n rfl (cw_block (cw_seq (cw_seq (cw_region ?_)))))
  refine ow_me rfl ?_
  refine ow_me rfl ?_
  refine ow_me rfl ?_
  refine ow_op (by simp only [zo, lenD_str, lenD_nils, lenD_sl, lenD_msl, mkS_size, mkS_get, hw, hix, h0, Int.toNat_natCast] <;> exact rfl) ?_
  refine ow_op (by simp only [zo, binD, zb, Int.reduceEq, Int.reduceToNat, Int.reduceLT, mkS_size, mkS_get, hw, hix, h0, Int.toNat_natCast] <;> exact rfl) ?_
  refine ow_op (by simp only [zo, indexD, zm, mkS_size, mkS_get, hw, hix, h0, Int.toNat_natCast] <;> exact rfl) ?_
  refine ow_op (by simp only [zo, mkS_size, mkS_get, hw, hix, h0, Int.toNat_natCast]; exact cont_run (by omega) ⟨S.heap, S.heap.length⟩ g hcap c) ?_
  refine ow_op (by simp only [zo, unD, mkS_size, mkS_get, hw, hix, h0, Int.toNat_natCast] <;> exact rfl) ?_
  refine ow_nil ?_
  refine sk_n (by simp only [ze] <;> exact rfl) ?_
  refine cw_cond (by simp only [opd, zv, mkS_size, mkS_get, hw, hix, h0, Int.toNat_natCast] <;> exact rfl) (fun hcAT => ?_) (fun hcAT => ?_)
  ·
   refine cw_exit (sk_e (bk_o rfl (lk_e (bk_e (sk_n rfl (cw_seq (cw_region ?_)))))))
   refine ow_me rfl ?_
   refine ow_ml rfl ?_
   refine ow_nil ?_
   refine sk_n (by simp only [ze] <;> exact rfl) ?_
   refine cw_ret ?_
   refine ⟨_, by simp only [F105, resultD, resDs, resD, List.getD_cons_zero, List.getD_cons_succ, zd, rowsOf, partD, List.getElem?_cons_zero, List.getElem?_cons_succ, if_true, if_false, Bool.false_eq_true, List.take, List.drop, zm] <;> exact rfl, ?_⟩
   rw [← hl', rtrim_snoc, if_neg (by simpa using hcAT)]
   simp [leave, LP, snapR, snapV, snap, D.freeR, D.freeV, D.free]
  ·
   refine cw_skip (sk_n rfl (cw_region ?_))
   refine ow_me rfl ?_
   refine ow_me rfl ?_
   refine ow_op (by simp only [zo, lenD_str, lenD_nils, lenD_sl, lenD_msl, mkS_size, mkS_get, hw, hix, h0, Int.toNat_natCast] <;> exact rfl) ?_
   refine ow_op (by simp only [zo, binD, zb, Int.reduceEq, Int.reduceToNat, Int.reduceLT, mkS_size, mkS_get, hw, hix, h0, Int.toNat_natCast] <;> exact rfl) ?_
   refine ow_op (by simp only [opd, zv, exOp, aop, LOp.loud, Bool.false_eq_true, if_false]; rw [str_to _ (l' ++ [c]) l'.length _ rfl (by simp), List.take_left]; exact rfl) ?_
   refine ow_ml rfl ?_
   refine ow_nil (bk_n ?_)
   refine lk_n (by simp only [ze] <;> exact rfl) ?_
   exact ⟨l'.length, by simp, l', _, _, by rw [← hl', rtrim_snoc, if_pos (by simpa using hcAT)], rfl, by simp at hle; omega, rfl, rfl⟩
 ·
  obtain rfl : l' = [] := by
   cases l' with
   | nil => rfl
   | cons c l => have := of_decide_eq_false hcA; simp at this
  refine cw_exit (sk_e (lk_e (bk_e (sk_n rfl (cw_seq (cw_region ?_))))))
  refine ow_me rfl ?_
  refine ow_ml rfl ?_
  refine ow_nil ?_
  refine sk_n (by simp only [ze] <;> exact rfl) ?_
  refine cw_ret ?_
  refine ⟨_, by simp only [F105, resultD, resDs, resD, List.getD_cons_zero, List.getD_cons_succ, zd, rowsOf, partD, List.getElem?_cons_zero, List.getElem?_cons_succ, if_true, if_false, Bool.false_eq_true, List.take, List.drop, zm] <;> exact rfl, ?_⟩
  rw [← hl', show rtrim [] = [] from rfl]
  simp [leave, LP, snapR, snapV, snap, D.freeR, D.freeV, D.free]

theorem aset_run {d : Nat} (hd : 1 ≤ d) (S : St) : runF LP NN d 100 [.str ⟨#[48, 49, 50, 51, 52, 53, 54, 55, 56, 57]⟩] S = some (.tup [.agg digTab, .bool true], S, false) := by
 obtain ⟨d, rfl⟩ : ∃ d', d = d' + 1 := ⟨d - 1, by omega⟩
 kernel_rfl

theorem plain_S : (⟨#[48, 49, 50, 51, 52, 53, 54, 55, 56, 57]⟩ : ByteArray) = mkS [48, 49, 50, 51, 52, 53, 54, 55, 56, 57] := rfl
theorem trim_run {d : Nat} (hd : 4 ≤ d) (S : St) (l : List UInt8) (hl : l.length ≤ 1000000) : runF LP NN d 148 [.str (mkS l), .str ⟨#[48, 49, 50, 51, 52, 53, 54, 55, 56, 57]⟩] S = some (.str (mkS (trimD l)), S, false) := by
 refine run_pure (F := F148) rfl (by simp only [LP, fnOf, snapVs, snaps, zs, Bool.false_eq_true, if_false, Option.map_some, List.map_cons, List.map_nil] <;> exact rfl) rfl (by simp only [LP, zf, List.all_cons, List.all_nil, Bool.and_true, Bool.true_and]; try rfl) (by simp only [F148, zv] <;> exact rfl) (by omega) ?_
 rintro d rfl
 refine cw_seq (cw_region ?_)
 refine ow_mc ?_
 refine ow_nil ?_
 refine sk_n (by simp only [ze] <;> exact rfl) ?_
 refine cw_seq (cw_seq (cw_region ?_))
 refine ow_me rfl ?_
 refine ow_op (by simp only [zo, binD, zb, Int.reduceEq, Int.reduceToNat, Int.reduceLT, mkS_toList, nil_toList, plain_S] <;> exact rfl) ?_
 refine ow_ml rfl ?_
 refine ow_split 0 (by simp only [opd, zv] <;> exact rfl) (by simp only [zn] <;> exact rfl) (by simp only [zn] <;> exact rfl) (fun hg => ?_) (fun hg => ?_)
 ·
  refine ow_off (b' := true) (by simp only [opd, zv]) rfl ?_
  refine ow_off (b' := true) (by simp only [opd, zv]) rfl ?_
  refine ow_op (by simp only [zo, mkS_toList, nil_toList, plain_S] <;> exact rfl) ?_
  refine ow_nil ?_
  refine sk_n (by simp only [ze] <;> exact rfl) ?_
  refine cw_true (by simp only [opd, zv, mkS_toList, nil_toList, plain_S]) ?_
  refine cw_seq (cw_region ?_)
  refine ow_me rfl ?_
  refine ow_ml rfl ?_
  refine ow_nil ?_
  refine sk_n (by simp only [ze] <;> exact rfl) ?_
  refine cw_ret (sk_r ?_)
  refine ⟨_, by simp only [F148, resultD, resDs, resD, List.getD_cons_zero, List.getD_cons_succ, zd, rowsOf, partD, List.getElem?_cons_zero, List.getElem?_cons_succ, if_true, if_false, Bool.false_eq_true, List.take, List.drop, zm] <;> exact rfl, ?_⟩
  obtain rfl := (eqNil l).1 hg
  rfl
 ·
  refine ow_on (by simp only [opd, zv]) ?_
  refine ow_me rfl ?_
  refine ow_on (by simp only [opd, zv]) ?_
  refine ow_op (by simp only [zo, binD, zb, Int.reduceEq, Int.reduceToNat, Int.reduceLT, mkS_toList, nil_toList, plain_S] <;> exact rfl) ?_
  refine ow_op (by simp only [zo, mkS_toList, nil_toList, plain_S] <;> exact rfl) ?_
  refine ow_nil ?_
  refine sk_n (by simp only [ze] <;> exact rfl) ?_
  skip
  refine cw_false (by simp only [opd, zv, mkS_toList, nil_toList, plain_S] <;> rfl) ?_
  refine cw_skip (sk_n rfl (cw_seq (cw_seq (cw_region ?_))))
  refine ow_me rfl ?_
  refine ow_op (by simp only [zo, lenD_str, lenD_nils, lenD_sl, lenD_msl, mkS_toList, nil_toList, plain_S] <;> exact rfl) ?_
  refine ow_op (by simp only [zo, binD, zb, Int.reduceEq, Int.reduceToNat, Int.reduceLT, mkS_toList, nil_toList, plain_S] <;> exact rfl) ?_
  refine ow_ml rfl ?_
  refine ow_know 0 (b := false) (by simp only [opd, zv, mkS_toList, nil_toList, plain_S] <;> rfl) (by simp only [zn] <;> exact rfl) ?_
  refine ow_off (b' := false) (by simp only [opd, zv]) rfl ?_
  refine ow_off (b' := false) (by simp only [opd, zv]) rfl ?_
  refine ow_off (b' := false) (by simp only [opd, zv]) rfl ?_
  refine ow_op (by simp only [zo, mkS_toList, nil_toList, plain_S] <;> exact rfl) ?_
  refine ow_nil ?_
  refine sk_n (by simp only [ze] <;> exact rfl) ?_
  refine cw_false (by simp only [opd, zv, mkS_toList, nil_toList, plain_S]) ?_
  refine cw_skip (sk_n rfl (cw_seq (cw_seq (cw_region ?_))))
  refine ow_me rfl ?_
  refine ow_op (by simp only [zo, mkS_toList, nil_toList, plain_S]; exact aset_run (by omega) _) ?_
  refine ow_ml rfl ?_
  refine ow_op (by simp only [zo, List.getElem?_cons_zero, List.getElem?_cons_succ, mkS_toList, nil_toList, plain_S] <;> exact rfl) ?_
  refine ow_op (by simp only [zo, List.getElem?_cons_zero, List.getElem?_cons_succ, mkS_toList, nil_toList, plain_S] <;> exact rfl) ?_
  refine ow_op (show _ = some (D.ptr 0 0 0 0, (⟨[⟨158, 256, [List.replicate 256 (.bool false)], 0, 0, false⟩], 0⟩ : St), true) by kernel_rfl) ?_
  refine ow_op (show _ = some (D.undef, (⟨[digOb], 0⟩ : St), true) by kernel_rfl) ?_
  refine ow_ml rfl ?_
  refine ow_nil ?_
  refine sk_n (by simp only [ze] <;> exact rfl) ?_
  refine cw_seq (cw_region ?_)
  refine ow_me rfl ?_
  refine ow_nil ?_
  refine sk_n (by simp only [ze] <;> exact rfl) ?_
  skip
  refine cw_true (by simp only [opd, zv, mkS_toList, nil_toList, plain_S] <;> rfl) ?_
  refine cw_seq (cw_region ?_)
  refine ow_me rfl ?_
  refine ow_op (by simp only [zo, mkS_toList, nil_toList, plain_S]; exact trimRA_run (by omega) ⟨[digOb], 0⟩ 0 rfl l hl) ?_
  refine ow_op (by simp only [zo, mkS_toList, nil_toList, plain_S]; exact trimLA_run (by omega) ⟨[digOb], 0⟩ 0 rfl (rtrim l) (by rw [rtrim, List.length_reverse]; have := (List.dropWhile_suffix isDig (l := l.reverse)).length_le; rw [List.length_reverse] at this; omega)) ?_
  refine ow_ml rfl ?_
  refine ow_nil ?_
  refine sk_n (by simp only [ze] <;> exact rfl) ?_
  refine cw_ret (sk_r ?_)
  refine ⟨_, by simp only [F148, resultD, resDs, resD, List.getD_cons_zero, List.getD_cons_succ, zd, rowsOf, partD, List.getElem?_cons_zero, List.getElem?_cons_succ, if_true, if_false, Bool.false_eq_true, List.take, List.drop, zm] <;> exact rfl, ?_⟩
  rfl

end Go.Proofs.YtabgobmeibjeeaaGreatDoor

namespace Go.Proofs.YtabgobmeibjeeaaGreatDoor
set_option linter.unusedSimpArgs false
set_option linter.unusedVariables false
set_option maxRecDepth 10000

def isNum (l : List UInt8) : Bool := !(l == []) && l.all isDig
theorem number_run {d : Nat} (hd : 5 ≤ d) (S : St) (l : List UInt8) (hl : l.length ≤ 1000000) : runF LP NN d 121 [.str (mkS l)] S = some (.bool (isNum l), S, false) := by
 refine run_pure (F := F121) rfl (by simp only [LP, fnOf, snapVs, snaps, zs, Bool.false_eq_true, if_false, Option.map_some, List.map_cons, List.map_nil] <;> exact rfl) rfl (by simp only [LP, zf, List.all_cons, List.all_nil, Bool.and_true, Bool.true_and]; try rfl) (by simp only [F121, zv] <;> exact rfl) (by omega) ?_
 rintro d rfl
 refine cw_seq (cw_region ?_)
 refine ow_mc ?_
 refine ow_nil ?_
 refine sk_n (by simp only [ze] <;> exact rfl) ?_
 refine cw_seq (cw_region ?_)
 refine ow_me rfl ?_
 refine ow_op (by simp only [zo, binD, zb, Int.reduceEq, Int.reduceToNat, Int.reduceLT, mkS_toList, nil_toList, mkS_size] <;> exact rfl) ?_
 refine ow_ml rfl ?_
 refine ow_split 0 (by simp only [opd, zv] <;> exact rfl) (by simp only [zn] <;> exact rfl) (by simp only [zn] <;> exact rfl) (fun hg => ?_) (fun hg => ?_)
 ·
  refine ow_on (by simp only [opd, zv]) ?_
  refine ow_me rfl ?_
  refine ow_on (by simp only [opd, zv]) ?_
  refine ow_op (by simp only [zo, mkS_toList, nil_toList, mkS_size]; exact trim_run (by omega) _ l hl) ?_
  refine ow_on (by simp only [opd, zv]) ?_
  refine ow_op (by simp only [zo, binD, zb, Int.reduceEq, Int.reduceToNat, Int.reduceLT, mkS_toList, nil_toList, mkS_size] <;> exact rfl) ?_
  refine ow_op (by simp only [zo, mkS_toList, nil_toList, mkS_size] <;> exact rfl) ?_
  refine ow_ml rfl ?_
  refine ow_nil ?_
  refine sk_n (by simp only [ze] <;> exact rfl) ?_
  refine cw_ret ?_
  refine ⟨_, by simp only [F121, resultD, resDs, resD, List.getD_cons_zero, List.getD_cons_succ, zd, rowsOf, partD, List.getElem?_cons_zero, List.getElem?_cons_succ, if_true, if_false, Bool.false_eq_true, List.take, List.drop, zm] <;> exact rfl, ?_⟩
  rw [isNum, show (!(l == [])) = true from hg, Bool.true_and, trimD_nil]; rfl
 ·
  refine ow_off (b' := false) (by simp only [opd, zv]) rfl ?_
  refine ow_off (b' := false) (by simp only [opd, zv]) rfl ?_
  refine ow_off (b' := false) (by simp only [opd, zv]) rfl ?_
  refine ow_op (by simp only [zo, mkS_toList, nil_toList, mkS_size] <;> exact rfl) ?_
  refine ow_ml rfl ?_
  refine ow_nil ?_
  refine sk_n (by simp only [ze] <;> exact rfl) ?_
  refine cw_ret ?_
  refine ⟨_, by simp only [F121, resultD, resDs, resD, List.getD_cons_zero, List.getD_cons_succ, zd, rowsOf, partD, List.getElem?_cons_zero, List.getElem?_cons_succ, if_true, if_false, Bool.false_eq_true, List.take, List.drop, zm] <;> exact rfl, ?_⟩
  rw [isNum, show (!(l == [])) = false from hg]; rfl

def decD (neg : Bool) (l : List UInt8) : D := .agg [.bool neg, .str (mkS l), .int .i64 0]
theorem normal_run {d : Nat} (hd : 3 ≤ d) (S : St) (neg : Bool) (l : List UInt8) (hl : l.length ≤ 62) : runF LP NN d 122 [.bool neg, .str (mkS l), .int .i64 0] S = some (.tup [.agg [.bool (neg && nz l), .str (mkS (strip l)), .int .i64 0], .int .i64 0], S, false) := by
 refine run_pure (F := F122) rfl (by simp only [LP, fnOf, snapVs, snaps, zs, Bool.false_eq_true, if_false, Option.map_some, List.map_cons, List.map_nil] <;> exact rfl) rfl (by simp only [LP, zf, List.all_cons, List.all_nil, Bool.and_true, Bool.true_and]; try rfl) (by simp only [F122, zv] <;> exact rfl) (by omega) ?_
 rintro d rfl
 refine cw_seq (cw_region ?_)
 refine ow_op (by simp only [zl, zm, mkS_toList, nil_toList, mkS_size] <;> exact rfl) ?_
 refine ow_mc ?_
 refine ow_nil ?_
 refine sk_n (by simp only [ze] <;> exact rfl) ?_
 refine cw_seq (cw_region ?_)
 refine ow_me rfl ?_
 refine ow_op (by simp only [zo, mkS_toList, nil_toList, mkS_size]; exact trimL0_run (by omega) _ l (by omega)) ?_
 refine ow_ml rfl ?_
 refine ow_nil ?_
 refine sk_n (by simp only [ze] <;> exact rfl) ?_
 refine cw_seq (cw_seq (cw_region ?_))
 refine ow_me rfl ?_
 refine ow_op (by simp only [zo, binD, zb, Int.reduceEq, Int.reduceToNat, Int.reduceLT, mkS_toList, nil_toList, mkS_size] <;> exact rfl) ?_
 refine ow_nil ?_
 refine sk_n (by simp only [ze] <;> exact rfl) ?_
 refine cw_cond (by simp only [opd, zv, mkS_toList, nil_toList, mkS_size] <;> exact rfl) (fun hc => ?_) (fun hc => ?_)
 ·
  refine cw_seq (cw_region ?_)
  refine ow_op (by simp only [zo, fillD, overlay, zc, List.take, List.drop, Nat.reduceAdd, Nat.reduceLeDiff, Nat.reduceBEq, zm, mkS_toList, nil_toList, mkS_size] <;> exact rfl) ?_
  refine ow_op (by simp only [zl, zm, storeD, overlay, snapVs, snaps, zs, zc, zf, List.take, List.drop, mkS_toList, nil_toList, mkS_size] <;> exact rfl) ?_
  refine ow_mc ?_
  refine ow_nil ?_
  refine sk_n (by simp only [ze] <;> exact rfl) ?_
  refine cw_ret (sk_r ?_)
  refine ⟨_, by simp only [F122, resultD, resDs, resD, List.getD_cons_zero, List.getD_cons_succ, zd, rowsOf, partD, List.getElem?_cons_zero, List.getElem?_cons_succ, if_true, if_false, Bool.false_eq_true, List.take, List.drop, zm] <;> exact rfl, ?_⟩
  have h0 : strip0 l = [] := (eqNil _).1 hc
  rw [nz, strip, if_pos h0, h0, bne_self_eq_false, Bool.and_false]; rfl
 ·
  refine cw_skip (sk_n rfl (cw_seq (cw_block ?_)))
  refine cw_loop (fun n env S' => ∃ u5 u6 u7 u8 : D, S' = ⟨[⟨102, 3, [[.bool false, .str ⟨#[]⟩, .int .i64 0]], 0, 0, false⟩], 0⟩ ∧ env = [.bool neg, .str (mkS (strip0 l)), .int .i64 0, .ptr 0 0 0 0, .int .i64 0, u5, u6, u7, u8]) (1) (by omega) (⟨_, _, _, _, rfl, rfl⟩) ?_
  rintro n env S' ⟨u5, u6, u7, u8, rfl, rfl⟩
  refine cw_seq (cw_seq (cw_region ?_))
  refine ow_me rfl ?_
  refine ow_op (by simp only [zo, binD, zb, Int.reduceEq, Int.reduceToNat, Int.reduceLT, mkS_toList, nil_toList, mkS_size] <;> exact rfl) ?_
  refine ow_ml rfl ?_
  refine ow_know 0 (b := false) (by simp only [opd, zv, mkS_toList, nil_toList, mkS_size] <;> rfl) (by simp only [zn] <;> exact rfl) ?_
  refine ow_off (b' := false) (by simp only [opd, zv]) rfl ?_
  refine ow_off (b' := false) (by simp only [opd, zv]) rfl ?_
  refine ow_op (by simp only [zo, mkS_toList, nil_toList, mkS_size] <;> exact rfl) ?_
  refine ow_nil ?_
  refine sk_n (by simp only [ze] <;> exact rfl) ?_
  refine cw_false (by simp only [opd, zv, mkS_toList, nil_toList, mkS_size]) ?_
  refine cw_exit (sk_e (lk_e (bk_e (sk_n rfl (cw_seq (cw_seq (cw_region ?_)))))))
  refine ow_me rfl ?_
  refine ow_op (by simp only [zo, binD, zb, Int.reduceEq, Int.reduceToNat, Int.reduceLT, mkS_toList, nil_toList, mkS_size] <;> exact rfl) ?_
  refine ow_nil ?_
  refine sk_n (by simp only [ze] <;> exact rfl) ?_
  skip
  refine cw_false (by simp only [opd, zv, mkS_toList, nil_toList, mkS_size] <;> rfl) ?_
  refine cw_skip (sk_n rfl (cw_seq (cw_seq (cw_region ?_))))
  refine ow_me rfl ?_
  refine ow_op (by simp only [zo, lenD_str, lenD_nils, lenD_sl, lenD_msl, mkS_toList, nil_toList, mkS_size] <;> exact rfl) ?_
  refine ow_me rfl ?_
  refine ow_op (by simp only [zo, foldD, maxD, mkS_toList, nil_toList, mkS_size] <;> exact rfl) ?_
  refine ow_op (by simp only [zo, binD, zb, Int.reduceEq, Int.reduceToNat, Int.reduceLT, mkS_toList, nil_toList, mkS_size] <;> exact rfl) ?_
  refine ow_nil ?_
  refine sk_n (by simp only [ze] <;> exact rfl) ?_
  have hlen : (strip0 l).length ≤ 62 := by obtain ⟨k, hk⟩ := strip0_suffix l; have := congrArg List.length hk; simp at this; omega
  refine cw_false (by simp only [opd, zv, mkS_toList, nil_toList, mkS_size] <;> (rw [decide_eq_false_iff_not.2]; split <;> omega)) ?_
  refine cw_skip (sk_n rfl (cw_seq (cw_region ?_)))
  refine ow_me rfl ?_
  refine ow_me rfl ?_
  refine ow_me rfl ?_
  refine ow_op (by simp only [zo, fillD, overlay, zc, List.take, List.drop, Nat.reduceAdd, Nat.reduceLeDiff, Nat.reduceBEq, zm, mkS_toList, nil_toList, mkS_size] <;> exact rfl) ?_
  refine ow_op (by simp only [zl, zm, storeD, overlay, snapVs, snaps, zs, zc, zf, List.take, List.drop, mkS_toList, nil_toList, mkS_size] <;> exact rfl) ?_
  refine ow_mc ?_
  refine ow_nil ?_
  refine sk_n (by simp only [ze] <;> exact rfl) ?_
  refine cw_ret ?_
  refine ⟨_, by simp only [F122, resultD, resDs, resD, List.getD_cons_zero, List.getD_cons_succ, zd, rowsOf, partD, List.getElem?_cons_zero, List.getElem?_cons_succ, if_true, if_false, Bool.false_eq_true, List.take, List.drop, zm] <;> exact rfl, ?_⟩
  have h0 : ¬ strip0 l = [] := fun h => by rw [h] at hc; simp at hc
  rw [nz, strip, if_neg h0, show (strip0 l != []) = true by simpa using h0, Bool.and_true]; rfl

theorem big_len {l : List UInt8} (h : l.length ≤ 62) : decide ((l.length : Int) > 1000) = false := decide_eq_false (by omega)
theorem decNew_run {d : Nat} (hd : 6 ≤ d) (S : St) (neg : Bool) (l : List UInt8) (hl : l.length ≤ 62) (hnum : isNum l = true) : runF LP NN d 82 [.bool neg, .str (mkS l), .int .i64 0] S = some (.tup [.agg [.bool (neg && nz l), .str (mkS (strip l)), .int .i64 0], .int .i64 0], S, false) := by
 refine run_pure (F := F82) rfl (by simp only [LP, fnOf, snapVs, snaps, zs, Bool.false_eq_true, if_false, Option.map_some, List.map_cons, List.map_nil] <;> exact rfl) rfl (by simp only [LP, zf, List.all_cons, List.all_nil, Bool.and_true, Bool.true_and]; try rfl) (by simp only [F82, zv] <;> exact rfl) (by omega) ?_
 rintro d rfl
 refine cw_seq (cw_region ?_)
 refine ow_op (by simp only [zl, zm, mkS_toList, nil_toList, mkS_size, hnum, Bool.not_true, big_len hl] <;> exact rfl) ?_
 refine ow_mc ?_
 refine ow_nil ?_
 refine sk_n (by simp only [ze] <;> exact rfl) ?_
 refine cw_seq (cw_seq (cw_region ?_))
 refine ow_me rfl ?_
 refine ow_op (by simp only [zo, mkS_toList, nil_toList, mkS_size, hnum, Bool.not_true, big_len hl]; exact number_run (by omega) _ l (by omega)) ?_
 refine ow_op (by simp only [zo, unD, mkS_toList, nil_toList, mkS_size, hnum, Bool.not_true, big_len hl] <;> exact rfl) ?_
 refine ow_ml rfl ?_
 refine ow_know 0 (b := false) (by simp only [opd, zv, mkS_toList, nil_toList, mkS_size, hnum, Bool.not_true, big_len hl] <;> rfl) (by simp only [zn] <;> exact rfl) ?_
 refine ow_on (by simp only [opd, zv]) ?_
 refine ow_me rfl ?_
 refine ow_on (by simp only [opd, zv]) ?_
 refine ow_op (by simp only [zo, lenD_str, lenD_nils, lenD_sl, lenD_msl, mkS_toList, nil_toList, mkS_size, hnum, Bool.not_true, big_len hl] <;> exact rfl) ?_
 refine ow_on (by simp only [opd, zv]) ?_
 refine ow_op (by simp only [zo, binD, zb, Int.reduceEq, Int.reduceToNat, Int.reduceLT, mkS_toList, nil_toList, mkS_size, hnum, Bool.not_true, big_len hl] <;> exact rfl) ?_
 refine ow_op (by simp only [zo, mkS_toList, nil_toList, mkS_size, hnum, Bool.not_true, big_len hl] <;> exact rfl) ?_
 refine ow_ml rfl ?_
 refine ow_know 0 (b := false) (by simp only [opd, zv, mkS_toList, nil_toList, mkS_size, hnum, Bool.not_true, big_len hl] <;> rfl) (by simp only [zn] <;> exact rfl) ?_
 refine ow_on (by simp only [opd, zv]) ?_
 refine ow_me rfl ?_
 refine ow_on (by simp only [opd, zv]) ?_
 refine ow_op (by simp only [zo, binD, zb, Int.reduceEq, Int.reduceToNat, Int.reduceLT, mkS_toList, nil_toList, mkS_size, hnum, Bool.not_true, big_len hl] <;> exact rfl) ?_
 refine ow_op (by simp only [zo, mkS_toList, nil_toList, mkS_size, hnum, Bool.not_true, big_len hl] <;> exact rfl) ?_
 refine ow_ml rfl ?_
 refine ow_know 0 (b := false) (by simp only [opd, zv, mkS_toList, nil_toList, mkS_size, hnum, Bool.not_true, big_len hl] <;> rfl) (by simp only [zn] <;> exact rfl) ?_
 refine ow_on (by simp only [opd, zv]) ?_
 refine ow_me rfl ?_
 refine ow_on (by simp only [opd, zv]) ?_
 refine ow_op (by simp only [zo, binD, zb, Int.reduceEq, Int.reduceToNat, Int.reduceLT, mkS_toList, nil_toList, mkS_size, hnum, Bool.not_true, big_len hl] <;> exact rfl) ?_
 refine ow_op (by simp only [zo, mkS_toList, nil_toList, mkS_size, hnum, Bool.not_true, big_len hl] <;> exact rfl) ?_
 refine ow_nil ?_
 refine sk_n (by simp only [ze] <;> exact rfl) ?_
 skip
 refine cw_false (by simp only [opd, zv, mkS_toList, nil_toList, mkS_size, hnum, Bool.not_true, big_len hl] <;> rfl) ?_
 refine cw_skip (sk_n rfl (cw_seq (cw_region ?_)))
 refine ow_me rfl ?_
 refine ow_me rfl ?_
 refine ow_me rfl ?_
 refine ow_op (by simp only [zo, mkS_toList, nil_toList, mkS_size, hnum, Bool.not_true, big_len hl]; exact normal_run (by omega) _ neg l hl) ?_
 refine ow_op (by simp only [zo, List.getElem?_cons_zero, List.getElem?_cons_succ, mkS_toList, nil_toList, mkS_size, hnum, Bool.not_true, big_len hl] <;> exact rfl) ?_
 refine ow_op (by simp only [zo, List.getElem?_cons_zero, List.getElem?_cons_succ, mkS_toList, nil_toList, mkS_size, hnum, Bool.not_true, big_len hl] <;> exact rfl) ?_
 refine ow_op (by simp only [zl, zm, storeD, overlay, snapVs, snaps, zs, zc, zf, List.take, List.drop, mkS_toList, nil_toList, mkS_size, hnum, Bool.not_true, big_len hl] <;> exact rfl) ?_
 refine ow_ml rfl ?_
 refine ow_nil ?_
 refine sk_n (by simp only [ze] <;> exact rfl) ?_
 refine cw_ret ?_
 refine ⟨_, by simp only [F82, resultD, resDs, resD, List.getD_cons_zero, List.getD_cons_succ, zd, rowsOf, partD, List.getElem?_cons_zero, List.getElem?_cons_succ, if_true, if_false, Bool.false_eq_true, List.take, List.drop, zm] <;> exact rfl, ?_⟩
 simp only [leaveP, leave, snapVs, snaps, zs, zf, zk]

end Go.Proofs.YtabgobmeibjeeaaGreatDoor

namespace Go.Proofs.YtabgobmeibjeeaaGreatDoor
set_option linter.unusedSimpArgs false
set_option linter.unusedVariables false
set_option maxRecDepth 10000

/-- a number without needless zeros -/
structure Nrm (neg : Bool) (l : List UInt8) : Prop where
 num : isNum l = true
 len : l.length ≤ 62
 st : strip l = l
 sg : (neg && nz l) = neg
theorem strip0_strip (l : List UInt8) : strip0 (strip l) = strip0 l := by
 unfold strip
 split
 ·
  rename_i h; rw [h]; rfl
 ·
  exact strip0_strip0 l
theorem Nrm.of (neg : Bool) (l : List UInt8) (h1 : isNum l = true) (h2 : l.length ≤ 62) : Nrm (neg && nz l) (strip l) := by
 simp only [isNum, Bool.and_eq_true, Bool.not_eq_true', beq_eq_false_iff_ne, ne_eq] at h1
 obtain ⟨a, b⟩ := strip_len l h1.1
 refine ⟨?_, by omega, strip_idem l, ?_⟩
 ·
  simp only [isNum, Bool.and_eq_true, Bool.not_eq_true', beq_eq_false_iff_ne, ne_eq]
  exact ⟨fun e => by rw [e] at b; simp at b, strip_dig l h1.2⟩
 ·
  unfold nz
  rw [strip0_strip]
  cases neg <;> simp
theorem ba_self (s : ByteArray) : (s == s) = true := by
 first
  | exact beq_self_eq_true s
  | (cases s with | mk a => show (a == a) = true; simp)
  | (cases s with | mk a => show decide _ = true; simp)
theorem big62 {l : List UInt8} (h : l.length ≤ 62) : decide ((l.length : Int) > 62) = false := decide_eq_false (by omega)
theorem rep_tab (d : Nat) (S : St) : (List.range 7).map (fun k => runF LP NN (d + 4) 57 [.str ⟨#[48]⟩, .int .i64 ((k : Nat) : Int)] S) = (List.range 7).map (fun k => some (.str (mkS (List.replicate k 48)), S, false)) := by kernel_rfl
theorem rep_run {d : Nat} (hd : 4 ≤ d) (S : St) (k : Nat) (hk : k < 7) : runF LP NN d 57 [.str ⟨#[48]⟩, .int .i64 (k : Int)] S = some (.str (mkS (List.replicate k 48)), S, false) := by
 obtain ⟨d, rfl⟩ : ∃ d', d = d' + 4 := ⟨d - 4, by omega⟩
 exact tab_at (rep_tab d S) k hk

theorem decCheck_run {d : Nat} (hd : 6 ≤ d) (S : St) (neg : Bool) (l : List UInt8) (h : Nrm neg l) : runF LP NN d 123 [.agg [.bool neg, .str (mkS l), .int .i64 0]] S = some (.int .i64 0, S, false) := by
 refine run_pure (F := F123) rfl (by simp only [LP, fnOf, snapVs, snaps, zs, Bool.false_eq_true, if_false, Option.map_some, List.map_cons, List.map_nil] <;> exact rfl) rfl (by simp only [LP, zf, List.all_cons, List.all_nil, Bool.and_true, Bool.true_and]; try rfl) (by simp only [F123, zv] <;> exact rfl) (by omega) ?_
 rintro d rfl
 refine cw_seq (cw_region ?_)
 refine ow_op (by simp only [zl, zm, zc, mkS_toList, nil_toList, mkS_size, h.num, Bool.not_true, big62 h.len] <;> exact rfl) ?_
 refine ow_mc ?_
 refine ow_nil ?_
 refine sk_n (by simp only [ze] <;> exact rfl) ?_
 refine cw_seq (cw_seq (cw_region ?_))
 refine ow_op (by simp only [zo, faddrD_ptr, faddrD_cptr, zm, mkS_toList, nil_toList, mkS_size, h.num, Bool.not_true, big62 h.len] <;> exact rfl) ?_
 refine ow_op (by simp only [zl, zm, zd, partD, List.take, List.drop, mkS_toList, nil_toList, mkS_size, h.num, Bool.not_true, big62 h.len] <;> exact rfl) ?_
 refine ow_op (by simp only [zo, mkS_toList, nil_toList, mkS_size, h.num, Bool.not_true, big62 h.len]; exact number_run (by omega) _ l (by have := h.len; omega)) ?_
 refine ow_op (by simp only [zo, unD, mkS_toList, nil_toList, mkS_size, h.num, Bool.not_true, big62 h.len] <;> exact rfl) ?_
 refine ow_ml rfl ?_
 refine ow_know 0 (b := false) (by simp only [opd, zv, mkS_toList, nil_toList, mkS_size, h.num, Bool.not_true, big62 h.len] <;> rfl) (by simp only [zn] <;> exact rfl) ?_
 refine ow_on (by simp only [opd, zv]) ?_
 refine ow_op (by simp only [zo, faddrD_ptr, faddrD_cptr, zm, mkS_toList, nil_toList, mkS_size, h.num, Bool.not_true, big62 h.len] <;> exact rfl) ?_
 refine ow_on (by simp only [opd, zv]) ?_
 refine ow_op (by simp only [zl, zm, zd, partD, List.take, List.drop, mkS_toList, nil_toList, mkS_size, h.num, Bool.not_true, big62 h.len] <;> exact rfl) ?_
 refine ow_on (by simp only [opd, zv]) ?_
 refine ow_op (by simp only [zo, lenD_str, lenD_nils, lenD_sl, lenD_msl, mkS_toList, nil_toList, mkS_size, h.num, Bool.not_true, big62 h.len] <;> exact rfl) ?_
 refine ow_on (by simp only [opd, zv]) ?_
 refine ow_op (by simp only [zo, binD, zb, Int.reduceEq, Int.reduceToNat, Int.reduceLT, mkS_toList, nil_toList, mkS_size, h.num, Bool.not_true, big62 h.len] <;> exact rfl) ?_
 refine ow_op (by simp only [zo, mkS_toList, nil_toList, mkS_size, h.num, Bool.not_true, big62 h.len] <;> exact rfl) ?_
 refine ow_ml rfl ?_
 refine ow_know 0 (b := false) (by simp only [opd, zv, mkS_toList, nil_toList, mkS_size, h.num, Bool.not_true, big62 h.len] <;> rfl) (by simp only [zn] <;> exact rfl) ?_
 refine ow_on (by simp only [opd, zv]) ?_
 refine ow_op (by simp only [zo, faddrD_ptr, faddrD_cptr, zm, mkS_toList, nil_toList, mkS_size, h.num, Bool.not_true, big62 h.len] <;> exact rfl) ?_
 refine ow_on (by simp only [opd, zv]) ?_
 refine ow_op (by simp only [zl, zm, zd, partD, List.take, List.drop, mkS_toList, nil_toList, mkS_size, h.num, Bool.not_true, big62 h.len] <;> exact rfl) ?_
 refine ow_on (by simp only [opd, zv]) ?_
 refine ow_op (by simp only [zo, binD, zb, Int.reduceEq, Int.reduceToNat, Int.reduceLT, mkS_toList, nil_toList, mkS_size, h.num, Bool.not_true, big62 h.len] <;> exact rfl) ?_
 refine ow_op (by simp only [zo, mkS_toList, nil_toList, mkS_size, h.num, Bool.not_true, big62 h.len] <;> exact rfl) ?_
 refine ow_ml rfl ?_
 refine ow_know 0 (b := false) (by simp only [opd, zv, mkS_toList, nil_toList, mkS_size, h.num, Bool.not_true, big62 h.len] <;> rfl) (by simp only [zn] <;> exact rfl) ?_
 refine ow_on (by simp only [opd, zv]) ?_
 refine ow_op (by simp only [zo, faddrD_ptr, faddrD_cptr, zm, mkS_toList, nil_toList, mkS_size, h.num, Bool.not_true, big62 h.len] <;> exact rfl) ?_
 refine ow_on (by simp only [opd, zv]) ?_
 refine ow_op (by simp only [zl, zm, zd, partD, List.take, List.drop, mkS_toList, nil_toList, mkS_size, h.num, Bool.not_true, big62 h.len] <;> exact rfl) ?_
 refine ow_on (by simp only [opd, zv]) ?_
 refine ow_op (by simp only [zo, binD, zb, Int.reduceEq, Int.reduceToNat, Int.reduceLT, mkS_toList, nil_toList, mkS_size, h.num, Bool.not_true, big62 h.len] <;> exact rfl) ?_
 refine ow_op (by simp only [zo, mkS_toList, nil_toList, mkS_size, h.num, Bool.not_true, big62 h.len] <;> exact rfl) ?_
 refine ow_nil ?_
 refine sk_n (by simp only [ze] <;> exact rfl) ?_
 skip
 refine cw_false (by simp only [opd, zv, mkS_toList, nil_toList, mkS_size, h.num, Bool.not_true, big62 h.len] <;> rfl) ?_
 refine cw_skip (sk_n rfl (cw_seq (cw_seq (cw_region ?_))))
 refine ow_op (by simp only [zo, faddrD_ptr, faddrD_cptr, zm, mkS_toList, nil_toList, mkS_size, h.num, Bool.not_true, big62 h.len] <;> exact rfl) ?_
 refine ow_op (by simp only [zl, zm, zd, partD, List.take, List.drop, mkS_toList, nil_toList, mkS_size, h.num, Bool.not_true, big62 h.len] <;> exact rfl) ?_
 refine ow_op (by simp only [zo, faddrD_ptr, faddrD_cptr, zm, mkS_toList, nil_toList, mkS_size, h.num, Bool.not_true, big62 h.len] <;> exact rfl) ?_
 refine ow_op (by simp only [zl, zm, zd, partD, List.take, List.drop, mkS_toList, nil_toList, mkS_size, h.num, Bool.not_true, big62 h.len] <;> exact rfl) ?_
 refine ow_op (by simp only [zo, faddrD_ptr, faddrD_cptr, zm, mkS_toList, nil_toList, mkS_size, h.num, Bool.not_true, big62 h.len] <;> exact rfl) ?_
 refine ow_op (by simp only [zl, zm, zd, partD, List.take, List.drop, mkS_toList, nil_toList, mkS_size, h.num, Bool.not_true, big62 h.len] <;> exact rfl) ?_
 refine ow_op (by simp only [zo, mkS_toList, nil_toList, mkS_size, h.num, Bool.not_true, big62 h.len]; exact normal_run (by omega) _ neg l h.len) ?_
 refine ow_ml rfl ?_
 refine ow_op (by simp only [zo, List.getElem?_cons_zero, List.getElem?_cons_succ, mkS_toList, nil_toList, mkS_size, h.num, Bool.not_true, big62 h.len] <;> exact rfl) ?_
 refine ow_op (by simp only [zo, List.getElem?_cons_zero, List.getElem?_cons_succ, mkS_toList, nil_toList, mkS_size, h.num, Bool.not_true, big62 h.len] <;> exact rfl) ?_
 refine ow_op (by simp only [zl, zm, mkS_toList, nil_toList, mkS_size, h.num, Bool.not_true, big62 h.len] <;> exact rfl) ?_
 refine ow_op (by simp only [zl, zm, storeD, overlay, snapVs, snaps, zs, zc, zf, List.take, List.drop, mkS_toList, nil_toList, mkS_size, h.num, Bool.not_true, big62 h.len] <;> exact rfl) ?_
 refine ow_ml rfl ?_
 refine ow_nil ?_
 refine sk_n (by simp only [ze] <;> exact rfl) ?_
 refine cw_seq (cw_region ?_)
 refine ow_me rfl ?_
 refine ow_op (by simp only [zo, binD, zb, Int.reduceEq, Int.reduceToNat, Int.reduceLT, mkS_toList, nil_toList, mkS_size, h.num, Bool.not_true, big62 h.len] <;> exact rfl) ?_
 refine ow_ml rfl ?_
 refine ow_know 0 (b := false) (by simp only [opd, zv, mkS_toList, nil_toList, mkS_size, h.num, Bool.not_true, big62 h.len] <;> rfl) (by simp only [zn] <;> exact rfl) ?_
 refine ow_on (by simp only [opd, zv]) ?_
 refine ow_op (by simp only [zl, zm, zd, partD, List.take, List.drop, mkS_toList, nil_toList, mkS_size, h.num, Bool.not_true, big62 h.len] <;> exact rfl) ?_
 refine ow_on (by simp only [opd, zv]) ?_
 refine ow_op (by simp only [zl, zm, zd, partD, List.take, List.drop, mkS_toList, nil_toList, mkS_size, h.num, Bool.not_true, big62 h.len] <;> exact rfl) ?_
 refine ow_on (by simp only [opd, zv]) ?_
 refine ow_op (by simp only [zo, eqCells, eqCell, isKey, h.sg, h.st, beq_self_eq_true, Bool.and_self, if_true, Option.map_some, bne_self_eq_false, ba_self, mkS_toList, nil_toList, mkS_size, h.num, Bool.not_true, big62 h.len] <;> exact rfl) ?_
 refine ow_op (by simp only [zo, mkS_toList, nil_toList, mkS_size, h.num, Bool.not_true, big62 h.len] <;> exact rfl) ?_
 refine ow_nil ?_
 refine sk_n (by simp only [ze] <;> exact rfl) ?_
 skip
 refine cw_false (by simp only [opd, zv, mkS_toList, nil_toList, mkS_size, h.num, Bool.not_true, big62 h.len] <;> rfl) ?_
 refine cw_skip (sk_n rfl (cw_seq (cw_region ?_)))
 refine ow_mc ?_
 refine ow_nil ?_
 refine sk_n (by simp only [ze] <;> exact rfl) ?_
 refine cw_ret ?_
 refine ⟨_, by simp only [F123, resultD, resDs, resD, List.getD_cons_zero, List.getD_cons_succ, zd, rowsOf, partD, List.getElem?_cons_zero, List.getElem?_cons_succ, if_true, if_false, Bool.false_eq_true, List.take, List.drop, zm] <;> exact rfl, ?_⟩
 rfl

theorem both_run {d : Nat} (hd : 7 ≤ d) (S : St) (na nb : Bool) (a b : List UInt8) (ha : Nrm na a) (hb : Nrm nb b) : runF LP NN d 83 [.agg [.bool na, .str (mkS a), .int .i64 0], .agg [.bool nb, .str (mkS b), .int .i64 0]] S = some (.int .i64 0, S, false) := by
 refine run_pure (F := F83) rfl (by simp only [LP, fnOf, snapVs, snaps, zs, Bool.false_eq_true, if_false, Option.map_some, List.map_cons, List.map_nil] <;> exact rfl) rfl (by simp only [LP, zf, List.all_cons, List.all_nil, Bool.and_true, Bool.true_and]; try rfl) (by simp only [F83, zv] <;> exact rfl) (by omega) ?_
 rintro d rfl
 refine cw_seq (cw_region ?_)
 refine ow_op (by simp only [zl, zm, zc] <;> exact rfl) ?_
 refine ow_op (by simp only [zl, zm, zc] <;> exact rfl) ?_
 refine ow_mc ?_
 refine ow_nil ?_
 refine sk_n (by simp only [ze] <;> exact rfl) ?_
 refine cw_seq ?_
 refine cw_drawn (by simp only [newsVals, zw, Nat.reduceAdd] <;> exact rfl) (by simp only [zw, newsObj, St.eta] <;> exact rfl) ?_
 refine dw_op (by simp only [zl, zm, zd, partD, List.take, List.drop] <;> exact rfl) (by simp only [fpHere, zo, zq] <;> exact rfl) rfl ?_
 first
  | refine dw_op (by simp only [zo]; exact decCheck_run (by omega) _ na a ha) (by simp only [fpHere, zo, zq] <;> exact rfl) rfl ?_
  | refine dw_op (by simp only [zo]; exact decCheck_run (by omega) _ nb b hb) (by simp only [fpHere, zo, zq] <;> exact rfl) rfl ?_
 refine dw_op (by simp only [zl, zm, zd, partD, List.take, List.drop] <;> exact rfl) (by simp only [fpHere, zo, zq] <;> exact rfl) rfl ?_
 first
  | refine dw_op (by simp only [zo]; exact decCheck_run (by omega) _ na a ha) (by simp only [fpHere, zo, zq] <;> exact rfl) rfl ?_
  | refine dw_op (by simp only [zo]; exact decCheck_run (by omega) _ nb b hb) (by simp only [fpHere, zo, zq] <;> exact rfl) rfl ?_
 refine dw_quiet (by simp only [zo, foldD, maxD] <;> exact rfl) rfl rfl ?_
 refine dw_ml rfl rfl ?_
 refine dw_nil ?_
 refine sk_n (by simp only [ze] <;> exact rfl) ?_
 refine cw_ret ?_
 refine ⟨_, by simp only [F83, resultD, resDs, resD, List.getD_cons_zero, List.getD_cons_succ, zd, rowsOf, partD, List.getElem?_cons_zero, List.getElem?_cons_succ, if_true, if_false, Bool.false_eq_true, List.take, List.drop, zm] <;> exact rfl, ?_⟩
 rfl

theorem padded_run {d : Nat} (hd : 5 ≤ d) (S : St) (l : List UInt8) (n : Nat) (hn : n - l.length < 7) (h62 : l.length ≤ 62) : runF LP NN d 124 [.str (mkS l), .int .i64 n] S = some (.str (mkS (pad n l)), S, false) := by
 have hk : IntKind.i64.wrap ((n : Int) - (l.length : Int)) = (n : Int) - (l.length : Int) := by rw [IntKind.wrap_i64]; omega
 have hmx : (if (0 : Int) > (n : Int) - (l.length : Int) then (0 : Int) else (n : Int) - (l.length : Int)) = ((n - l.length : Nat) : Int) := by split <;> omega
 refine run_pure (F := F124) rfl (by simp only [LP, fnOf, snapVs, snaps, zs, Bool.false_eq_true, if_false, Option.map_some, List.map_cons, List.map_nil] <;> exact rfl) rfl (by simp only [LP, zf, List.all_cons, List.all_nil, Bool.and_true, Bool.true_and]; try rfl) (by simp only [F124, zv] <;> exact rfl) (by omega) ?_
 rintro d rfl
 refine cw_seq (cw_region ?_)
 refine ow_mc ?_
 refine ow_nil ?_
 refine sk_n (by simp only [ze] <;> exact rfl) ?_
 refine cw_seq (cw_region ?_)
 refine ow_me rfl ?_
 refine ow_me rfl ?_
 refine ow_op (by simp only [zo, lenD_str, lenD_nils, lenD_sl, lenD_msl, mkS_toList, nil_toList, mkS_size, hk, hmx] <;> exact rfl) ?_
 refine ow_op (by simp only [zo, binD, zb, Int.reduceEq, Int.reduceToNat, Int.reduceLT, mkS_toList, nil_toList, mkS_size, hk, hmx] <;> exact rfl) ?_
 refine ow_op (by simp only [zo, foldD, maxD, mkS_toList, nil_toList, mkS_size, hk, hmx] <;> exact rfl) ?_
 refine ow_op (by simp only [zo, mkS_toList, nil_toList, mkS_size, hk, hmx]; exact rep_run (by omega) _ (n - l.length) hn) ?_
 refine ow_me rfl ?_
 refine ow_op (by simp only [zo, binD, zb, Int.reduceEq, Int.reduceToNat, Int.reduceLT, mkS_app, mkS_size]; rw [if_neg (by rw [show IntKind.i64.max = 9223372036854775807 from rfl]; simp; omega)]; exact rfl) ?_
 refine ow_ml rfl ?_
 refine ow_nil ?_
 refine sk_n (by simp only [ze] <;> exact rfl) ?_
 refine cw_ret ?_
 refine ⟨_, by simp only [F124, resultD, resDs, resD, List.getD_cons_zero, List.getD_cons_succ, zd, rowsOf, partD, List.getElem?_cons_zero, List.getElem?_cons_succ, if_true, if_false, Bool.false_eq_true, List.take, List.drop, zm] <;> exact rfl, ?_⟩
 rfl

end Go.Proofs.YtabgobmeibjeeaaGreatDoor

namespace Go.Proofs.YtabgobmeibjeeaaGreatDoor
set_option linter.unusedSimpArgs false
set_option linter.unusedVariables false
set_option maxRecDepth 10000

theorem aligned_run {d : Nat} (hd : 6 ≤ d) (S : St) (na nb : Bool) (a b : List UInt8) (ha : Nrm na a) (hb : Nrm nb b) (h1 : a.length < b.length + 7) (h2 : b.length < a.length + 7) : runF LP NN d 84 [.agg [.bool na, .str (mkS a), .int .i64 0], .agg [.bool nb, .str (mkS b), .int .i64 0]] S = some (.tup [.str (mkS (pad (max a.length b.length) a)), .str (mkS (pad (max a.length b.length) b)), .int .i64 0], S, false) := by
 have hm : (if (b.length : Int) > (a.length : Int) then (b.length : Int) else (a.length : Int)) = ((max a.length b.length : Nat) : Int) := by split <;> omega
 refine run_pure (F := F84) rfl (by simp only [LP, fnOf, snapVs, snaps, zs, Bool.false_eq_true, if_false, Option.map_some, List.map_cons, List.map_nil] <;> exact rfl) rfl (by simp only [LP, zf, List.all_cons, List.all_nil, Bool.and_true, Bool.true_and]; try rfl) (by simp only [F84, zv] <;> exact rfl) (by omega) ?_
 rintro d rfl
 refine cw_seq (cw_region ?_)
 refine ow_op (by simp only [zl, zm, zc, mkS_toList, nil_toList, mkS_size, hm] <;> exact rfl) ?_
 refine ow_op (by simp only [zl, zm, zc, mkS_toList, nil_toList, mkS_size, hm] <;> exact rfl) ?_
 refine ow_mc ?_
 refine ow_mc ?_
 refine ow_mc ?_
 refine ow_nil ?_
 refine sk_n (by simp only [ze] <;> exact rfl) ?_
 refine cw_seq (cw_region ?_)
 refine ow_op (by simp only [zo, faddrD_ptr, faddrD_cptr, zm, mkS_toList, nil_toList, mkS_size, hm] <;> exact rfl) ?_
 refine ow_op (by simp only [zl, zm, zd, partD, List.take, List.drop, mkS_toList, nil_toList, mkS_size, hm] <;> exact rfl) ?_
 refine ow_op (by simp only [zo, faddrD_ptr, faddrD_cptr, zm, mkS_toList, nil_toList, mkS_size, hm] <;> exact rfl) ?_
 refine ow_op (by simp only [zl, zm, zd, partD, List.take, List.drop, mkS_toList, nil_toList, mkS_size, hm] <;> exact rfl) ?_
 refine ow_op (by simp only [zo, foldD, maxD, mkS_toList, nil_toList, mkS_size, hm] <;> exact rfl) ?_
 refine ow_ml rfl ?_
 refine ow_nil ?_
 refine sk_n (by simp only [ze] <;> exact rfl) ?_
 refine cw_seq ?_
 refine cw_drawn (by simp only [newsVals, zw, Nat.reduceAdd] <;> exact rfl) (by simp only [zw, newsObj, St.eta] <;> exact rfl) ?_
 refine dw_quiet (by simp only [zo, faddrD_ptr, faddrD_cptr, zm, mkS_toList, nil_toList, mkS_size, hm] <;> exact rfl) rfl rfl ?_
 refine dw_op (by simp only [zl, zm, zd, partD, List.take, List.drop, mkS_toList, nil_toList, mkS_size, hm] <;> exact rfl) (by simp only [fpHere, zo, zq] <;> exact rfl) rfl ?_
 refine dw_me rfl rfl ?_
 refine dw_quiet (by simp only [zo, faddrD_ptr, faddrD_cptr, zm, mkS_toList, nil_toList, mkS_size, hm] <;> exact rfl) rfl rfl ?_
 refine dw_op (by simp only [zl, zm, zd, partD, List.take, List.drop, mkS_toList, nil_toList, mkS_size, hm] <;> exact rfl) (by simp only [fpHere, zo, zq] <;> exact rfl) rfl ?_
 refine dw_quiet (show _ = some (D.int .i64 ((0 : Nat) : Int), _, false) from rfl) rfl rfl ?_
 refine dw_op (by simp only [zo, mkS_toList, nil_toList, mkS_size, hm]; exact rep_run (by omega) _ 0 (by omega)) (by simp only [fpHere, zo, zq] <;> exact rfl) rfl ?_
 refine dw_quiet (by simp only [zo, binD, zb, Int.reduceEq, Int.reduceToNat, Int.reduceLT, mkS_app, mkS_size, List.replicate_zero, List.append_nil]; rw [if_neg (by have := ha.len; have := hb.len; rw [show IntKind.i64.max = 9223372036854775807 from rfl]; simp; omega)]; exact rfl) rfl rfl ?_
 refine dw_ml rfl rfl ?_
 refine dw_nil ?_
 refine sk_n (by simp only [ze] <;> exact rfl) ?_
 refine cw_seq ?_
 refine cw_drawn (by simp only [newsVals, zw, Nat.reduceAdd] <;> exact rfl) (by simp only [zw, newsObj, St.eta] <;> exact rfl) ?_
 refine dw_quiet (by simp only [zo, faddrD_ptr, faddrD_cptr, zm, mkS_toList, nil_toList, mkS_size, hm] <;> exact rfl) rfl rfl ?_
 refine dw_op (by simp only [zl, zm, zd, partD, List.take, List.drop, mkS_toList, nil_toList, mkS_size, hm] <;> exact rfl) (by simp only [fpHere, zo, zq] <;> exact rfl) rfl ?_
 refine dw_me rfl rfl ?_
 refine dw_quiet (by simp only [zo, faddrD_ptr, faddrD_cptr, zm, mkS_toList, nil_toList, mkS_size, hm] <;> exact rfl) rfl rfl ?_
 refine dw_op (by simp only [zl, zm, zd, partD, List.take, List.drop, mkS_toList, nil_toList, mkS_size, hm] <;> exact rfl) (by simp only [fpHere, zo, zq] <;> exact rfl) rfl ?_
 refine dw_quiet (show _ = some (D.int .i64 ((0 : Nat) : Int), _, false) from rfl) rfl rfl ?_
 refine dw_op (by simp only [zo, mkS_toList, nil_toList, mkS_size, hm]; exact rep_run (by omega) _ 0 (by omega)) (by simp only [fpHere, zo, zq] <;> exact rfl) rfl ?_
 refine dw_quiet (by simp only [zo, binD, zb, Int.reduceEq, Int.reduceToNat, Int.reduceLT, mkS_app, mkS_size, List.replicate_zero, List.append_nil]; rw [if_neg (by have := ha.len; have := hb.len; rw [show IntKind.i64.max = 9223372036854775807 from rfl]; simp; omega)]; exact rfl) rfl rfl ?_
 refine dw_ml rfl rfl ?_
 refine dw_nil ?_
 refine sk_n (by simp only [ze] <;> exact rfl) ?_
 refine cw_seq (cw_region ?_)
 refine ow_me rfl ?_
 refine ow_op (by simp only [zo, lenD_str, lenD_nils, lenD_sl, lenD_msl, mkS_toList, nil_toList, mkS_size, hm] <;> exact rfl) ?_
 refine ow_me rfl ?_
 refine ow_op (by simp only [zo, lenD_str, lenD_nils, lenD_sl, lenD_msl, mkS_toList, nil_toList, mkS_size, hm] <;> exact rfl) ?_
 refine ow_op (by simp only [zo, foldD, maxD, mkS_toList, nil_toList, mkS_size, hm] <;> exact rfl) ?_
 refine ow_ml rfl ?_
 refine ow_nil ?_
 refine sk_n (by simp only [ze] <;> exact rfl) ?_
 refine cw_seq (cw_region ?_)
 refine ow_me rfl ?_
 refine ow_me rfl ?_
 first
  | refine ow_op (by simp only [zo, mkS_toList, nil_toList, mkS_size, hm]; exact padded_run (by omega) _ a _ (by omega) ha.len) ?_
  | refine ow_op (by simp only [zo, mkS_toList, nil_toList, mkS_size, hm]; exact padded_run (by omega) _ b _ (by omega) hb.len) ?_
 refine ow_me rfl ?_
 refine ow_me rfl ?_
 first
  | refine ow_op (by simp only [zo, mkS_toList, nil_toList, mkS_size, hm]; exact padded_run (by omega) _ a _ (by omega) ha.len) ?_
  | refine ow_op (by simp only [zo, mkS_toList, nil_toList, mkS_size, hm]; exact padded_run (by omega) _ b _ (by omega) hb.len) ?_
 refine ow_me rfl ?_
 refine ow_ml rfl ?_
 refine ow_ml rfl ?_
 refine ow_ml rfl ?_
 refine ow_nil ?_
 refine sk_n (by simp only [ze] <;> exact rfl) ?_
 refine cw_ret ?_
 refine ⟨_, by simp only [F84, resultD, resDs, resD, List.getD_cons_zero, List.getD_cons_succ, zd, rowsOf, partD, List.getElem?_cons_zero, List.getElem?_cons_succ, if_true, if_false, Bool.false_eq_true, List.take, List.drop, zm] <;> exact rfl, ?_⟩
 rfl

/-- the order of two numbers -/
def cmpN (na nb : Bool) (a b : List UInt8) : Int :=
 if na = nb then (if na then cmpL (pad (max a.length b.length) b) (pad (max a.length b.length) a) else cmpL (pad (max a.length b.length) a) (pad (max a.length b.length) b))
 else if na then -1 else 1

theorem decCmp_tt {d : Nat} (hd : 8 ≤ d) (S : St) (a b : List UInt8) (ha : Nrm true a) (hb : Nrm true b) (h1 : a.length < b.length + 7) (h2 : b.length < a.length + 7) : runF LP NN d 52 [.agg [.bool true, .str (mkS a), .int .i64 0], .agg [.bool true, .str (mkS b), .int .i64 0]] S = some (.tup [.int .i64 (cmpN true true a b), .int .i64 0], S, false) := by
 refine run_pure (F := F52) rfl (by simp only [LP, fnOf, snapVs, snaps, zs, Bool.false_eq_true, if_false, Option.map_some, List.map_cons, List.map_nil] <;> exact rfl) rfl (by simp only [LP, zf, List.all_cons, List.all_nil, Bool.and_true, Bool.true_and]; try rfl) (by simp only [F52, zv] <;> exact rfl) (by omega) ?_
 rintro d rfl
 refine cw_seq (cw_region ?_)
 refine ow_op (by simp only [zl, zm, zc, mkS_toList, nil_toList, mkS_size] <;> exact rfl) ?_
 refine ow_op (by simp only [zl, zm, zc, mkS_toList, nil_toList, mkS_size] <;> exact rfl) ?_
 refine ow_mc ?_
 refine ow_mc ?_
 refine ow_nil ?_
 refine sk_n (by simp only [ze] <;> exact rfl) ?_
 refine cw_seq (cw_seq (cw_region ?_))
 refine ow_op (by simp only [zl, zm, zd, partD, List.take, List.drop, mkS_toList, nil_toList, mkS_size] <;> exact rfl) ?_
 refine ow_op (by simp only [zl, zm, zd, partD, List.take, List.drop, mkS_toList, nil_toList, mkS_size] <;> exact rfl) ?_
 refine ow_op (by simp only [zo, mkS_toList, nil_toList, mkS_size]; exact both_run (by omega) _ true true a b ha hb) ?_
 refine ow_ml rfl ?_
 refine ow_nil ?_
 refine sk_n (by simp only [ze] <;> exact rfl) ?_
 refine cw_seq (cw_region ?_)
 refine ow_me rfl ?_
 refine ow_op (by simp only [zo, binD, zb, Int.reduceEq, Int.reduceToNat, Int.reduceLT, mkS_toList, nil_toList, mkS_size] <;> exact rfl) ?_
 refine ow_nil ?_
 refine sk_n (by simp only [ze] <;> exact rfl) ?_
 skip
 refine cw_false (by simp only [opd, zv, mkS_toList, nil_toList, mkS_size] <;> rfl) ?_
 refine cw_skip (sk_n rfl (cw_seq (cw_region ?_)))
 refine ow_op (by simp only [zl, zm, zd, partD, List.take, List.drop, mkS_toList, nil_toList, mkS_size] <;> exact rfl) ?_
 refine ow_op (by simp only [zl, zm, zd, partD, List.take, List.drop, mkS_toList, nil_toList, mkS_size] <;> exact rfl) ?_
 refine ow_op (by simp only [zo, mkS_toList, nil_toList, mkS_size]; exact aligned_run (by omega) _ true true a b ha hb h1 h2) ?_
 refine ow_ml rfl ?_
 refine ow_op (by simp only [zo, List.getElem?_cons_zero, List.getElem?_cons_succ, mkS_toList, nil_toList, mkS_size] <;> exact rfl) ?_
 refine ow_op (by simp only [zo, List.getElem?_cons_zero, List.getElem?_cons_succ, mkS_toList, nil_toList, mkS_size] <;> exact rfl) ?_
 refine ow_op (by simp only [zo, List.getElem?_cons_zero, List.getElem?_cons_succ, mkS_toList, nil_toList, mkS_size] <;> exact rfl) ?_
 refine ow_ml rfl ?_
 refine ow_ml rfl ?_
 refine ow_ml rfl ?_
 refine ow_nil ?_
 refine sk_n (by simp only [ze] <;> exact rfl) ?_
 refine cw_seq (cw_block (cw_seq (cw_region ?_)))
 refine ow_op (by simp only [zo, faddrD_ptr, faddrD_cptr, zm, mkS_toList, nil_toList, mkS_size] <;> exact rfl) ?_
 refine ow_op (by simp only [zl, zm, zd, partD, List.take, List.drop, mkS_toList, nil_toList, mkS_size] <;> exact rfl) ?_
 refine ow_op (by simp only [zo, faddrD_ptr, faddrD_cptr, zm, mkS_toList, nil_toList, mkS_size] <;> exact rfl) ?_
 refine ow_op (by simp only [zl, zm, zd, partD, List.take, List.drop, mkS_toList, nil_toList, mkS_size] <;> exact rfl) ?_
 refine ow_op (by simp only [zo, mkS_toList, nil_toList, mkS_size] <;> exact rfl) ?_
 refine ow_ml rfl ?_
 refine ow_know 0 (b := false) (by simp only [opd, zv, mkS_toList, nil_toList, mkS_size] <;> rfl) (by simp only [zn] <;> exact rfl) ?_
 refine ow_off (b' := false) (by simp only [opd, zv]) rfl ?_
 refine ow_off (b' := false) (by simp only [opd, zv]) rfl ?_
 refine ow_op (by simp only [zo, mkS_toList, nil_toList, mkS_size] <;> exact rfl) ?_
 refine ow_ml rfl ?_
 refine ow_nil ?_
 refine sk_n (by simp only [ze] <;> exact rfl) ?_
 refine cw_false (by simp only [opd, zv, mkS_toList, nil_toList, mkS_size]) ?_
 refine cw_seq (cw_region ?_)
 refine ow_op (by simp only [zo, faddrD_ptr, faddrD_cptr, zm, mkS_toList, nil_toList, mkS_size] <;> exact rfl) ?_
 refine ow_op (by simp only [zl, zm, zd, partD, List.take, List.drop, mkS_toList, nil_toList, mkS_size] <;> exact rfl) ?_
 refine ow_op (by simp only [zo, faddrD_ptr, faddrD_cptr, zm, mkS_toList, nil_toList, mkS_size] <;> exact rfl) ?_
 refine ow_op (by simp only [zl, zm, zd, partD, List.take, List.drop, mkS_toList, nil_toList, mkS_size] <;> exact rfl) ?_
 refine ow_op (by simp only [zo, mkS_toList, nil_toList, mkS_size] <;> exact rfl) ?_
 refine ow_ml rfl ?_
 refine ow_nil ?_
 refine sk_n (by simp only [ze] <;> exact rfl) ?_
 skip
 refine cw_false (by simp only [opd, zv, mkS_toList, nil_toList, mkS_size] <;> rfl) ?_
 refine cw_seq (cw_region ?_)
 refine ow_op (by simp only [zo, faddrD_ptr, faddrD_cptr, zm, mkS_toList, nil_toList, mkS_size] <;> exact rfl) ?_
 refine ow_op (by simp only [zl, zm, zd, partD, List.take, List.drop, mkS_toList, nil_toList, mkS_size] <;> exact rfl) ?_
 refine ow_ml rfl ?_
 refine ow_nil ?_
 refine sk_n (by simp only [ze] <;> exact rfl) ?_
 skip
 refine cw_true (by simp only [opd, zv, mkS_toList, nil_toList, mkS_size] <;> rfl) ?_
 refine cw_seq (cw_region ?_)
 refine ow_me rfl ?_
 refine ow_me rfl ?_
 refine ow_op (by simp only [zo, mkS_toList, nil_toList, mkS_size]; exact cmpS_run (by omega) _ _ _) ?_
 refine ow_ml rfl ?_
 refine ow_mc ?_
 refine ow_nil ?_
 refine sk_n (by simp only [ze] <;> exact rfl) ?_
 refine cw_ret (bk_r (sk_r ?_))
 refine ⟨_, by simp only [F52, resultD, resDs, resD, List.getD_cons_zero, List.getD_cons_succ, zd, rowsOf, partD, List.getElem?_cons_zero, List.getElem?_cons_succ, if_true, if_false, Bool.false_eq_true, List.take, List.drop, zm] <;> exact rfl, ?_⟩
 rfl

theorem decCmp_tf {d : Nat} (hd : 8 ≤ d) (S : St) (a b : List UInt8) (ha : Nrm true a) (hb : Nrm false b) (h1 : a.length < b.length + 7) (h2 : b.length < a.length + 7) : runF LP NN d 52 [.agg [.bool true, .str (mkS a), .int .i64 0], .agg [.bool false, .str (mkS b), .int .i64 0]] S = some (.tup [.int .i64 (cmpN true false a b), .int .i64 0], S, false) := by
 refine run_pure (F := F52) rfl (by simp only [LP, fnOf, snapVs, snaps, zs, Bool.false_eq_true, if_false, Option.map_some, List.map_cons, List.map_nil] <;> exact rfl) rfl (by simp only [LP, zf, List.all_cons, List.all_nil, Bool.and_true, Bool.true_and]; try rfl) (by simp only [F52, zv] <;> exact rfl) (by omega) ?_
 rintro d rfl
 refine cw_seq (cw_region ?_)
 refine ow_op (by simp only [zl, zm, zc, mkS_toList, nil_toList, mkS_size] <;> exact rfl) ?_
 refine ow_op (by simp only [zl, zm, zc, mkS_toList, nil_toList, mkS_size] <;> exact rfl) ?_
 refine ow_mc ?_
 refine ow_mc ?_
 refine ow_nil ?_
 refine sk_n (by simp only [ze] <;> exact rfl) ?_
 refine cw_seq (cw_seq (cw_region ?_))
 refine ow_op (by simp only [zl, zm, zd, partD, List.take, List.drop, mkS_toList, nil_toList, mkS_size] <;> exact rfl) ?_
 refine ow_op (by simp only [zl, zm, zd, partD, List.take, List.drop, mkS_toList, nil_toList, mkS_size] <;> exact rfl) ?_
 refine ow_op (by simp only [zo, mkS_toList, nil_toList, mkS_size]; exact both_run (by omega) _ true false a b ha hb) ?_
 refine ow_ml rfl ?_
 refine ow_nil ?_
 refine sk_n (by simp only [ze] <;> exact rfl) ?_
 refine cw_seq (cw_region ?_)
 refine ow_me rfl ?_
 refine ow_op (by simp only [zo, binD, zb, Int.reduceEq, Int.reduceToNat, Int.reduceLT, mkS_toList, nil_toList, mkS_size] <;> exact rfl) ?_
 refine ow_nil ?_
 refine sk_n (by simp only [ze] <;> exact rfl) ?_
 skip
 refine cw_false (by simp only [opd, zv, mkS_toList, nil_toList, mkS_size] <;> rfl) ?_
 refine cw_skip (sk_n rfl (cw_seq (cw_region ?_)))
 refine ow_op (by simp only [zl, zm, zd, partD, List.take, List.drop, mkS_toList, nil_toList, mkS_size] <;> exact rfl) ?_
 refine ow_op (by simp only [zl, zm, zd, partD, List.take, List.drop, mkS_toList, nil_toList, mkS_size] <;> exact rfl) ?_
 refine ow_op (by simp only [zo, mkS_toList, nil_toList, mkS_size]; exact aligned_run (by omega) _ true false a b ha hb h1 h2) ?_
 refine ow_ml rfl ?_
 refine ow_op (by simp only [zo, List.getElem?_cons_zero, List.getElem?_cons_succ, mkS_toList, nil_toList, mkS_size] <;> exact rfl) ?_
 refine ow_op (by simp only [zo, List.getElem?_cons_zero, List.getElem?_cons_succ, mkS_toList, nil_toList, mkS_size] <;> exact rfl) ?_
 refine ow_op (by simp only [zo, List.getElem?_cons_zero, List.getElem?_cons_succ, mkS_toList, nil_toList, mkS_size] <;> exact rfl) ?_
 refine ow_ml rfl ?_
 refine ow_ml rfl ?_
 refine ow_ml rfl ?_
 refine ow_nil ?_
 refine sk_n (by simp only [ze] <;> exact rfl) ?_
 refine cw_seq (cw_block (cw_seq (cw_region ?_)))
 refine ow_op (by simp only [zo, faddrD_ptr, faddrD_cptr, zm, mkS_toList, nil_toList, mkS_size] <;> exact rfl) ?_
 refine ow_op (by simp only [zl, zm, zd, partD, List.take, List.drop, mkS_toList, nil_toList, mkS_size] <;> exact rfl) ?_
 refine ow_op (by simp only [zo, faddrD_ptr, faddrD_cptr, zm, mkS_toList, nil_toList, mkS_size] <;> exact rfl) ?_
 refine ow_op (by simp only [zl, zm, zd, partD, List.take, List.drop, mkS_toList, nil_toList, mkS_size] <;> exact rfl) ?_
 refine ow_op (by simp only [zo, mkS_toList, nil_toList, mkS_size] <;> exact rfl) ?_
 refine ow_ml rfl ?_
 refine ow_know 0 (b := true) (by simp only [opd, zv, mkS_toList, nil_toList, mkS_size] <;> rfl) (by simp only [zn] <;> exact rfl) ?_
 refine ow_on (by simp only [opd, zv]) ?_
 refine ow_op (by simp only [zo, faddrD_ptr, faddrD_cptr, zm, mkS_toList, nil_toList, mkS_size] <;> exact rfl) ?_
 refine ow_on (by simp only [opd, zv]) ?_
 refine ow_op (by simp only [zl, zm, zd, partD, List.take, List.drop, mkS_toList, nil_toList, mkS_size] <;> exact rfl) ?_
 refine ow_op (by simp only [zo, mkS_toList, nil_toList, mkS_size] <;> exact rfl) ?_
 refine ow_ml rfl ?_
 refine ow_nil ?_
 refine sk_n (by simp only [ze] <;> exact rfl) ?_
 skip
 refine cw_true (by simp only [opd, zv, mkS_toList, nil_toList, mkS_size] <;> rfl) ?_
 refine cw_seq (cw_region ?_)
 refine ow_mc ?_
 refine ow_mc ?_
 refine ow_nil ?_
 refine sk_n (by simp only [ze] <;> exact rfl) ?_
 refine cw_ret (bk_r (sk_r ?_))
 refine ⟨_, by simp only [F52, resultD, resDs, resD, List.getD_cons_zero, List.getD_cons_succ, zd, rowsOf, partD, List.getElem?_cons_zero, List.getElem?_cons_succ, if_true, if_false, Bool.false_eq_true, List.take, List.drop, zm] <;> exact rfl, ?_⟩
 rfl

theorem decCmp_ft {d : Nat} (hd : 8 ≤ d) (S : St) (a b : List UInt8) (ha : Nrm false a) (hb : Nrm true b) (h1 : a.length < b.length + 7) (h2 : b.length < a.length + 7) : runF LP NN d 52 [.agg [.bool false, .str (mkS a), .int .i64 0], .agg [.bool true, .str (mkS b), .int .i64 0]] S = some (.tup [.int .i64 (cmpN false true a b), .int .i64 0], S, false) := by
 refine run_pure (F := F52) rfl (by simp only [LP, fnOf, snapVs, snaps, zs, Bool.false_eq_true, if_false, Option.map_some, List.map_cons, List.map_nil] <;> exact rfl) rfl (by simp only [LP, zf, List.all_cons, List.all_nil, Bool.and_true, Bool.true_and]; try rfl) (by simp only [F52, zv] <;> exact rfl) (by omega) ?_
 rintro d rfl
 refine cw_seq (cw_region ?_)
 refine ow_op (by simp only [zl, zm, zc, mkS_toList, nil_toList, mkS_size] <;> exact rfl) ?_
 refine ow_op (by simp only [zl, zm, zc, mkS_toList, nil_toList, mkS_size] <;> exact rfl) ?_
 refine ow_mc ?_
 refine ow_mc ?_
 refine ow_nil ?_
 refine sk_n (by simp only [ze] <;> exact rfl) ?_
 refine cw_seq (cw_seq (cw_region ?_))
 refine ow_op (by simp only [zl, zm, zd, partD, List.take, List.drop, mkS_toList, nil_toList, mkS_size] <;> exact rfl) ?_
 refine ow_op (by simp only [zl, zm, zd, partD, List.take, List.drop, mkS_toList, nil_toList, mkS_size] <;> exact rfl) ?_
 refine ow_op (by simp only [zo, mkS_toList, nil_toList, mkS_size]; exact both_run (by omega) _ false true a b ha hb) ?_
 refine ow_ml rfl ?_
 refine ow_nil ?_
 refine sk_n (by simp only [ze] <;> exact rfl) ?_
 refine cw_seq (cw_region ?_)
 refine ow_me rfl ?_
 refine ow_op (by simp only [zo, binD, zb, Int.reduceEq, Int.reduceToNat, Int.reduceLT, mkS_toList, nil_toList, mkS_size] <;> exact rfl) ?_
 refine ow_nil ?_
 refine sk_n (by simp only [ze] <;> exact rfl) ?_
 skip
 refine cw_false (by simp only [opd, zv, mkS_toList, nil_toList, mkS_size] <;> rfl) ?_
 refine cw_skip (sk_n rfl (cw_seq (cw_region ?_)))
 refine ow_op (by simp only [zl, zm, zd, partD, List.take, List.drop, mkS_toList, nil_toList, mkS_size] <;> exact rfl) ?_
 refine ow_op (by simp only [zl, zm, zd, partD, List.take, List.drop, mkS_toList, nil_toList, mkS_size] <;> exact rfl) ?_
 refine ow_op (by simp only [zo, mkS_toList, nil_toList, mkS_size]; exact aligned_run (by omega) _ false true a b ha hb h1 h2) ?_
 refine ow_ml rfl ?_
 refine ow_op (by simp only [zo, List.getElem?_cons_zero, List.getElem?_cons_succ, mkS_toList, nil_toList, mkS_size] <;> exact rfl) ?_
 refine ow_op (by simp only [zo, List.getElem?_cons_zero, List.getElem?_cons_succ, mkS_toList, nil_toList, mkS_size] <;> exact rfl) ?_
 refine ow_op (by simp only [zo, List.getElem?_cons_zero, List.getElem?_cons_succ, mkS_toList, nil_toList, mkS_size] <;> exact rfl) ?_
 refine ow_ml rfl ?_
 refine ow_ml rfl ?_
 refine ow_ml rfl ?_
 refine ow_nil ?_
 refine sk_n (by simp only [ze] <;> exact rfl) ?_
 refine cw_seq (cw_block (cw_seq (cw_region ?_)))
 refine ow_op (by simp only [zo, faddrD_ptr, faddrD_cptr, zm, mkS_toList, nil_toList, mkS_size] <;> exact rfl) ?_
 refine ow_op (by simp only [zl, zm, zd, partD, List.take, List.drop, mkS_toList, nil_toList, mkS_size] <;> exact rfl) ?_
 refine ow_op (by simp only [zo, faddrD_ptr, faddrD_cptr, zm, mkS_toList, nil_toList, mkS_size] <;> exact rfl) ?_
 refine ow_op (by simp only [zl, zm, zd, partD, List.take, List.drop, mkS_toList, nil_toList, mkS_size] <;> exact rfl) ?_
 refine ow_op (by simp only [zo, mkS_toList, nil_toList, mkS_size] <;> exact rfl) ?_
 refine ow_ml rfl ?_
 refine ow_know 0 (b := true) (by simp only [opd, zv, mkS_toList, nil_toList, mkS_size] <;> rfl) (by simp only [zn] <;> exact rfl) ?_
 refine ow_on (by simp only [opd, zv]) ?_
 refine ow_op (by simp only [zo, faddrD_ptr, faddrD_cptr, zm, mkS_toList, nil_toList, mkS_size] <;> exact rfl) ?_
 refine ow_on (by simp only [opd, zv]) ?_
 refine ow_op (by simp only [zl, zm, zd, partD, List.take, List.drop, mkS_toList, nil_toList, mkS_size] <;> exact rfl) ?_
 refine ow_op (by simp only [zo, mkS_toList, nil_toList, mkS_size] <;> exact rfl) ?_
 refine ow_ml rfl ?_
 refine ow_nil ?_
 refine sk_n (by simp only [ze] <;> exact rfl) ?_
 skip
 refine cw_false (by simp only [opd, zv, mkS_toList, nil_toList, mkS_size] <;> rfl) ?_
 refine cw_seq (cw_region ?_)
 refine ow_op (by simp only [zo, faddrD_ptr, faddrD_cptr, zm, mkS_toList, nil_toList, mkS_size] <;> exact rfl) ?_
 refine ow_op (by simp only [zl, zm, zd, partD, List.take, List.drop, mkS_toList, nil_toList, mkS_size] <;> exact rfl) ?_
 refine ow_op (by simp only [zo, faddrD_ptr, faddrD_cptr, zm, mkS_toList, nil_toList, mkS_size] <;> exact rfl) ?_
 refine ow_op (by simp only [zl, zm, zd, partD, List.take, List.drop, mkS_toList, nil_toList, mkS_size] <;> exact rfl) ?_
 refine ow_op (by simp only [zo, mkS_toList, nil_toList, mkS_size] <;> exact rfl) ?_
 refine ow_ml rfl ?_
 refine ow_nil ?_
 refine sk_n (by simp only [ze] <;> exact rfl) ?_
 skip
 refine cw_true (by simp only [opd, zv, mkS_toList, nil_toList, mkS_size] <;> rfl) ?_
 refine cw_seq (cw_region ?_)
 refine ow_mc ?_
 refine ow_mc ?_
 refine ow_nil ?_
 refine sk_n (by simp only [ze] <;> exact rfl) ?_
 refine cw_ret (bk_r (sk_r ?_))
 refine ⟨_, by simp only [F52, resultD, resDs, resD, List.getD_cons_zero, List.getD_cons_succ, zd, rowsOf, partD, List.getElem?_cons_zero, List.getElem?_cons_succ, if_true, if_false, Bool.false_eq_true, List.take, List.drop, zm] <;> exact rfl, ?_⟩
 rfl

theorem decCmp_ff {d : Nat} (hd : 8 ≤ d) (S : St) (a b : List UInt8) (ha : Nrm false a) (hb : Nrm false b) (h1 : a.length < b.length + 7) (h2 : b.length < a.length + 7) : runF LP NN d 52 [.agg [.bool false, .str (mkS a), .int .i64 0], .agg [.bool false, .str (mkS b), .int .i64 0]] S = some (.tup [.int .i64 (cmpN false false a b), .int .i64 0], S, false) := by
 refine run_pure (F := F52) rfl (by simp only [LP, fnOf, snapVs, snaps, zs, Bool.false_eq_true, if_false, Option.map_some, List.map_cons, List.map_nil] <;> exact rfl) rfl (by simp only [LP, zf, List.all_cons, List.all_nil, Bool.and_true, Bool.true_and]; try rfl) (by simp only [F52, zv] <;> exact rfl) (by omega) ?_
 rintro d rfl
 refine cw_seq (cw_region ?_)
 refine ow_op (by simp only [zl, zm, zc, mkS_toList, nil_toList, mkS_size] <;> exact rfl) ?_
 refine ow_op (by simp only [zl, zm, zc, mkS_toList, nil_toList, mkS_size] <;> exact rfl) ?_
 refine ow_mc ?_
 refine ow_mc ?_
 refine ow_nil ?_
 refine sk_n (by simp only [ze] <;> exact rfl) ?_
 refine cw_seq (cw_seq (cw_region ?_))
 refine ow_op (by simp only [zl, zm, zd, partD, List.take, List.drop, mkS_toList, nil_toList, mkS_size] <;> exact rfl) ?_
 refine ow_op (by simp only [zl, zm, zd, partD, List.take, List.drop, mkS_toList, nil_toList, mkS_size] <;> exact rfl) ?_
 refine ow_op (by simp only [zo, mkS_toList, nil_toList, mkS_size]; exact both_run (by omega) _ false false a b ha hb) ?_
 refine ow_ml rfl ?_
 refine ow_nil ?_
 refine sk_n (by simp only [ze] <;> exact rfl) ?_
 refine cw_seq (cw_region ?_)
 refine ow_me rfl ?_
 refine ow_op (by simp only [zo, binD, zb, Int.reduceEq, Int.reduceToNat, Int.reduceLT, mkS_toList, nil_toList, mkS_size] <;> exact rfl) ?_
 refine ow_nil ?_
 refine sk_n (by simp only [ze] <;> exact rfl) ?_
 skip
 refine cw_false (by simp only [opd, zv, mkS_toList, nil_toList, mkS_size] <;> rfl) ?_
 refine cw_skip (sk_n rfl (cw_seq (cw_region ?_)))
 refine ow_op (by simp only [zl, zm, zd, partD, List.take, List.drop, mkS_toList, nil_toList, mkS_size] <;> exact rfl) ?_
 refine ow_op (by simp only [zl, zm, zd, partD, List.take, List.drop, mkS_toList, nil_toList, mkS_size] <;> exact rfl) ?_
 refine ow_op (by simp only [zo, mkS_toList, nil_toList, mkS_size]; exact aligned_run (by omega) _ false false a b ha hb h1 h2) ?_
 refine ow_ml rfl ?_
 refine ow_op (by simp only [zo, List.getElem?_cons_zero, List.getElem?_cons_succ, mkS_toList, nil_toList, mkS_size] <;> exact rfl) ?_
 refine ow_op (by simp only [zo, List.getElem?_cons_zero, List.getElem?_cons_succ, mkS_toList, nil_toList, mkS_size] <;> exact rfl) ?_
 refine ow_op (by simp only [zo, List.getElem?_cons_zero, List.getElem?_cons_succ, mkS_toList, nil_toList, mkS_size] <;> exact rfl) ?_
 refine ow_ml rfl ?_
 refine ow_ml rfl ?_
 refine ow_ml rfl ?_
 refine ow_nil ?_
 refine sk_n (by simp only [ze] <;> exact rfl) ?_
 refine cw_seq (cw_block (cw_seq (cw_region ?_)))
 refine ow_op (by simp only [zo, faddrD_ptr, faddrD_cptr, zm, mkS_toList, nil_toList, mkS_size] <;> exact rfl) ?_
 refine ow_op (by simp only [zl, zm, zd, partD, List.take, List.drop, mkS_toList, nil_toList, mkS_size] <;> exact rfl) ?_
 refine ow_op (by simp only [zo, faddrD_ptr, faddrD_cptr, zm, mkS_toList, nil_toList, mkS_size] <;> exact rfl) ?_
 refine ow_op (by simp only [zl, zm, zd, partD, List.take, List.drop, mkS_toList, nil_toList, mkS_size] <;> exact rfl) ?_
 refine ow_op (by simp only [zo, mkS_toList, nil_toList, mkS_size] <;> exact rfl) ?_
 refine ow_ml rfl ?_
 refine ow_know 0 (b := false) (by simp only [opd, zv, mkS_toList, nil_toList, mkS_size] <;> rfl) (by simp only [zn] <;> exact rfl) ?_
 refine ow_off (b' := false) (by simp only [opd, zv]) rfl ?_
 refine ow_off (b' := false) (by simp only [opd, zv]) rfl ?_
 refine ow_op (by simp only [zo, mkS_toList, nil_toList, mkS_size] <;> exact rfl) ?_
 refine ow_ml rfl ?_
 refine ow_nil ?_
 refine sk_n (by simp only [ze] <;> exact rfl) ?_
 refine cw_false (by simp only [opd, zv, mkS_toList, nil_toList, mkS_size]) ?_
 refine cw_seq (cw_region ?_)
 refine ow_op (by simp only [zo, faddrD_ptr, faddrD_cptr, zm, mkS_toList, nil_toList, mkS_size] <;> exact rfl) ?_
 refine ow_op (by simp only [zl, zm, zd, partD, List.take, List.drop, mkS_toList, nil_toList, mkS_size] <;> exact rfl) ?_
 refine ow_op (by simp only [zo, faddrD_ptr, faddrD_cptr, zm, mkS_toList, nil_toList, mkS_size] <;> exact rfl) ?_
 refine ow_op (by simp only [zl, zm, zd, partD, List.take, List.drop, mkS_toList, nil_toList, mkS_size] <;> exact rfl) ?_
 refine ow_op (by simp only [zo, mkS_toList, nil_toList, mkS_size] <;> exact rfl) ?_
 refine ow_ml rfl ?_
 refine ow_nil ?_
 refine sk_n (by simp only [ze] <;> exact rfl) ?_
 skip
 refine cw_false (by simp only [opd, zv, mkS_toList, nil_toList, mkS_size] <;> rfl) ?_
 refine cw_seq (cw_region ?_)
 refine ow_op (by simp only [zo, faddrD_ptr, faddrD_cptr, zm, mkS_toList, nil_toList, mkS_size] <;> exact rfl) ?_
 refine ow_op (by simp only [zl, zm, zd, partD, List.take, List.drop, mkS_toList, nil_toList, mkS_size] <;> exact rfl) ?_
 refine ow_ml rfl ?_
 refine ow_nil ?_
 refine sk_n (by simp only [ze] <;> exact rfl) ?_
 skip
 refine cw_false (by simp only [opd, zv, mkS_toList, nil_toList, mkS_size] <;> rfl) ?_
 refine cw_skip (bk_n (sk_n rfl (cw_seq (cw_region ?_))))
 refine ow_me rfl ?_
 refine ow_me rfl ?_
 refine ow_op (by simp only [zo, mkS_toList, nil_toList, mkS_size]; exact cmpS_run (by omega) _ _ _) ?_
 refine ow_ml rfl ?_
 refine ow_mc ?_
 refine ow_nil ?_
 refine sk_n (by simp only [ze] <;> exact rfl) ?_
 refine cw_ret ?_
 refine ⟨_, by simp only [F52, resultD, resDs, resD, List.getD_cons_zero, List.getD_cons_succ, zd, rowsOf, partD, List.getElem?_cons_zero, List.getElem?_cons_succ, if_true, if_false, Bool.false_eq_true, List.take, List.drop, zm] <;> exact rfl, ?_⟩
 rfl

theorem decCmp_run {d : Nat} (hd : 8 ≤ d) (S : St) (na nb : Bool) (a b : List UInt8) (ha : Nrm na a) (hb : Nrm nb b) (h1 : a.length < b.length + 7) (h2 : b.length < a.length + 7) : runF LP NN d 52 [.agg [.bool na, .str (mkS a), .int .i64 0], .agg [.bool nb, .str (mkS b), .int .i64 0]] S = some (.tup [.int .i64 (cmpN na nb a b), .int .i64 0], S, false) := by
 cases na <;> cases nb
 ·
  exact decCmp_ff hd S a b ha hb h1 h2
 ·
  exact decCmp_ft hd S a b ha hb h1 h2
 ·
  exact decCmp_tf hd S a b ha hb h1 h2
 ·
  exact decCmp_tt hd S a b ha hb h1 h2

end Go.Proofs.YtabgobmeibjeeaaGreatDoor

namespace Go.Proofs.YtabgobmeibjeeaaGreatDoor
set_option linter.unusedSimpArgs false
set_option linter.unusedVariables false
set_option maxRecDepth 10000

/-- a part of a slice -/
def subD (a n : Nat) : D → D
 | .sl s rows cap => .sl s ((rows.drop a).take n) (cap.map (· - a))
 | d => d
theorem SlD.sub {sz : Nat} {rows : List (List D)} {x : D} (h : SlD sz rows x) (a n : Nat) : SlD sz ((rows.drop a).take n) (subD a n x) := by
 rcases h with ⟨rfl, rfl⟩ | ⟨c, rfl⟩
 ·
  exact .inl ⟨rfl, by simp⟩
 ·
  exact .of _ _ _
theorem SlD.slice_mid {sz : Nat} {rows : List (List D)} {x : D} (h : SlD sz rows x) (S : St) {a b : Nat} {i j : Int} (hi : i = a) (hj : j = b) (hab : a ≤ b) (hb : b ≤ rows.length) : sliceD S sz x (some (.int .i64 i)) (some (.int .i64 j)) none = some (subD a (b - a) x) := by
 subst hi hj
 rcases h with ⟨rfl, rfl⟩ | ⟨c, rfl⟩
 ·
  simp at hb; subst hb; have : a = 0 := by omega
  subst this; simp [sliceD, boundsD, natOr, natOf, subD]
 ·
  simp [sliceD, boundsD, natOr, natOf, subD, hab, hb]
/-- the cells of a shape -/
structure Shp where
 cat : Int
 us : Int
 pic : ByteArray
 dg : Int
 sc : Int
 sg : Bool
 le : Bool
 se : Bool
 ju : Bool
 bl : Bool
 sz : Int

theorem sign_run {d : Nat} (hd : 1 ≤ d) (S : St) (cat us : Int) (pic : ByteArray) (dg sc sz : Int) (sg se ju bl : Bool) : runF LP NN d 174 [.agg [.int .u8 cat, .int .u8 us, .str pic, .int .i64 dg, .int .i64 sc, .bool sg, .bool false, .bool se, .bool ju, .bool bl, .int .i64 sz]] S = some (.int .i64 (IntKind.i64.wrap (dg - 1)), S, false) := by
 obtain ⟨d, rfl⟩ : ∃ d', d = d' + 1 := ⟨d - 1, by omega⟩
 kernel_rfl
theorem of0_run {d : Nat} (hd : 2 ≤ d) (S : St) (cat : Int) (pic : ByteArray) (dg sc sz : Int) (sg le ju bl : Bool) : runF LP NN d 120 [.agg [.int .u8 cat, .int .u8 0, .str pic, .int .i64 dg, .int .i64 sc, .bool sg, .bool le, .bool false, .bool ju, .bool bl, .int .i64 sz]] S = some (.agg [.fn 162 [], .fn 163 []], S, false) := by
 obtain ⟨d, rfl⟩ : ∃ d', d = d' + 2 := ⟨d - 2, by omega⟩
 kernel_rfl
theorem zonedU_run {d : Nat} (hd : 5 ≤ d) (S : St) (cat us : Int) (pic : ByteArray) (dg sc sz : Int) (se ju bl : Bool) {x : D} {l : List UInt8} (hS : SlD 1 (bR l) x) (hl : l.length ≤ 1000000) : runF LP NN d 162 [.agg [.int .u8 cat, .int .u8 us, .str pic, .int .i64 dg, .int .i64 sc, .bool false, .bool false, .bool se, .bool ju, .bool bl, .int .i64 sz], x] S = some (.tup [.agg [.bool false, .str (mkS l)], .bool (l.all isDig)], S, false) := by
 refine run_pure (F := F162) rfl (by simp only [LP, fnOf, snapVs, snaps, zs, Bool.false_eq_true, if_false, Option.map_some, List.map_cons, List.map_nil, hS.snapV, hS.freeV] <;> exact rfl) rfl (by simp only [LP, zf, List.all_cons, List.all_nil, Bool.and_true, Bool.true_and, hS.snapV, hS.freeV]; try rfl) (by simp only [F162, zv] <;> exact rfl) (by omega) ?_
 rintro d rfl
 refine cw_seq (cw_region ?_)
 refine ow_op (by simp only [zl, zm, zc, mkS_toList, nil_toList, mkS_size, hS.read, bytesOf_bR, Option.map_some] <;> exact rfl) ?_
 refine ow_op (by simp only [zl, zm, mkS_toList, nil_toList, mkS_size, hS.read, bytesOf_bR, Option.map_some] <;> exact rfl) ?_
 refine ow_mc ?_
 refine ow_nil ?_
 refine sk_n (by simp only [ze] <;> exact rfl) ?_
 refine cw_seq (cw_region ?_)
 refine ow_me rfl ?_
 refine ow_op (by simp only [zl, zm, readRows_nils, readRows_sl, readRows_msl, mkS_toList, nil_toList, mkS_size, hS.read, bytesOf_bR, Option.map_some] <;> exact rfl) ?_
 refine ow_op (by simp only [zo, fillD, overlay, zc, List.take, List.drop, Nat.reduceAdd, Nat.reduceLeDiff, Nat.reduceBEq, zm, mkS_toList, nil_toList, mkS_size, hS.read, bytesOf_bR, Option.map_some] <;> exact rfl) ?_
 refine ow_op (by simp only [zl, zm, mkS_toList, nil_toList, mkS_size, hS.read, bytesOf_bR, Option.map_some] <;> exact rfl) ?_
 refine ow_op (by simp only [zl, zm, storeD, overlay, snapVs, snaps, zs, zc, zf, List.take, List.drop, mkS_toList, nil_toList, mkS_size, hS.read, bytesOf_bR, Option.map_some] <;> exact rfl) ?_
 refine ow_nil ?_
 refine sk_n (by simp only [ze] <;> exact rfl) ?_
 refine cw_seq (cw_seq (cw_region ?_))
 refine ow_op (by simp only [zl, zm, zd, partD, List.take, List.drop, mkS_toList, nil_toList, mkS_size, hS.read, bytesOf_bR, Option.map_some] <;> exact rfl) ?_
 refine ow_op (by simp only [zo, mkS_toList, nil_toList, mkS_size, hS.read, bytesOf_bR, Option.map_some]; exact sign_run (by omega) _ _ _ _ _ _ _ _ _ _ _) ?_
 refine ow_ml rfl ?_
 refine ow_nil ?_
 refine sk_n (by simp only [ze] <;> exact rfl) ?_
 refine cw_seq (cw_region ?_)
 refine ow_op (by simp only [zo, faddrD_ptr, faddrD_cptr, zm, mkS_toList, nil_toList, mkS_size, hS.read, bytesOf_bR, Option.map_some] <;> exact rfl) ?_
 refine ow_op (by simp only [zl, zm, zd, partD, List.take, List.drop, mkS_toList, nil_toList, mkS_size, hS.read, bytesOf_bR, Option.map_some] <;> exact rfl) ?_
 refine ow_nil ?_
 refine sk_n (by simp only [ze] <;> exact rfl) ?_
 skip
 refine cw_false (by simp only [opd, zv, mkS_toList, nil_toList, mkS_size, hS.read, bytesOf_bR, Option.map_some] <;> rfl) ?_
 refine cw_skip (sk_n rfl (cw_seq ?_))
 refine cw_drawn (by simp only [newsVals, zw, Nat.reduceAdd] <;> exact rfl) (by simp only [zw, newsObj, St.eta] <;> exact rfl) ?_
 refine dw_op (by simp only [zl, zm, zd, partD, List.take, List.drop, mkS_toList, nil_toList, mkS_size, hS.read, bytesOf_bR, Option.map_some] <;> exact rfl) (by simp only [fpHere, zo, zq] <;> exact rfl) rfl ?_
 refine dw_quiet (by simp only [zo, faddrD_ptr, faddrD_cptr, zm, mkS_toList, nil_toList, mkS_size, hS.read, bytesOf_bR, Option.map_some] <;> exact rfl) rfl rfl ?_
 refine dw_op (by simp only [zl, zm, zd, partD, List.take, List.drop, mkS_toList, nil_toList, mkS_size, hS.read, bytesOf_bR, Option.map_some] <;> exact rfl) (by simp only [fpHere, zo, zq] <;> exact rfl) rfl ?_
 refine dw_op (by simp only [zo, mkS_toList, nil_toList, mkS_size, hS.read, bytesOf_bR, Option.map_some]; exact trim_run (by omega) _ l hl) (by simp only [fpHere, zo, zq] <;> exact rfl) rfl ?_
 refine dw_quiet (by simp only [zo, binD, zb, Int.reduceEq, Int.reduceToNat, Int.reduceLT, mkS_toList, nil_toList, mkS_size, hS.read, bytesOf_bR, Option.map_some] <;> exact rfl) rfl rfl ?_
 refine dw_op (by simp only [zl, zm, storeD, overlay, snapVs, snaps, zs, zc, zf, List.take, List.drop, mkS_toList, nil_toList, mkS_size, hS.read, bytesOf_bR, Option.map_some] <;> exact rfl) (by simp only [fpHere, zo, zq] <;> exact rfl) rfl ?_
 refine dw_ml rfl rfl ?_
 refine dw_nil ?_
 refine sk_n (by simp only [ze] <;> exact rfl) ?_
 refine cw_ret ?_
 refine ⟨_, by simp only [F162, resultD, resDs, resD, List.getD_cons_zero, List.getD_cons_succ, zd, rowsOf, partD, List.getElem?_cons_zero, List.getElem?_cons_succ, if_true, if_false, Bool.false_eq_true, List.take, List.drop, zm] <;> exact rfl, ?_⟩
 simp only [leaveP, leave, snapVs, snaps, zs, zf, zk]
 rw [trimD_nil]; rfl

theorem read_true {d : Nat} (hd : 7 ≤ d) (S : St) (us : Int) (pic : ByteArray) (dg sc sz : Int) (sg le se ju bl : Bool) (fr fw : FuncId) (ng : Bool) (l : List UInt8) {x : D} {rows : List (List D)} (hS : SlD 1 rows x) (hz : (rows.length : Int) = sz) (ho : ∀ (d : Nat) (S : St), 2 ≤ d → runF LP NN d 120 [.agg [.int .u8 4, .int .u8 us, .str pic, .int .i64 dg, .int .i64 sc, .bool sg, .bool le, .bool se, .bool ju, .bool bl, .int .i64 sz]] S = some (.agg [.fn fr [], .fn fw []], S, false)) (hr : ∀ (d : Nat) (S : St), 6 ≤ d → runF LP NN d fr [.agg [.int .u8 4, .int .u8 us, .str pic, .int .i64 dg, .int .i64 sc, .bool sg, .bool le, .bool se, .bool ju, .bool bl, .int .i64 sz], x] S = some (.tup [.agg [.bool ng, .str (mkS l)], .bool true], S, false)) : runF LP NN d 81 [.agg [.int .u8 4, .int .u8 us, .str pic, .int .i64 dg, .int .i64 sc, .bool sg, .bool le, .bool se, .bool ju, .bool bl, .int .i64 sz, x]] S = some (.tup [.agg [.bool ng, .str (mkS l)], .int .i64 0], S, false) := by
 refine run_pure (F := F81) rfl (by simp only [LP, fnOf, snapVs, snaps, zs, Bool.false_eq_true, if_false, Option.map_some, List.map_cons, List.map_nil, hS.snap, hS.freeV, hS.free] <;> exact rfl) rfl (by simp only [LP, zf, List.all_cons, List.all_nil, Bool.and_true, Bool.true_and, hS.snap, hS.freeV, hS.free]; try rfl) (by simp only [F81, zv] <;> exact rfl) (by omega) ?_
 rintro d rfl
 refine cw_seq (cw_region ?_)
 refine ow_op (by simp only [zl, zm, zc, mkS_toList, nil_toList, mkS_size, hS.isCell, hS.val, hS.cells, hS.len, hS.plain, hz, bne_self_eq_false] <;> exact rfl) ?_
 refine ow_op (by simp only [zl, zm, mkS_toList, nil_toList, mkS_size, hS.isCell, hS.val, hS.cells, hS.len, hS.plain, hz, bne_self_eq_false] <;> exact rfl) ?_
 refine ow_mc ?_
 refine ow_nil ?_
 refine sk_n (by simp only [ze] <;> exact rfl) ?_
 refine cw_seq (cw_seq (cw_region ?_))
 refine ow_op (by simp only [zo, faddrD_ptr, faddrD_cptr, zm, mkS_toList, nil_toList, mkS_size, hS.isCell, hS.val, hS.cells, hS.len, hS.plain, hz, bne_self_eq_false] <;> exact rfl) ?_
 refine ow_op (by simp only [zl, zm, zd, partD, List.take, List.drop, mkS_toList, nil_toList, mkS_size, hS.isCell, hS.val, hS.cells, hS.len, hS.plain, hz, bne_self_eq_false] <;> exact rfl) ?_
 refine ow_op (by simp only [zo, lenD_str, lenD_nils, lenD_sl, lenD_msl, mkS_toList, nil_toList, mkS_size, hS.isCell, hS.val, hS.cells, hS.len, hS.plain, hz, bne_self_eq_false] <;> exact rfl) ?_
 refine ow_op (by simp only [zo, faddrD_ptr, faddrD_cptr, zm, mkS_toList, nil_toList, mkS_size, hS.isCell, hS.val, hS.cells, hS.len, hS.plain, hz, bne_self_eq_false] <;> exact rfl) ?_
 refine ow_op (by simp only [zo, faddrD_ptr, faddrD_cptr, zm, mkS_toList, nil_toList, mkS_size, hS.isCell, hS.val, hS.cells, hS.len, hS.plain, hz, bne_self_eq_false] <;> exact rfl) ?_
 refine ow_op (by simp only [zl, zm, zd, partD, List.take, List.drop, mkS_toList, nil_toList, mkS_size, hS.isCell, hS.val, hS.cells, hS.len, hS.plain, hz, bne_self_eq_false] <;> exact rfl) ?_
 refine ow_op (by simp only [zo, binD, zb, Int.reduceEq, Int.reduceToNat, Int.reduceLT, mkS_toList, nil_toList, mkS_size, hS.isCell, hS.val, hS.cells, hS.len, hS.plain, hz, bne_self_eq_false] <;> exact rfl) ?_
 refine ow_nil ?_
 refine sk_n (by simp only [ze] <;> exact rfl) ?_
 skip
 refine cw_false (by simp only [opd, zv, mkS_toList, nil_toList, mkS_size, hS.isCell, hS.val, hS.cells, hS.len, hS.plain, hz, bne_self_eq_false] <;> rfl) ?_
 refine cw_skip (sk_n rfl (cw_seq (cw_seq (cw_region ?_))))
 refine ow_op (by simp only [zo, faddrD_ptr, faddrD_cptr, zm, mkS_toList, nil_toList, mkS_size, hS.isCell, hS.val, hS.cells, hS.len, hS.plain, hz, bne_self_eq_false] <;> exact rfl) ?_
 refine ow_op (by simp only [zo, faddrD_ptr, faddrD_cptr, zm, mkS_toList, nil_toList, mkS_size, hS.isCell, hS.val, hS.cells, hS.len, hS.plain, hz, bne_self_eq_false] <;> exact rfl) ?_
 refine ow_op (by simp only [zl, zm, zd, partD, List.take, List.drop, mkS_toList, nil_toList, mkS_size, hS.isCell, hS.val, hS.cells, hS.len, hS.plain, hz, bne_self_eq_false] <;> exact rfl) ?_
 refine ow_op (by simp only [zo, binD, zb, Int.reduceEq, Int.reduceToNat, Int.reduceLT, mkS_toList, nil_toList, mkS_size, hS.isCell, hS.val, hS.cells, hS.len, hS.plain, hz, bne_self_eq_false] <;> exact rfl) ?_
 refine ow_nil ?_
 refine sk_n (by simp only [ze] <;> exact rfl) ?_
 skip
 refine cw_false (by simp only [opd, zv, mkS_toList, nil_toList, mkS_size, hS.isCell, hS.val, hS.cells, hS.len, hS.plain, hz, bne_self_eq_false] <;> rfl) ?_
 refine cw_skip (sk_n rfl (cw_seq ?_))
 refine cw_drawn (by simp only [newsVals, zw, Nat.reduceAdd] <;> exact rfl) (by simp only [zw, newsObj, St.eta] <;> exact rfl) ?_
 refine dw_quiet (by simp only [zo, faddrD_ptr, faddrD_cptr, zm, mkS_toList, nil_toList, mkS_size, hS.isCell, hS.val, hS.cells, hS.len, hS.plain, hz, bne_self_eq_false] <;> exact rfl) rfl rfl ?_
 refine dw_op (by simp only [zl, zm, zd, partD, List.take, List.drop, mkS_toList, nil_toList, mkS_size, hS.isCell, hS.val, hS.cells, hS.len, hS.plain, hz, bne_self_eq_false] <;> exact rfl) (by simp only [fpHere, zo, zq] <;> exact rfl) rfl ?_
 refine dw_op (by simp only [zo, mkS_toList, nil_toList, mkS_size, hS.isCell, hS.val, hS.cells, hS.len, hS.plain, hz, bne_self_eq_false]; exact ho _ _ (by omega)) (by simp only [fpHere, zo, zq] <;> exact rfl) rfl ?_
 refine dw_quiet (by simp only [zo, partD, List.take, List.drop, zm, mkS_toList, nil_toList, mkS_size, hS.isCell, hS.val, hS.cells, hS.len, hS.plain, hz, bne_self_eq_false] <;> exact rfl) rfl rfl ?_
 refine dw_quiet (by simp only [zo, faddrD_ptr, faddrD_cptr, zm, mkS_toList, nil_toList, mkS_size, hS.isCell, hS.val, hS.cells, hS.len, hS.plain, hz, bne_self_eq_false] <;> exact rfl) rfl rfl ?_
 refine dw_op (by simp only [zl, zm, zd, partD, List.take, List.drop, mkS_toList, nil_toList, mkS_size, hS.isCell, hS.val, hS.cells, hS.len, hS.plain, hz, bne_self_eq_false] <;> exact rfl) (by simp only [fpHere, zo, zq] <;> exact rfl) rfl ?_
 refine dw_quiet (by simp only [zo, faddrD_ptr, faddrD_cptr, zm, mkS_toList, nil_toList, mkS_size, hS.isCell, hS.val, hS.cells, hS.len, hS.plain, hz, bne_self_eq_false] <;> exact rfl) rfl rfl ?_
 refine dw_op (by simp only [zl, zm, zd, partD, List.take, List.drop, mkS_toList, nil_toList, mkS_size, hS.isCell, hS.val, hS.cells, hS.len, hS.plain, hz, bne_self_eq_false] <;> exact rfl) (by simp only [fpHere, zo, zq] <;> exact rfl) rfl ?_
 refine dw_op (by simp only [zo, mkS_toList, nil_toList, mkS_size, hS.isCell, hS.val, hS.cells, hS.len, hS.plain, hz, bne_self_eq_false]; exact hr _ _ (by omega)) (by simp only [fpHere, zo, zq] <;> exact rfl) rfl ?_
 refine dw_ml rfl rfl ?_
 refine dw_quiet (by simp only [zo, List.getElem?_cons_zero, List.getElem?_cons_succ, mkS_toList, nil_toList, mkS_size, hS.isCell, hS.val, hS.cells, hS.len, hS.plain, hz, bne_self_eq_false] <;> exact rfl) rfl rfl ?_
 refine dw_quiet (by simp only [zo, List.getElem?_cons_zero, List.getElem?_cons_succ, mkS_toList, nil_toList, mkS_size, hS.isCell, hS.val, hS.cells, hS.len, hS.plain, hz, bne_self_eq_false] <;> exact rfl) rfl rfl ?_
 refine dw_op (by simp only [zo] <;> exact rfl) rfl rfl ?_
 refine dw_op (by simp only [zl, zm, storeD, overlay, snapVs, snaps, zs, zc, zf, List.take, List.drop, mkS_toList, nil_toList, mkS_size, hS.isCell, hS.val, hS.cells, hS.len, hS.plain, hz, bne_self_eq_false] <;> exact rfl) (by simp only [fpHere, zo, zq] <;> exact rfl) rfl ?_
 refine dw_ml rfl rfl ?_
 refine dw_nil ?_
 refine sk_n (by simp only [ze] <;> exact rfl) ?_
 refine cw_seq (cw_seq (cw_region ?_))
 refine ow_me rfl ?_
 refine ow_op (by simp only [zo, unD, mkS_toList, nil_toList, mkS_size, hS.isCell, hS.val, hS.cells, hS.len, hS.plain, hz, bne_self_eq_false] <;> exact rfl) ?_
 refine ow_nil ?_
 refine sk_n (by simp only [ze] <;> exact rfl) ?_
 skip
 refine cw_false (by simp only [opd, zv, mkS_toList, nil_toList, mkS_size, hS.isCell, hS.val, hS.cells, hS.len, hS.plain, hz, bne_self_eq_false] <;> rfl) ?_
 refine cw_skip (sk_n rfl (cw_seq (cw_region ?_)))
 refine ow_op (by simp only [zl, zm, zd, partD, List.take, List.drop, mkS_toList, nil_toList, mkS_size, hS.isCell, hS.val, hS.cells, hS.len, hS.plain, hz, bne_self_eq_false] <;> exact rfl) ?_
 refine ow_op (by simp only [zl, zm, storeD, overlay, snapVs, snaps, zs, zc, zf, List.take, List.drop, mkS_toList, nil_toList, mkS_size, hS.isCell, hS.val, hS.cells, hS.len, hS.plain, hz, bne_self_eq_false] <;> exact rfl) ?_
 refine ow_mc ?_
 refine ow_nil ?_
 refine sk_n (by simp only [ze] <;> exact rfl) ?_
 refine cw_ret ?_
 refine ⟨_, by simp only [F81, resultD, resDs, resD, List.getD_cons_zero, List.getD_cons_succ, zd, rowsOf, partD, List.getElem?_cons_zero, List.getElem?_cons_succ, if_true, if_false, Bool.false_eq_true, List.take, List.drop, zm] <;> exact rfl, ?_⟩
 simp only [leaveP, leave, snapVs, snaps, zs, zf, zk]

theorem read_false {d : Nat} (hd : 7 ≤ d) (S : St) (us : Int) (pic : ByteArray) (dg sc sz : Int) (sg le se ju bl : Bool) (fr fw : FuncId) (ng : Bool) (l : List UInt8) {x : D} {rows : List (List D)} (hS : SlD 1 rows x) (hz : (rows.length : Int) = sz) (ho : ∀ (d : Nat) (S : St), 2 ≤ d → runF LP NN d 120 [.agg [.int .u8 4, .int .u8 us, .str pic, .int .i64 dg, .int .i64 sc, .bool sg, .bool le, .bool se, .bool ju, .bool bl, .int .i64 sz]] S = some (.agg [.fn fr [], .fn fw []], S, false)) (hr : ∀ (d : Nat) (S : St), 6 ≤ d → runF LP NN d fr [.agg [.int .u8 4, .int .u8 us, .str pic, .int .i64 dg, .int .i64 sc, .bool sg, .bool le, .bool se, .bool ju, .bool bl, .int .i64 sz], x] S = some (.tup [.agg [.bool ng, .str (mkS l)], .bool false], S, false)) : runF LP NN d 81 [.agg [.int .u8 4, .int .u8 us, .str pic, .int .i64 dg, .int .i64 sc, .bool sg, .bool le, .bool se, .bool ju, .bool bl, .int .i64 sz, x]] S = some (.tup [.agg [.bool false, .str ⟨#[]⟩], .int .i64 15], S, false) := by
 refine run_pure (F := F81) rfl (by simp only [LP, fnOf, snapVs, snaps, zs, Bool.false_eq_true, if_false, Option.map_some, List.map_cons, List.map_nil, hS.snap, hS.freeV, hS.free] <;> exact rfl) rfl (by simp only [LP, zf, List.all_cons, List.all_nil, Bool.and_true, Bool.true_and, hS.snap, hS.freeV, hS.free]; try rfl) (by simp only [F81, zv] <;> exact rfl) (by omega) ?_
 rintro d rfl
 refine cw_seq (cw_region ?_)
 refine ow_op (by simp only [zl, zm, zc, mkS_toList, nil_toList, mkS_size, hS.isCell, hS.val, hS.cells, hS.len, hS.plain, hz, bne_self_eq_false] <;> exact rfl) ?_
 refine ow_op (by simp only [zl, zm, mkS_toList, nil_toList, mkS_size, hS.isCell, hS.val, hS.cells, hS.len, hS.plain, hz, bne_self_eq_false] <;> exact rfl) ?_
 refine ow_mc ?_
 refine ow_nil ?_
 refine sk_n (by simp only [ze] <;> exact rfl) ?_
 refine cw_seq (cw_seq (cw_region ?_))
 refine ow_op (by simp only [zo, faddrD_ptr, faddrD_cptr, zm, mkS_toList, nil_toList, mkS_size, hS.isCell, hS.val, hS.cells, hS.len, hS.plain, hz, bne_self_eq_false] <;> exact rfl) ?_
 refine ow_op (by simp only [zl, zm, zd, partD, List.take, List.drop, mkS_toList, nil_toList, mkS_size, hS.isCell, hS.val, hS.cells, hS.len, hS.plain, hz, bne_self_eq_false] <;> exact rfl) ?_
 refine ow_op (by simp only [zo, lenD_str, lenD_nils, lenD_sl, lenD_msl, mkS_toList, nil_toList, mkS_size, hS.isCell, hS.val, hS.cells, hS.len, hS.plain, hz, bne_self_eq_false] <;> exact rfl) ?_
 refine ow_op (by simp only [zo, faddrD_ptr, faddrD_cptr, zm, mkS_toList, nil_toList, mkS_size, hS.isCell, hS.val, hS.cells, hS.len, hS.plain, hz, bne_self_eq_false] <;> exact rfl) ?_
 refine ow_op (by simp only [zo, faddrD_ptr, faddrD_cptr, zm, mkS_toList, nil_toList, mkS_size, hS.isCell, hS.val, hS.cells, hS.len, hS.plain, hz, bne_self_eq_false] <;> exact rfl) ?_
 refine ow_op (by simp only [zl, zm, zd, partD, List.take, List.drop, mkS_toList, nil_toList, mkS_size, hS.isCell, hS.val, hS.cells, hS.len, hS.plain, hz, bne_self_eq_false] <;> exact rfl) ?_
 refine ow_op (by simp only [zo, binD, zb, Int.reduceEq, Int.reduceToNat, Int.reduceLT, mkS_toList, nil_toList, mkS_size, hS.isCell, hS.val, hS.cells, hS.len, hS.plain, hz, bne_self_eq_false] <;> exact rfl) ?_
 refine ow_nil ?_
 refine sk_n (by simp only [ze] <;> exact rfl) ?_
 skip
 refine cw_false (by simp only [opd, zv, mkS_toList, nil_toList, mkS_size, hS.isCell, hS.val, hS.cells, hS.len, hS.plain, hz, bne_self_eq_false] <;> rfl) ?_
 refine cw_skip (sk_n rfl (cw_seq (cw_seq (cw_region ?_))))
 refine ow_op (by simp only [zo, faddrD_ptr, faddrD_cptr, zm, mkS_toList, nil_toList, mkS_size, hS.isCell, hS.val, hS.cells, hS.len, hS.plain, hz, bne_self_eq_false] <;> exact rfl) ?_
 refine ow_op (by simp only [zo, faddrD_ptr, faddrD_cptr, zm, mkS_toList, nil_toList, mkS_size, hS.isCell, hS.val, hS.cells, hS.len, hS.plain, hz, bne_self_eq_false] <;> exact rfl) ?_
 refine ow_op (by simp only [zl, zm, zd, partD, List.take, List.drop, mkS_toList, nil_toList, mkS_size, hS.isCell, hS.val, hS.cells, hS.len, hS.plain, hz, bne_self_eq_false] <;> exact rfl) ?_
 refine ow_op (by simp only [zo, binD, zb, Int.reduceEq, Int.reduceToNat, Int.reduceLT, mkS_toList, nil_toList, mkS_size, hS.isCell, hS.val, hS.cells, hS.len, hS.plain, hz, bne_self_eq_false] <;> exact rfl) ?_
 refine ow_nil ?_
 refine sk_n (by simp only [ze] <;> exact rfl) ?_
 skip
 refine cw_false (by simp only [opd, zv, mkS_toList, nil_toList, mkS_size, hS.isCell, hS.val, hS.cells, hS.len, hS.plain, hz, bne_self_eq_false] <;> rfl) ?_
 refine cw_skip (sk_n rfl (cw_seq ?_))
 refine cw_drawn (by simp only [newsVals, zw, Nat.reduceAdd] <;> exact rfl) (by simp only [zw, newsObj, St.eta] <;> exact rfl) ?_
 refine dw_quiet (by simp only [zo, faddrD_ptr, faddrD_cptr, zm, mkS_toList, nil_toList, mkS_size, hS.isCell, hS.val, hS.cells, hS.len, hS.plain, hz, bne_self_eq_false] <;> exact rfl) rfl rfl ?_
 refine dw_op (by simp only [zl, zm, zd, partD, List.take, List.drop, mkS_toList, nil_toList, mkS_size, hS.isCell, hS.val, hS.cells, hS.len, hS.plain, hz, bne_self_eq_false] <;> exact rfl) (by simp only [fpHere, zo, zq] <;> exact rfl) rfl ?_
 refine dw_op (by simp only [zo, mkS_toList, nil_toList, mkS_size, hS.isCell, hS.val, hS.cells, hS.len, hS.plain, hz, bne_self_eq_false]; exact ho _ _ (by omega)) (by simp only [fpHere, zo, zq] <;> exact rfl) rfl ?_
 refine dw_quiet (by simp only [zo, partD, List.take, List.drop, zm, mkS_toList, nil_toList, mkS_size, hS.isCell, hS.val, hS.cells, hS.len, hS.plain, hz, bne_self_eq_false] <;> exact rfl) rfl rfl ?_
 refine dw_quiet (by simp only [zo, faddrD_ptr, faddrD_cptr, zm, mkS_toList, nil_toList, mkS_size, hS.isCell, hS.val, hS.cells, hS.len, hS.plain, hz, bne_self_eq_false] <;> exact rfl) rfl rfl ?_
 refine dw_op (by simp only [zl, zm, zd, partD, List.take, List.drop, mkS_toList, nil_toList, mkS_size, hS.isCell, hS.val, hS.cells, hS.len, hS.plain, hz, bne_self_eq_false] <;> exact rfl) (by simp only [fpHere, zo, zq] <;> exact rfl) rfl ?_
 refine dw_quiet (by simp only [zo, faddrD_ptr, faddrD_cptr, zm, mkS_toList, nil_toList, mkS_size, hS.isCell, hS.val, hS.cells, hS.len, hS.plain, hz, bne_self_eq_false] <;> exact rfl) rfl rfl ?_
 refine dw_op (by simp only [zl, zm, zd, partD, List.take, List.drop, mkS_toList, nil_toList, mkS_size, hS.isCell, hS.val, hS.cells, hS.len, hS.plain, hz, bne_self_eq_false] <;> exact rfl) (by simp only [fpHere, zo, zq] <;> exact rfl) rfl ?_
 refine dw_op (by simp only [zo, mkS_toList, nil_toList, mkS_size, hS.isCell, hS.val, hS.cells, hS.len, hS.plain, hz, bne_self_eq_false]; exact hr _ _ (by omega)) (by simp only [fpHere, zo, zq] <;> exact rfl) rfl ?_
 refine dw_ml rfl rfl ?_
 refine dw_quiet (by simp only [zo, List.getElem?_cons_zero, List.getElem?_cons_succ, mkS_toList, nil_toList, mkS_size, hS.isCell, hS.val, hS.cells, hS.len, hS.plain, hz, bne_self_eq_false] <;> exact rfl) rfl rfl ?_
 refine dw_quiet (by simp only [zo, List.getElem?_cons_zero, List.getElem?_cons_succ, mkS_toList, nil_toList, mkS_size, hS.isCell, hS.val, hS.cells, hS.len, hS.plain, hz, bne_self_eq_false] <;> exact rfl) rfl rfl ?_
 refine dw_op (by simp only [zo] <;> exact rfl) rfl rfl ?_
 refine dw_op (by simp only [zl, zm, storeD, overlay, snapVs, snaps, zs, zc, zf, List.take, List.drop, mkS_toList, nil_toList, mkS_size, hS.isCell, hS.val, hS.cells, hS.len, hS.plain, hz, bne_self_eq_false] <;> exact rfl) (by simp only [fpHere, zo, zq] <;> exact rfl) rfl ?_
 refine dw_ml rfl rfl ?_
 refine dw_nil ?_
 refine sk_n (by simp only [ze] <;> exact rfl) ?_
 refine cw_seq (cw_seq (cw_region ?_))
 refine ow_me rfl ?_
 refine ow_op (by simp only [zo, unD, mkS_toList, nil_toList, mkS_size, hS.isCell, hS.val, hS.cells, hS.len, hS.plain, hz, bne_self_eq_false] <;> exact rfl) ?_
 refine ow_nil ?_
 refine sk_n (by simp only [ze] <;> exact rfl) ?_
 skip
 refine cw_true (by simp only [opd, zv, mkS_toList, nil_toList, mkS_size, hS.isCell, hS.val, hS.cells, hS.len, hS.plain, hz, bne_self_eq_false] <;> rfl) ?_
 refine cw_seq (cw_region ?_)
 refine ow_op (by simp only [zo, fillD, overlay, zc, List.take, List.drop, Nat.reduceAdd, Nat.reduceLeDiff, Nat.reduceBEq, zm, mkS_toList, nil_toList, mkS_size, hS.isCell, hS.val, hS.cells, hS.len, hS.plain, hz, bne_self_eq_false] <;> exact rfl) ?_
 refine ow_op (by simp only [zl, zm, storeD, overlay, snapVs, snaps, zs, zc, zf, List.take, List.drop, mkS_toList, nil_toList, mkS_size, hS.isCell, hS.val, hS.cells, hS.len, hS.plain, hz, bne_self_eq_false] <;> exact rfl) ?_
 refine ow_mc ?_
 refine ow_nil ?_
 refine sk_n (by simp only [ze] <;> exact rfl) ?_
 refine cw_ret (sk_r ?_)
 refine ⟨_, by simp only [F81, resultD, resDs, resD, List.getD_cons_zero, List.getD_cons_succ, zd, rowsOf, partD, List.getElem?_cons_zero, List.getElem?_cons_succ, if_true, if_false, Bool.false_eq_true, List.take, List.drop, zm] <;> exact rfl, ?_⟩
 simp only [leaveP, leave, snapVs, snaps, zs, zf, zk]

end Go.Proofs.YtabgobmeibjeeaaGreatDoor

namespace Go.Proofs.YtabgobmeibjeeaaGreatDoor
set_option linter.unusedSimpArgs false
set_option linter.unusedVariables false
set_option maxRecDepth 10000

theorem uCheck_true {d : Nat} (hd : 14 ≤ d) (S : St) (us : Int) (pic : ByteArray) (dg sc sz : Int) (sg le se ju bl : Bool) (fr fw : FuncId) (ng : Bool) (l : List UInt8) {x : D} {rows : List (List D)} (hS : SlD 1 rows x) (hz : (rows.length : Int) = sz) (ho : ∀ (d : Nat) (S : St), 2 ≤ d → runF LP NN d 120 [.agg [.int .u8 4, .int .u8 us, .str pic, .int .i64 dg, .int .i64 sc, .bool sg, .bool le, .bool se, .bool ju, .bool bl, .int .i64 sz]] S = some (.agg [.fn fr [], .fn fw []], S, false)) (hr : ∀ (d : Nat) (S : St), 6 ≤ d → runF LP NN d fr [.agg [.int .u8 4, .int .u8 us, .str pic, .int .i64 dg, .int .i64 sc, .bool sg, .bool le, .bool se, .bool ju, .bool bl, .int .i64 sz], x] S = some (.tup [.agg [.bool ng, .str (mkS l)], .bool true], S, false)) (hc : ∀ (d : Nat) (S : St), 12 ≤ d → runF LP NN d 117 [.agg [.int .u8 4, .int .u8 us, .str pic, .int .i64 dg, .int .i64 sc, .bool sg, .bool le, .bool se, .bool ju, .bool bl, .int .i64 sz]] S = some (.int .i64 0, S, false)) : runF LP NN d 78 [.agg [.int .u8 4, .int .u8 us, .str pic, .int .i64 dg, .int .i64 sc, .bool sg, .bool le, .bool se, .bool ju, .bool bl, .int .i64 sz, x]] S = some (.int .i64 0, S, false) := by
 refine run_pure (F := F78) rfl (by simp only [LP, fnOf, snapVs, snaps, zs, Bool.false_eq_true, if_false, Option.map_some, List.map_cons, List.map_nil, hS.snap, hS.freeV, hS.free] <;> exact rfl) rfl (by simp only [LP, zf, List.all_cons, List.all_nil, Bool.and_true, Bool.true_and, hS.snap, hS.freeV, hS.free]; try rfl) (by simp only [F78, zv] <;> exact rfl) (by omega) ?_
 rintro d rfl
 refine cw_seq (cw_region ?_)
 refine ow_op (by simp only [zl, zm, zc, mkS_toList, nil_toList, mkS_size, hS.isCell, hS.val, hS.cells, hS.len, hS.plain] <;> exact rfl) ?_
 refine ow_mc ?_
 refine ow_nil ?_
 refine sk_n (by simp only [ze] <;> exact rfl) ?_
 refine cw_seq (cw_seq (cw_region ?_))
 refine ow_op (by simp only [zo, faddrD_ptr, faddrD_cptr, zm, mkS_toList, nil_toList, mkS_size, hS.isCell, hS.val, hS.cells, hS.len, hS.plain] <;> exact rfl) ?_
 refine ow_op (by simp only [zl, zm, zd, partD, List.take, List.drop, mkS_toList, nil_toList, mkS_size, hS.isCell, hS.val, hS.cells, hS.len, hS.plain] <;> exact rfl) ?_
 refine ow_op (by simp only [zo, mkS_toList, nil_toList, mkS_size, hS.isCell, hS.val, hS.cells, hS.len, hS.plain]; exact hc _ _ (by omega)) ?_
 refine ow_op (by simp only [zo, binD, zb, Int.reduceEq, Int.reduceToNat, Int.reduceLT, mkS_toList, nil_toList, mkS_size, hS.isCell, hS.val, hS.cells, hS.len, hS.plain] <;> exact rfl) ?_
 refine ow_nil ?_
 refine sk_n (by simp only [ze] <;> exact rfl) ?_
 skip
 refine cw_false (by simp only [opd, zv, mkS_toList, nil_toList, mkS_size, hS.isCell, hS.val, hS.cells, hS.len, hS.plain] <;> rfl) ?_
 refine cw_skip (sk_n rfl (cw_seq (cw_region ?_)))
 refine ow_op (by simp only [zl, zm, zd, partD, List.take, List.drop, mkS_toList, nil_toList, mkS_size, hS.isCell, hS.val, hS.cells, hS.len, hS.plain] <;> exact rfl) ?_
 refine ow_op (by simp only [zo, mkS_toList, nil_toList, mkS_size, hS.isCell, hS.val, hS.cells, hS.len, hS.plain]; exact read_true (by omega) _ us pic dg sc sz sg le se ju bl fr fw ng l hS hz ho hr) ?_
 refine ow_ml rfl ?_
 refine ow_op (by simp only [zo, List.getElem?_cons_zero, List.getElem?_cons_succ, mkS_toList, nil_toList, mkS_size, hS.isCell, hS.val, hS.cells, hS.len, hS.plain] <;> exact rfl) ?_
 refine ow_op (by simp only [zo, List.getElem?_cons_zero, List.getElem?_cons_succ, mkS_toList, nil_toList, mkS_size, hS.isCell, hS.val, hS.cells, hS.len, hS.plain] <;> exact rfl) ?_
 refine ow_op (by simp only [zl, zm, mkS_toList, nil_toList, mkS_size, hS.isCell, hS.val, hS.cells, hS.len, hS.plain] <;> exact rfl) ?_
 refine ow_op (by simp only [zl, zm, storeD, overlay, snapVs, snaps, zs, zc, zf, List.take, List.drop, mkS_toList, nil_toList, mkS_size, hS.isCell, hS.val, hS.cells, hS.len, hS.plain] <;> exact rfl) ?_
 refine ow_ml rfl ?_
 refine ow_nil ?_
 refine sk_n (by simp only [ze] <;> exact rfl) ?_
 refine cw_seq (cw_region ?_)
 refine ow_me rfl ?_
 refine ow_ml rfl ?_
 refine ow_nil ?_
 refine sk_n (by simp only [ze] <;> exact rfl) ?_
 refine cw_ret ?_
 refine ⟨_, by simp only [F78, resultD, resDs, resD, List.getD_cons_zero, List.getD_cons_succ, zd, rowsOf, partD, List.getElem?_cons_zero, List.getElem?_cons_succ, if_true, if_false, Bool.false_eq_true, List.take, List.drop, zm] <;> exact rfl, ?_⟩
 simp only [leaveP, leave, snapVs, snaps, zs, zf, zk]

theorem uCheck_false {d : Nat} (hd : 14 ≤ d) (S : St) (us : Int) (pic : ByteArray) (dg sc sz : Int) (sg le se ju bl : Bool) (fr fw : FuncId) (ng : Bool) (l : List UInt8) {x : D} {rows : List (List D)} (hS : SlD 1 rows x) (hz : (rows.length : Int) = sz) (ho : ∀ (d : Nat) (S : St), 2 ≤ d → runF LP NN d 120 [.agg [.int .u8 4, .int .u8 us, .str pic, .int .i64 dg, .int .i64 sc, .bool sg, .bool le, .bool se, .bool ju, .bool bl, .int .i64 sz]] S = some (.agg [.fn fr [], .fn fw []], S, false)) (hr : ∀ (d : Nat) (S : St), 6 ≤ d → runF LP NN d fr [.agg [.int .u8 4, .int .u8 us, .str pic, .int .i64 dg, .int .i64 sc, .bool sg, .bool le, .bool se, .bool ju, .bool bl, .int .i64 sz], x] S = some (.tup [.agg [.bool ng, .str (mkS l)], .bool false], S, false)) (hc : ∀ (d : Nat) (S : St), 12 ≤ d → runF LP NN d 117 [.agg [.int .u8 4, .int .u8 us, .str pic, .int .i64 dg, .int .i64 sc, .bool sg, .bool le, .bool se, .bool ju, .bool bl, .int .i64 sz]] S = some (.int .i64 0, S, false)) : runF LP NN d 78 [.agg [.int .u8 4, .int .u8 us, .str pic, .int .i64 dg, .int .i64 sc, .bool sg, .bool le, .bool se, .bool ju, .bool bl, .int .i64 sz, x]] S = some (.int .i64 15, S, false) := by
 refine run_pure (F := F78) rfl (by simp only [LP, fnOf, snapVs, snaps, zs, Bool.false_eq_true, if_false, Option.map_some, List.map_cons, List.map_nil, hS.snap, hS.freeV, hS.free] <;> exact rfl) rfl (by simp only [LP, zf, List.all_cons, List.all_nil, Bool.and_true, Bool.true_and, hS.snap, hS.freeV, hS.free]; try rfl) (by simp only [F78, zv] <;> exact rfl) (by omega) ?_
 rintro d rfl
 refine cw_seq (cw_region ?_)
 refine ow_op (by simp only [zl, zm, zc, mkS_toList, nil_toList, mkS_size, hS.isCell, hS.val, hS.cells, hS.len, hS.plain] <;> exact rfl) ?_
 refine ow_mc ?_
 refine ow_nil ?_
 refine sk_n (by simp only [ze] <;> exact rfl) ?_
 refine cw_seq (cw_seq (cw_region ?_))
 refine ow_op (by simp only [zo, faddrD_ptr, faddrD_cptr, zm, mkS_toList, nil_toList, mkS_size, hS.isCell, hS.val, hS.cells, hS.len, hS.plain] <;> exact rfl) ?_
 refine ow_op (by simp only [zl, zm, zd, partD, List.take, List.drop, mkS_toList, nil_toList, mkS_size, hS.isCell, hS.val, hS.cells, hS.len, hS.plain] <;> exact rfl) ?_
 refine ow_op (by simp only [zo, mkS_toList, nil_toList, mkS_size, hS.isCell, hS.val, hS.cells, hS.len, hS.plain]; exact hc _ _ (by omega)) ?_
 refine ow_op (by simp only [zo, binD, zb, Int.reduceEq, Int.reduceToNat, Int.reduceLT, mkS_toList, nil_toList, mkS_size, hS.isCell, hS.val, hS.cells, hS.len, hS.plain] <;> exact rfl) ?_
 refine ow_nil ?_
 refine sk_n (by simp only [ze] <;> exact rfl) ?_
 skip
 refine cw_false (by simp only [opd, zv, mkS_toList, nil_toList, mkS_size, hS.isCell, hS.val, hS.cells, hS.len, hS.plain] <;> rfl) ?_
 refine cw_skip (sk_n rfl (cw_seq (cw_region ?_)))
 refine ow_op (by simp only [zl, zm, zd, partD, List.take, List.drop, mkS_toList, nil_toList, mkS_size, hS.isCell, hS.val, hS.cells, hS.len, hS.plain] <;> exact rfl) ?_
 refine ow_op (by simp only [zo, mkS_toList, nil_toList, mkS_size, hS.isCell, hS.val, hS.cells, hS.len, hS.plain]; exact read_false (by omega) _ us pic dg sc sz sg le se ju bl fr fw ng l hS hz ho hr) ?_
 refine ow_ml rfl ?_
 refine ow_op (by simp only [zo, List.getElem?_cons_zero, List.getElem?_cons_succ, mkS_toList, nil_toList, mkS_size, hS.isCell, hS.val, hS.cells, hS.len, hS.plain] <;> exact rfl) ?_
 refine ow_op (by simp only [zo, List.getElem?_cons_zero, List.getElem?_cons_succ, mkS_toList, nil_toList, mkS_size, hS.isCell, hS.val, hS.cells, hS.len, hS.plain] <;> exact rfl) ?_
 refine ow_op (by simp only [zl, zm, mkS_toList, nil_toList, mkS_size, hS.isCell, hS.val, hS.cells, hS.len, hS.plain] <;> exact rfl) ?_
 refine ow_op (by simp only [zl, zm, storeD, overlay, snapVs, snaps, zs, zc, zf, List.take, List.drop, mkS_toList, nil_toList, mkS_size, hS.isCell, hS.val, hS.cells, hS.len, hS.plain] <;> exact rfl) ?_
 refine ow_ml rfl ?_
 refine ow_nil ?_
 refine sk_n (by simp only [ze] <;> exact rfl) ?_
 refine cw_seq (cw_region ?_)
 refine ow_me rfl ?_
 refine ow_ml rfl ?_
 refine ow_nil ?_
 refine sk_n (by simp only [ze] <;> exact rfl) ?_
 refine cw_ret ?_
 refine ⟨_, by simp only [F78, resultD, resDs, resD, List.getD_cons_zero, List.getD_cons_succ, zd, rowsOf, partD, List.getElem?_cons_zero, List.getElem?_cons_succ, if_true, if_false, Bool.false_eq_true, List.take, List.drop, zm] <;> exact rfl, ?_⟩
 simp only [leaveP, leave, snapVs, snaps, zs, zf, zk]

theorem kind_run {d : Nat} (hd : 13 ≤ d) (S : St) (us : Int) (pic : ByteArray) (dg sc sz : Int) (sg le se ju bl : Bool) (hc : ∀ (d : Nat) (S : St), 12 ≤ d → runF LP NN d 117 [.agg [.int .u8 4, .int .u8 us, .str pic, .int .i64 dg, .int .i64 sc, .bool sg, .bool le, .bool se, .bool ju, .bool bl, .int .i64 sz]] S = some (.int .i64 0, S, false)) : runF LP NN d 80 [.agg [.int .u8 4, .int .u8 us, .str pic, .int .i64 dg, .int .i64 sc, .bool sg, .bool le, .bool se, .bool ju, .bool bl, .int .i64 sz]] S = some (.int .i64 0, S, false) := by
 refine run_pure (F := F80) rfl (by simp only [LP, fnOf, snapVs, snaps, zs, Bool.false_eq_true, if_false, Option.map_some, List.map_cons, List.map_nil] <;> exact rfl) rfl (by simp only [LP, zf, List.all_cons, List.all_nil, Bool.and_true, Bool.true_and]; try rfl) (by simp only [F80, zv] <;> exact rfl) (by omega) ?_
 rintro d rfl
 refine cw_seq (cw_region ?_)
 refine ow_op (by simp only [zl, zm, zc, mkS_toList, nil_toList, mkS_size] <;> exact rfl) ?_
 refine ow_mc ?_
 refine ow_nil ?_
 refine sk_n (by simp only [ze] <;> exact rfl) ?_
 refine cw_seq (cw_block (cw_seq (cw_region ?_)))
 refine ow_op (by simp only [zl, zm, zd, partD, List.take, List.drop, mkS_toList, nil_toList, mkS_size] <;> exact rfl) ?_
 refine ow_op (by simp only [zo, mkS_toList, nil_toList, mkS_size]; exact hc _ _ (by omega)) ?_
 refine ow_op (by simp only [zo, binD, zb, Int.reduceEq, Int.reduceToNat, Int.reduceLT, mkS_toList, nil_toList, mkS_size] <;> exact rfl) ?_
 refine ow_ml rfl ?_
 refine ow_nil ?_
 refine sk_n (by simp only [ze] <;> exact rfl) ?_
 skip
 refine cw_false (by simp only [opd, zv, mkS_toList, nil_toList, mkS_size] <;> rfl) ?_
 refine cw_seq (cw_region ?_)
 refine ow_op (by simp only [zo, faddrD_ptr, faddrD_cptr, zm, mkS_toList, nil_toList, mkS_size] <;> exact rfl) ?_
 refine ow_op (by simp only [zl, zm, zd, partD, List.take, List.drop, mkS_toList, nil_toList, mkS_size] <;> exact rfl) ?_
 refine ow_op (by simp only [zo, binD, zb, Int.reduceEq, Int.reduceToNat, Int.reduceLT, mkS_toList, nil_toList, mkS_size] <;> exact rfl) ?_
 refine ow_ml rfl ?_
 refine ow_nil ?_
 refine sk_n (by simp only [ze] <;> exact rfl) ?_
 skip
 refine cw_false (by simp only [opd, zv, mkS_toList, nil_toList, mkS_size] <;> rfl) ?_
 refine cw_skip (bk_n (sk_n rfl (cw_seq (cw_region ?_))))
 refine ow_mc ?_
 refine ow_nil ?_
 refine sk_n (by simp only [ze] <;> exact rfl) ?_
 refine cw_ret ?_
 refine ⟨_, by simp only [F80, resultD, resDs, resD, List.getD_cons_zero, List.getD_cons_succ, zd, rowsOf, partD, List.getElem?_cons_zero, List.getElem?_cons_succ, if_true, if_false, Bool.false_eq_true, List.take, List.drop, zm] <;> exact rfl, ?_⟩
 simp only [leaveP, leave, snapVs, snaps, zs, zf, zk]

theorem get_run {d : Nat} (hd : 14 ≤ d) (S : St) (us : Int) (pic : ByteArray) (dg sz : Int) (sg le se ju bl : Bool) (fr fw : FuncId) (ng : Bool) (l : List UInt8) {x : D} {rows : List (List D)} (hS : SlD 1 rows x) (hz : (rows.length : Int) = sz) (ho : ∀ (d : Nat) (S : St), 2 ≤ d → runF LP NN d 120 [.agg [.int .u8 4, .int .u8 us, .str pic, .int .i64 dg, .int .i64 0, .bool sg, .bool le, .bool se, .bool ju, .bool bl, .int .i64 sz]] S = some (.agg [.fn fr [], .fn fw []], S, false)) (hr : ∀ (d : Nat) (S : St), 6 ≤ d → runF LP NN d fr [.agg [.int .u8 4, .int .u8 us, .str pic, .int .i64 dg, .int .i64 0, .bool sg, .bool le, .bool se, .bool ju, .bool bl, .int .i64 sz], x] S = some (.tup [.agg [.bool ng, .str (mkS l)], .bool true], S, false)) (hc : ∀ (d : Nat) (S : St), 12 ≤ d → runF LP NN d 117 [.agg [.int .u8 4, .int .u8 us, .str pic, .int .i64 dg, .int .i64 0, .bool sg, .bool le, .bool se, .bool ju, .bool bl, .int .i64 sz]] S = some (.int .i64 0, S, false)) (hnum : isNum l = true) (h62 : l.length ≤ 62) : runF LP NN d 51 [.agg [.int .u8 4, .int .u8 us, .str pic, .int .i64 dg, .int .i64 0, .bool sg, .bool le, .bool se, .bool ju, .bool bl, .int .i64 sz, x]] S = some (.tup [.agg [.bool (ng && nz l), .str (mkS (strip l)), .int .i64 0], .int .i64 0], S, false) := by
 refine run_pure (F := F51) rfl (by simp only [LP, fnOf, snapVs, snaps, zs, Bool.false_eq_true, if_false, Option.map_some, List.map_cons, List.map_nil, hS.snap, hS.freeV, hS.free] <;> exact rfl) rfl (by simp only [LP, zf, List.all_cons, List.all_nil, Bool.and_true, Bool.true_and, hS.snap, hS.freeV, hS.free]; try rfl) (by simp only [F51, zv] <;> exact rfl) (by omega) ?_
 rintro d rfl
 refine cw_seq (cw_region ?_)
 refine ow_op (by simp only [zl, zm, zc, mkS_toList, nil_toList, mkS_size, hS.isCell, hS.val, hS.cells, hS.len, hS.plain] <;> exact rfl) ?_
 refine ow_op (by simp only [zl, zm, mkS_toList, nil_toList, mkS_size, hS.isCell, hS.val, hS.cells, hS.len, hS.plain] <;> exact rfl) ?_
 refine ow_mc ?_
 refine ow_nil ?_
 refine sk_n (by simp only [ze] <;> exact rfl) ?_
 refine cw_seq (cw_seq (cw_region ?_))
 refine ow_op (by simp only [zo, faddrD_ptr, faddrD_cptr, zm, mkS_toList, nil_toList, mkS_size, hS.isCell, hS.val, hS.cells, hS.len, hS.plain] <;> exact rfl) ?_
 refine ow_op (by simp only [zl, zm, zd, partD, List.take, List.drop, mkS_toList, nil_toList, mkS_size, hS.isCell, hS.val, hS.cells, hS.len, hS.plain] <;> exact rfl) ?_
 refine ow_op (by simp only [zo, mkS_toList, nil_toList, mkS_size, hS.isCell, hS.val, hS.cells, hS.len, hS.plain]; exact kind_run (by omega) _ us pic dg 0 sz sg le se ju bl hc) ?_
 refine ow_ml rfl ?_
 refine ow_nil ?_
 refine sk_n (by simp only [ze] <;> exact rfl) ?_
 refine cw_seq (cw_region ?_)
 refine ow_me rfl ?_
 refine ow_op (by simp only [zo, binD, zb, Int.reduceEq, Int.reduceToNat, Int.reduceLT, mkS_toList, nil_toList, mkS_size, hS.isCell, hS.val, hS.cells, hS.len, hS.plain] <;> exact rfl) ?_
 refine ow_nil ?_
 refine sk_n (by simp only [ze] <;> exact rfl) ?_
 skip
 refine cw_false (by simp only [opd, zv, mkS_toList, nil_toList, mkS_size, hS.isCell, hS.val, hS.cells, hS.len, hS.plain] <;> rfl) ?_
 refine cw_skip (sk_n rfl (cw_seq (cw_region ?_)))
 refine ow_op (by simp only [zl, zm, zd, partD, List.take, List.drop, mkS_toList, nil_toList, mkS_size, hS.isCell, hS.val, hS.cells, hS.len, hS.plain] <;> exact rfl) ?_
 refine ow_op (by simp only [zo, mkS_toList, nil_toList, mkS_size, hS.isCell, hS.val, hS.cells, hS.len, hS.plain]; exact read_true (by omega) _ us pic dg 0 sz sg le se ju bl fr fw ng l hS hz ho hr) ?_
 refine ow_ml rfl ?_
 refine ow_op (by simp only [zo, List.getElem?_cons_zero, List.getElem?_cons_succ, mkS_toList, nil_toList, mkS_size, hS.isCell, hS.val, hS.cells, hS.len, hS.plain] <;> exact rfl) ?_
 refine ow_op (by simp only [zo, List.getElem?_cons_zero, List.getElem?_cons_succ, mkS_toList, nil_toList, mkS_size, hS.isCell, hS.val, hS.cells, hS.len, hS.plain] <;> exact rfl) ?_
 refine ow_op (by simp only [zl, zm, mkS_toList, nil_toList, mkS_size, hS.isCell, hS.val, hS.cells, hS.len, hS.plain] <;> exact rfl) ?_
 refine ow_op (by simp only [zl, zm, storeD, overlay, snapVs, snaps, zs, zc, zf, List.take, List.drop, mkS_toList, nil_toList, mkS_size, hS.isCell, hS.val, hS.cells, hS.len, hS.plain] <;> exact rfl) ?_
 refine ow_ml rfl ?_
 refine ow_nil ?_
 refine sk_n (by simp only [ze] <;> exact rfl) ?_
 refine cw_seq (cw_seq (cw_region ?_))
 refine ow_me rfl ?_
 refine ow_op (by simp only [zo, binD, zb, Int.reduceEq, Int.reduceToNat, Int.reduceLT, mkS_toList, nil_toList, mkS_size, hS.isCell, hS.val, hS.cells, hS.len, hS.plain] <;> exact rfl) ?_
 refine ow_nil ?_
 refine sk_n (by simp only [ze] <;> exact rfl) ?_
 skip
 refine cw_false (by simp only [opd, zv, mkS_toList, nil_toList, mkS_size, hS.isCell, hS.val, hS.cells, hS.len, hS.plain] <;> rfl) ?_
 refine cw_skip (sk_n rfl (cw_seq (cw_region ?_)))
 refine ow_op (by simp only [zo, faddrD_ptr, faddrD_cptr, zm, mkS_toList, nil_toList, mkS_size, hS.isCell, hS.val, hS.cells, hS.len, hS.plain] <;> exact rfl) ?_
 refine ow_op (by simp only [zl, zm, zd, partD, List.take, List.drop, mkS_toList, nil_toList, mkS_size, hS.isCell, hS.val, hS.cells, hS.len, hS.plain] <;> exact rfl) ?_
 refine ow_op (by simp only [zo, faddrD_ptr, faddrD_cptr, zm, mkS_toList, nil_toList, mkS_size, hS.isCell, hS.val, hS.cells, hS.len, hS.plain] <;> exact rfl) ?_
 refine ow_op (by simp only [zl, zm, zd, partD, List.take, List.drop, mkS_toList, nil_toList, mkS_size, hS.isCell, hS.val, hS.cells, hS.len, hS.plain] <;> exact rfl) ?_
 refine ow_op (by simp only [zo, faddrD_ptr, faddrD_cptr, zm, mkS_toList, nil_toList, mkS_size, hS.isCell, hS.val, hS.cells, hS.len, hS.plain] <;> exact rfl) ?_
 refine ow_op (by simp only [zo, faddrD_ptr, faddrD_cptr, zm, mkS_toList, nil_toList, mkS_size, hS.isCell, hS.val, hS.cells, hS.len, hS.plain] <;> exact rfl) ?_
 refine ow_op (by simp only [zl, zm, zd, partD, List.take, List.drop, mkS_toList, nil_toList, mkS_size, hS.isCell, hS.val, hS.cells, hS.len, hS.plain] <;> exact rfl) ?_
 refine ow_op (by simp only [zo, mkS_toList, nil_toList, mkS_size, hS.isCell, hS.val, hS.cells, hS.len, hS.plain]; exact decNew_run (by omega) _ ng l h62 hnum) ?_
 refine ow_op (by simp only [zo, List.getElem?_cons_zero, List.getElem?_cons_succ, mkS_toList, nil_toList, mkS_size, hS.isCell, hS.val, hS.cells, hS.len, hS.plain] <;> exact rfl) ?_
 refine ow_op (by simp only [zo, List.getElem?_cons_zero, List.getElem?_cons_succ, mkS_toList, nil_toList, mkS_size, hS.isCell, hS.val, hS.cells, hS.len, hS.plain] <;> exact rfl) ?_
 refine ow_op (by simp only [zl, zm, storeD, overlay, snapVs, snaps, zs, zc, zf, List.take, List.drop, mkS_toList, nil_toList, mkS_size, hS.isCell, hS.val, hS.cells, hS.len, hS.plain] <;> exact rfl) ?_
 refine ow_ml rfl ?_
 refine ow_nil ?_
 refine sk_n (by simp only [ze] <;> exact rfl) ?_
 refine cw_ret ?_
 refine ⟨_, by simp only [F51, resultD, resDs, resD, List.getD_cons_zero, List.getD_cons_succ, zd, rowsOf, partD, List.getElem?_cons_zero, List.getElem?_cons_succ, if_true, if_false, Bool.false_eq_true, List.take, List.drop, zm] <;> exact rfl, ?_⟩
 simp only [leaveP, leave, snapVs, snaps, zs, zf, zk]

def shN (n : Nat) : List D := [.int .u8 4, .int .u8 0, .str (mkS (List.replicate n 57)), .int .i64 n, .int .i64 0, .bool false, .bool false, .bool false, .bool false, .bool false, .int .i64 n]
def shT (n : Nat) : List D := [.int .u8 2, .int .u8 0, .str (mkS (List.replicate n 88)), .int .i64 0, .int .i64 0, .bool false, .bool false, .bool false, .bool false, .bool false, .int .i64 n]
theorem checkN_tab (d : Nat) (S : St) : (List.range 6).map (fun k => runF LP NN (d + 12) 117 [.agg (shN (k + 1))] S) = (List.range 6).map (fun _ => some (.int .i64 0, S, false)) := by kernel_rfl
theorem number_tab (d : Nat) (S : St) : (List.range 6).map (fun k => runF LP NN (d + 12) 28 [.int .i64 ((k + 1 : Nat) : Int)] S) = (List.range 6).map (fun k => some (.agg (shN (k + 1)), S, false)) := by kernel_rfl
theorem text_tab (d : Nat) (S : St) : (List.range 6).map (fun k => runF LP NN (d + 12) 27 [.int .i64 ((k + 1 : Nat) : Int)] S) = (List.range 6).map (fun k => some (.agg (shT (k + 1)), S, false)) := by kernel_rfl

end Go.Proofs.YtabgobmeibjeeaaGreatDoor

namespace Go.Proofs.YtabgobmeibjeeaaGreatDoor
set_option linter.unusedSimpArgs false
set_option linter.unusedVariables false
set_option maxRecDepth 10000

theorem cpad_run {d : Nat} (hd : 1 ≤ d) (S : St) {x : D} {l : List UInt8} (hS : SlD 1 (bR l) x) (i : Nat) {c : UInt8} (hi : l[i]? = some c) : runF LP NN d 87 [x, .int .i64 i] S = some (.int .u8 c.toNat, S, false) := by
 have hlt : i < l.length := (List.getElem?_eq_some_iff.1 hi).1
 have hia := fun (S : St) => hS.iaddrN S .i64 (bR_at hi)
 refine run_pure (F := F87) rfl (by simp only [LP, fnOf, snapVs, snaps, zs, Bool.false_eq_true, if_false, Option.map_some, List.map_cons, List.map_nil, hS.snapV, hS.freeV] <;> exact rfl) rfl (by simp only [LP, zf, List.all_cons, List.all_nil, Bool.and_true, Bool.true_and, hS.snapV, hS.freeV]; try rfl) (by simp only [F87, zv] <;> exact rfl) (by omega) ?_
 rintro d rfl
 refine cw_seq (cw_region ?_)
 refine ow_mc ?_
 refine ow_nil ?_
 refine sk_n (by simp only [ze] <;> exact rfl) ?_
 refine cw_seq (cw_seq (cw_region ?_))
 refine ow_me rfl ?_
 refine ow_me rfl ?_
 refine ow_op (by simp only [zo, lenD_str, lenD_nils, lenD_sl, lenD_msl, hS.len, bR_len, hia] <;> exact rfl) ?_
 refine ow_op (by simp only [zo, binD, zb, Int.reduceEq, Int.reduceToNat, Int.reduceLT, hS.len, bR_len, hia] <;> exact rfl) ?_
 refine ow_nil ?_
 refine sk_n (by simp only [ze] <;> exact rfl) ?_
 skip
 refine cw_false (by simp only [opd, zv, hS.len, bR_len, hia] <;> (rw [decide_eq_false]; omega)) ?_
 refine cw_skip (sk_n rfl (cw_seq (cw_region ?_)))
 refine ow_me rfl ?_
 refine ow_me rfl ?_
 refine ow_op (by simp only [zl, zm, iaddrD_sl, iaddrD_msl, Int.toNat_natCast, Int.toNat_zero, List.getElem?_map, Option.map_some, Int.le_refl, hS.len, bR_len, hia] <;> exact rfl) ?_
 refine ow_op (by simp only [zl, zm, zd, partD, List.take, List.drop, hS.len, bR_len, hia] <;> exact rfl) ?_
 refine ow_ml rfl ?_
 refine ow_nil ?_
 refine sk_n (by simp only [ze] <;> exact rfl) ?_
 refine cw_ret ?_
 refine ⟨_, by simp only [F87, resultD, resDs, resD, List.getD_cons_zero, List.getD_cons_succ, zd, rowsOf, partD, List.getElem?_cons_zero, List.getElem?_cons_succ, if_true, if_false, Bool.false_eq_true, List.take, List.drop, zm] <;> exact rfl, ?_⟩
 simp only [leaveP, leave, snapVs, snaps, zs, zf, zk]

/-- the order of two texts of one length, byte by byte -/
def cmpT : List UInt8 → List UInt8 → Int
 | a :: l, b :: m => if cmpI a.toNat b.toNat != 0 then cmpI a.toNat b.toNat else cmpT l m
 | _, _ => 0
theorem cmpT_nil : cmpT [] [] = 0 := rfl

theorem ccmp_run {d : Nat} (hd : 3 ≤ d) (S : St) {x y : D} {l m : List UInt8} (hS : SlD 1 (bR l) x) (hR : SlD 1 (bR m) y) (hl : l.length ≤ 1000000) (hlm : m.length = l.length) : runF LP NN d 53 [x, y] S = some (.int .i64 (cmpT l m), S, false) := by
 have hmx : (if (m.length : Int) > (l.length : Int) then (m.length : Int) else (l.length : Int)) = (l.length : Int) := by rw [hlm]; simp
 refine run_pure (F := F53) rfl (by simp only [LP, fnOf, snapVs, snaps, zs, Bool.false_eq_true, if_false, Option.map_some, List.map_cons, List.map_nil, hS.snapV, hS.freeV, hR.snapV, hR.freeV] <;> exact rfl) rfl (by simp only [LP, zf, List.all_cons, List.all_nil, Bool.and_true, Bool.true_and, hS.snapV, hS.freeV, hR.snapV, hR.freeV]; try rfl) (by simp only [F53, zv] <;> exact rfl) (by omega) ?_
 rintro d rfl
 refine cw_seq (cw_region ?_)
 refine ow_mc ?_
 refine ow_nil ?_
 refine sk_n (by simp only [ze] <;> exact rfl) ?_
 refine cw_seq (cw_seq (cw_region ?_))
 refine ow_me rfl ?_
 refine ow_op (by simp only [zo, lenD_str, lenD_nils, lenD_sl, lenD_msl, hS.len, hR.len, bR_len, hmx] <;> exact rfl) ?_
 refine ow_me rfl ?_
 refine ow_op (by simp only [zo, lenD_str, lenD_nils, lenD_sl, lenD_msl, hS.len, hR.len, bR_len, hmx] <;> exact rfl) ?_
 refine ow_op (by simp only [zo, foldD, maxD, hS.len, hR.len, bR_len, hmx] <;> exact rfl) ?_
 refine ow_mc ?_
 refine ow_nil ?_
 refine sk_n (by simp only [ze] <;> exact rfl) ?_
 refine cw_block ?_
 refine cw_loop (fun n env S' => ∃ (i : Nat) (u3 u4 u7 u8 : D), i ≤ l.length ∧ n = l.length - i ∧ cmpT (l.drop i) (m.drop i) = cmpT l m ∧ S' = ⟨[], 0⟩ ∧ env = [x, y, .int .i64 0, u3, u4, .int .i64 l.length, .int .i64 i, u7, u8]) (l.length) (by omega) (⟨0, _, _, _, _, by omega, by omega, rfl, rfl, rfl⟩) ?_
 rintro n env S' ⟨i, u3, u4, u7, u8, hi, rfl, hT, rfl, rfl⟩
 have h0 : (0 : Int) ≤ (i : Int) := by omega
 refine cw_seq (cw_region ?_)
 refine ow_op (by simp only [zo, binD, zb, Int.reduceEq, Int.reduceToNat, Int.reduceLT, hS.len, hR.len, bR_len, hmx, h0] <;> exact rfl) ?_
 refine ow_nil ?_
 refine sk_n (by simp only [ze] <;> exact rfl) ?_
 refine cw_seq ?_
 refine cw_cond (by simp only [opd, zv, hS.len, hR.len, bR_len, hmx, h0] <;> exact rfl) (fun hcA => ?_) (fun hcA => ?_)
 ·
  have hlt : i < l.length := by have := of_decide_eq_true hcA; omega
  have hw := wrap_nat i (by omega)
  have hx := List.getElem?_eq_getElem hlt
  have hy := List.getElem?_eq_getElem (show i < m.length by omega)
  refine cw_skip (sk_n rfl (cw_seq (cw_block (cw_seq (cw_region ?_)))))
  refine ow_me rfl ?_
  refine ow_ml rfl ?_
  refine ow_nil ?_
  refine sk_n (by simp only [ze] <;> exact rfl) ?_
  refine cw_seq (cw_region ?_)
  refine ow_me rfl ?_
  refine ow_me rfl ?_
  first
   | refine ow_op (by simp only [zo, hS.len, hR.len, bR_len, hmx, h0, hw]; exact cpad_run (by omega) _ hS i hx) ?_
   | refine ow_op (by simp only [zo, hS.len, hR.len, bR_len, hmx, h0, hw]; exact cpad_run (by omega) _ hR i hy) ?_
  refine ow_me rfl ?_
  refine ow_me rfl ?_
  first
   | refine ow_op (by simp only [zo, hS.len, hR.len, bR_len, hmx, h0, hw]; exact cpad_run (by omega) _ hS i hx) ?_
   | refine ow_op (by simp only [zo, hS.len, hR.len, bR_len, hmx, h0, hw]; exact cpad_run (by omega) _ hR i hy) ?_
  refine ow_op (by simp only [zo, hS.len, hR.len, bR_len, hmx, h0, hw]; exact cmpB_run (by omega) _ _ _) ?_
  refine ow_ml rfl ?_
  refine ow_nil ?_
  refine sk_n (by simp only [ze] <;> exact rfl) ?_
  refine cw_seq (cw_region ?_)
  refine ow_me rfl ?_
  refine ow_op (by simp only [zo, binD, zb, Int.reduceEq, Int.reduceToNat, Int.reduceLT, hS.len, hR.len, bR_len, hmx, h0, hw] <;> exact rfl) ?_
  refine ow_nil ?_
  refine sk_n (by simp only [ze] <;> exact rfl) ?_
  refine cw_cond (by simp only [opd, zv, hS.len, hR.len, bR_len, hmx, h0, hw] <;> exact rfl) (fun hcAT => ?_) (fun hcAT => ?_)
  ·
   refine cw_seq (cw_region ?_)
   refine ow_me rfl ?_
   refine ow_ml rfl ?_
   refine ow_nil ?_
   refine sk_n (by simp only [ze] <;> exact rfl) ?_
   refine cw_ret (bk_r (sk_r (lk_r (bk_r (sk_r ?_)))))
   refine ⟨_, by simp only [F53, resultD, resDs, resD, List.getD_cons_zero, List.getD_cons_succ, zd, rowsOf, partD, List.getElem?_cons_zero, List.getElem?_cons_succ, if_true, if_false, Bool.false_eq_true, List.take, List.drop, zm] <;> exact rfl, ?_⟩
   rw [← hT, List.drop_eq_getElem_cons hlt, List.drop_eq_getElem_cons (show i < m.length by omega), cmpT, if_pos (by simpa using hcAT)]
   simp only [leaveP, leave, snapVs, snaps, zs, zf, zk]
  ·
   refine cw_skip (bk_n (sk_n rfl (cw_region ?_)))
   refine ow_op (by simp only [zo, binD, zb, Int.reduceEq, Int.reduceToNat, Int.reduceLT, hS.len, hR.len, bR_len, hmx, h0, hw] <;> exact rfl) ?_
   refine ow_ml rfl ?_
   refine ow_nil ?_
   refine lk_n (by simp only [ze] <;> exact rfl) ?_
   exact ⟨l.length - (i + 1), by omega, i + 1, _, _, _, _, by omega, rfl, by rw [← hT, List.drop_eq_getElem_cons hlt, List.drop_eq_getElem_cons (show i < m.length by omega), cmpT, if_neg (by simpa using hcAT)], rfl, rfl⟩
 ·
  have hge : l.length ≤ i := by have := of_decide_eq_false hcA; omega
  refine cw_exit (sk_e (lk_e (bk_e (sk_n rfl (cw_seq (cw_region ?_))))))
  refine ow_mc ?_
  refine ow_nil ?_
  refine sk_n (by simp only [ze] <;> exact rfl) ?_
  refine cw_ret ?_
  refine ⟨_, by simp only [F53, resultD, resDs, resD, List.getD_cons_zero, List.getD_cons_succ, zd, rowsOf, partD, List.getElem?_cons_zero, List.getElem?_cons_succ, if_true, if_false, Bool.false_eq_true, List.take, List.drop, zm] <;> exact rfl, ?_⟩
  rw [← hT, List.drop_eq_nil_of_le hge, List.drop_eq_nil_of_le (show m.length ≤ i by omega), cmpT_nil]
  simp only [leaveP, leave, snapVs, snaps, zs, zf, zk]

end Go.Proofs.YtabgobmeibjeeaaGreatDoor

namespace Go.Proofs.YtabgobmeibjeeaaGreatDoor
set_option linter.unusedSimpArgs false
set_option linter.unusedVariables false
set_option maxRecDepth 10000

theorem plainV_agg (cs : List D) : plainV (.agg cs) = cs.all plain1 := rfl
theorem plain1_int (k : IntKind) (n : Int) : plain1 (.int k n) = true := rfl
theorem plain1_str (s : ByteArray) : plain1 (.str s) = true := rfl
theorem plain1_bool (b : Bool) : plain1 (.bool b) = true := rfl
theorem plain1_nils : plain1 .nils = true := rfl

/-- a key -/
structure Ke extends Shp where
 a : Nat
 n : Nat
 dn : Bool
def Ke.row (k : Ke) : List D := [.int .i64 k.a, .int .i64 k.n, .int .u8 k.cat, .int .u8 k.us, .str k.pic, .int .i64 k.dg, .int .i64 k.sc, .bool k.sg, .bool k.le, .bool k.se, .bool k.ju, .bool k.bl, .int .i64 k.sz, .bool k.dn]
def Ke.fld (k : Ke) (x : D) : List D := [.int .u8 k.cat, .int .u8 k.us, .str k.pic, .int .i64 k.dg, .int .i64 k.sc, .bool k.sg, .bool k.le, .bool k.se, .bool k.ju, .bool k.bl, .int .i64 k.sz, subD k.a k.n x]
def keRows (l : List Ke) : List (List D) := l.map Ke.row
theorem keRows_len (l : List Ke) : (keRows l).length = l.length := by simp [keRows]
theorem keRows_at {l : List Ke} {i : Nat} {k : Ke} (h : l[i]? = some k) : (keRows l)[i]? = some [.int .i64 k.a, .int .i64 k.n, .int .u8 k.cat, .int .u8 k.us, .str k.pic, .int .i64 k.dg, .int .i64 k.sc, .bool k.sg, .bool k.le, .bool k.se, .bool k.ju, .bool k.bl, .int .i64 k.sz, .bool k.dn] := by simp [keRows, h, Ke.row]

theorem field_run {d : Nat} (hd : 1 ≤ d) (S : St) (k : Ke) {x : D} {rows : List (List D)} (hS : SlD 1 rows x) (h : k.a + k.n ≤ rows.length) (hb : rows.length ≤ 1000000) : runF LP NN d 50 [.agg [.int .i64 k.a, .int .i64 k.n, .int .u8 k.cat, .int .u8 k.us, .str k.pic, .int .i64 k.dg, .int .i64 k.sc, .bool k.sg, .bool k.le, .bool k.se, .bool k.ju, .bool k.bl, .int .i64 k.sz, .bool k.dn], x] S = some (.agg [.int .u8 k.cat, .int .u8 k.us, .str k.pic, .int .i64 k.dg, .int .i64 k.sc, .bool k.sg, .bool k.le, .bool k.se, .bool k.ju, .bool k.bl, .int .i64 k.sz, subD k.a k.n x], S, false) := by
 have hw : IntKind.i64.wrap ((k.a : Int) + (k.n : Int)) = ((k.a + k.n : Nat) : Int) := by rw [IntKind.wrap_i64]; omega
 have hsl := fun (S : St) => hS.slice_mid S (a := k.a) (b := k.a + k.n) rfl rfl (by omega) h
 simp only [Nat.add_sub_cancel_left] at hsl
 have hsb := hS.sub k.a k.n
 refine run_pure (F := F50) rfl (by simp only [LP, fnOf, snapVs, snaps, zs, Bool.false_eq_true, if_false, Option.map_some, List.map_cons, List.map_nil, hS.snapV, hS.freeV] <;> exact rfl) rfl (by simp only [LP, zf, List.all_cons, List.all_nil, Bool.and_true, Bool.true_and, hS.snapV, hS.freeV]; try rfl) (by simp only [F50, zv] <;> exact rfl) (by omega) ?_
 rintro d rfl
 refine cw_seq (cw_region ?_)
 refine ow_op (by simp only [zl, zm, zc, mkS_toList, nil_toList, mkS_size, hw, hsb.isCell, hsb.val, hsb.cells, hsb.plain, hS.fps] <;> exact rfl) ?_
 refine ow_op (by simp only [zl, zm, mkS_toList, nil_toList, mkS_size, hw, hsb.isCell, hsb.val, hsb.cells, hsb.plain, hS.fps] <;> exact rfl) ?_
 refine ow_nil ?_
 refine sk_n (by simp only [ze] <;> exact rfl) ?_
 refine cw_seq ?_
 refine cw_drawn (by simp only [newsVals, zw, Nat.reduceAdd] <;> exact rfl) (by simp only [zw, newsObj, St.eta] <;> exact rfl) ?_
 refine dw_quiet (by simp only [zo, faddrD_ptr, faddrD_cptr, zm, mkS_toList, nil_toList, mkS_size, hw, hsb.isCell, hsb.val, hsb.cells, hsb.plain, hS.fps] <;> exact rfl) rfl rfl ?_
 refine dw_op (by simp only [zl, zm, zd, partD, List.take, List.drop, mkS_toList, nil_toList, mkS_size, hw, hsb.isCell, hsb.val, hsb.cells, hsb.plain, hS.fps] <;> exact rfl) (by simp only [fpHere, zo, zq, hS.fps, hsb.plain, plainV_agg, List.all_cons, List.all_nil, plain1_int, plain1_str, plain1_bool, plain1_nils, Bool.and_true, Bool.and_self, if_true] <;> exact rfl) rfl ?_
 refine dw_me rfl rfl ?_
 refine dw_quiet (by simp only [zo, faddrD_ptr, faddrD_cptr, zm, mkS_toList, nil_toList, mkS_size, hw, hsb.isCell, hsb.val, hsb.cells, hsb.plain, hS.fps] <;> exact rfl) rfl rfl ?_
 refine dw_quiet (by simp only [zo, faddrD_ptr, faddrD_cptr, zm, mkS_toList, nil_toList, mkS_size, hw, hsb.isCell, hsb.val, hsb.cells, hsb.plain, hS.fps] <;> exact rfl) rfl rfl ?_
 refine dw_op (by simp only [zl, zm, zd, partD, List.take, List.drop, mkS_toList, nil_toList, mkS_size, hw, hsb.isCell, hsb.val, hsb.cells, hsb.plain, hS.fps] <;> exact rfl) (by simp only [fpHere, zo, zq, hS.fps, hsb.plain, plainV_agg, List.all_cons, List.all_nil, plain1_int, plain1_str, plain1_bool, plain1_nils, Bool.and_true, Bool.and_self, if_true] <;> exact rfl) rfl ?_
 refine dw_quiet (by simp only [zo, faddrD_ptr, faddrD_cptr, zm, mkS_toList, nil_toList, mkS_size, hw, hsb.isCell, hsb.val, hsb.cells, hsb.plain, hS.fps] <;> exact rfl) rfl rfl ?_
 refine dw_quiet (by simp only [zo, faddrD_ptr, faddrD_cptr, zm, mkS_toList, nil_toList, mkS_size, hw, hsb.isCell, hsb.val, hsb.cells, hsb.plain, hS.fps] <;> exact rfl) rfl rfl ?_
 refine dw_op (by simp only [zl, zm, zd, partD, List.take, List.drop, mkS_toList, nil_toList, mkS_size, hw, hsb.isCell, hsb.val, hsb.cells, hsb.plain, hS.fps] <;> exact rfl) (by simp only [fpHere, zo, zq, hS.fps, hsb.plain, plainV_agg, List.all_cons, List.all_nil, plain1_int, plain1_str, plain1_bool, plain1_nils, Bool.and_true, Bool.and_self, if_true] <;> exact rfl) rfl ?_
 refine dw_quiet (by simp only [zo, faddrD_ptr, faddrD_cptr, zm, mkS_toList, nil_toList, mkS_size, hw, hsb.isCell, hsb.val, hsb.cells, hsb.plain, hS.fps] <;> exact rfl) rfl rfl ?_
 refine dw_quiet (by simp only [zo, faddrD_ptr, faddrD_cptr, zm, mkS_toList, nil_toList, mkS_size, hw, hsb.isCell, hsb.val, hsb.cells, hsb.plain, hS.fps] <;> exact rfl) rfl rfl ?_
 refine dw_op (by simp only [zl, zm, zd, partD, List.take, List.drop, mkS_toList, nil_toList, mkS_size, hw, hsb.isCell, hsb.val, hsb.cells, hsb.plain, hS.fps] <;> exact rfl) (by simp only [fpHere, zo, zq, hS.fps, hsb.plain, plainV_agg, List.all_cons, List.all_nil, plain1_int, plain1_str, plain1_bool, plain1_nils, Bool.and_true, Bool.and_self, if_true] <;> exact rfl) rfl ?_
 refine dw_quiet (by simp only [zo, binD, zb, Int.reduceEq, Int.reduceToNat, Int.reduceLT, mkS_toList, nil_toList, mkS_size, hw, hsb.isCell, hsb.val, hsb.cells, hsb.plain, hS.fps] <;> exact rfl) rfl rfl ?_
 refine dw_op (by simp only [opd, zv, exOp, aop, LOp.loud, lop, sliceArgs, if_true, Option.map_some, mkS_toList, nil_toList, mkS_size, hw, hsb.isCell, hsb.val, hsb.cells, hsb.plain, hS.fps, hsl] <;> exact rfl) (by simp only [fpHere, zo, zq, hS.fps, hsb.plain, plainV_agg, List.all_cons, List.all_nil, plain1_int, plain1_str, plain1_bool, plain1_nils, Bool.and_true, Bool.and_self, if_true] <;> exact rfl) rfl ?_
 refine dw_quiet (by simp only [zo, fillD, overlay, zc, List.take, List.drop, Nat.reduceAdd, Nat.reduceLeDiff, Nat.reduceBEq, zm, mkS_toList, nil_toList, mkS_size, hw, hsb.isCell, hsb.val, hsb.cells, hsb.plain, hS.fps] <;> exact rfl) rfl rfl ?_
 refine dw_op (by simp only [zl, zm, storeD, overlay, snapVs, snaps, zs, zc, zf, List.take, List.drop, mkS_toList, nil_toList, mkS_size, hw, hsb.isCell, hsb.val, hsb.cells, hsb.plain, hS.fps] <;> exact rfl) (by simp only [fpHere, zo, zq, hS.fps, hsb.plain, plainV_agg, List.all_cons, List.all_nil, plain1_int, plain1_str, plain1_bool, plain1_nils, Bool.and_true, Bool.and_self, if_true] <;> exact rfl) rfl ?_
 refine dw_nil ?_
 refine sk_n (by simp only [ze] <;> exact rfl) ?_
 refine cw_ret ?_
 refine ⟨_, by simp only [F50, resultD, resDs, resD, List.getD_cons_zero, List.getD_cons_succ, zd, rowsOf, partD, List.getElem?_cons_zero, List.getElem?_cons_succ, if_true, if_false, Bool.false_eq_true, List.take, List.drop, zm] <;> exact rfl, ?_⟩
 simp only [leaveP, leave, snapVs, snaps, zs, zf, zk, hsb.snapV, hsb.freeV, hsb.snap, hsb.free, hsb.snapR, hsb.freeR]

end Go.Proofs.YtabgobmeibjeeaaGreatDoor

namespace Go.Proofs.YtabgobmeibjeeaaGreatDoor
set_option linter.unusedSimpArgs false
set_option linter.unusedVariables false
set_option maxRecDepth 10000

/-- a key that is valid for records of a size -/
structure KOK (size : Nat) (k : Ke) : Prop where
 n1 : 1 ≤ k.n
 fit : k.a + k.n ≤ size
 hz : k.sz = k.n
 kd : k.cat = 2 ∨ (k.cat = 4 ∧ ∃ e : Int, (e = 0 ∨ e = 15) ∧ ∀ (d : Nat) (S : St), 14 ≤ d → runF LP NN d 78 [.agg [.int .u8 k.cat, .int .u8 k.us, .str k.pic, .int .i64 k.dg, .int .i64 k.sc, .bool k.sg, .bool k.le, .bool k.se, .bool k.ju, .bool k.bl, .int .i64 k.sz, .sl 1 (List.replicate k.n [.int .u8 0]) (some k.n)]] S = some (.int .i64 e, S, false))

theorem keyVT {d : Nat} (hd : 16 ≤ d) (S : St) (k : Ke) (size : Nat) (hs : size ≤ 4096) (h : KOK size k) (hc2 : k.cat = 2) : runF LP NN d 46 [.agg [.int .i64 k.a, .int .i64 k.n, .int .u8 k.cat, .int .u8 k.us, .str k.pic, .int .i64 k.dg, .int .i64 k.sc, .bool k.sg, .bool k.le, .bool k.se, .bool k.ju, .bool k.bl, .int .i64 k.sz, .bool k.dn], .int .i64 size] S = some (.bool true, S, false) := by
 have f1 : decide ((k.a : Int) < 0) = false := decide_eq_false (by omega)
 have f2 : decide ((k.n : Int) < 1) = false := decide_eq_false (by have := h.n1; omega)
 have f3 : decide ((k.n : Int) > (size : Int)) = false := decide_eq_false (by have := h.fit; omega)
 have f4 : decide ((k.a : Int) > IntKind.i64.wrap ((size : Int) - (k.n : Int))) = false := decide_eq_false (by have := h.fit; rw [IntKind.wrap_i64]; omega)
 have f5 : (k.sz != (k.n : Int)) = false := by rw [h.hz]; simp
 refine run_pure (F := F46) rfl (by simp only [LP, fnOf, snapVs, snaps, zs, Bool.false_eq_true, if_false, Option.map_some, List.map_cons, List.map_nil] <;> exact rfl) rfl (by simp only [LP, zf, List.all_cons, List.all_nil, Bool.and_true, Bool.true_and]; try rfl) (by simp only [F46, zv] <;> exact rfl) (by omega) ?_
 rintro d rfl
 refine cw_seq (cw_region ?_)
 refine ow_op (by simp only [zl, zm, zc, f1, f2, f3, f4, f5] <;> exact rfl) ?_
 refine ow_mc ?_
 refine ow_nil ?_
 refine sk_n (by simp only [ze] <;> exact rfl) ?_
 refine cw_seq (cw_region ?_)
 refine ow_op (by simp only [zo, faddrD_ptr, faddrD_cptr, zm, f1, f2, f3, f4, f5] <;> exact rfl) ?_
 refine ow_op (by simp only [zl, zm, zd, partD, List.take, List.drop, f1, f2, f3, f4, f5] <;> exact rfl) ?_
 refine ow_op (by simp only [zl, zm, f1, f2, f3, f4, f5] <;> exact rfl) ?_
 refine ow_op (by simp only [zl, zm, storeD, overlay, snapVs, snaps, zs, zc, zf, List.take, List.drop, f1, f2, f3, f4, f5] <;> exact rfl) ?_
 refine ow_nil ?_
 refine sk_n (by simp only [ze] <;> exact rfl) ?_
 refine cw_seq (cw_seq (cw_region ?_))
 refine ow_op (by simp only [zo, faddrD_ptr, faddrD_cptr, zm, f1, f2, f3, f4, f5] <;> exact rfl) ?_
 refine ow_op (by simp only [zl, zm, zd, partD, List.take, List.drop, f1, f2, f3, f4, f5] <;> exact rfl) ?_
 refine ow_op (by simp only [zo, binD, zb, Int.reduceEq, Int.reduceToNat, Int.reduceLT, f1, f2, f3, f4, f5] <;> exact rfl) ?_
 refine ow_ml rfl ?_
 refine ow_know 0 (b := false) (by simp only [opd, zv, f1, f2, f3, f4, f5] <;> rfl) (by simp only [zn] <;> exact rfl) ?_
 refine ow_on (by simp only [opd, zv]) ?_
 refine ow_op (by simp only [zo, faddrD_ptr, faddrD_cptr, zm, f1, f2, f3, f4, f5] <;> exact rfl) ?_
 refine ow_on (by simp only [opd, zv]) ?_
 refine ow_op (by simp only [zl, zm, zd, partD, List.take, List.drop, f1, f2, f3, f4, f5] <;> exact rfl) ?_
 refine ow_on (by simp only [opd, zv]) ?_
 refine ow_op (by simp only [zo, binD, zb, Int.reduceEq, Int.reduceToNat, Int.reduceLT, f1, f2, f3, f4, f5] <;> exact rfl) ?_
 refine ow_op (by simp only [zo, f1, f2, f3, f4, f5] <;> exact rfl) ?_
 refine ow_ml rfl ?_
 refine ow_know 0 (b := false) (by simp only [opd, zv, f1, f2, f3, f4, f5] <;> rfl) (by simp only [zn] <;> exact rfl) ?_
 refine ow_on (by simp only [opd, zv]) ?_
 refine ow_op (by simp only [zo, faddrD_ptr, faddrD_cptr, zm, f1, f2, f3, f4, f5] <;> exact rfl) ?_
 refine ow_on (by simp only [opd, zv]) ?_
 refine ow_op (by simp only [zl, zm, zd, partD, List.take, List.drop, f1, f2, f3, f4, f5] <;> exact rfl) ?_
 refine ow_on (by simp only [opd, zv]) ?_
 refine ow_me rfl ?_
 refine ow_on (by simp only [opd, zv]) ?_
 refine ow_op (by simp only [zo, binD, zb, Int.reduceEq, Int.reduceToNat, Int.reduceLT, f1, f2, f3, f4, f5] <;> exact rfl) ?_
 refine ow_op (by simp only [zo, f1, f2, f3, f4, f5] <;> exact rfl) ?_
 refine ow_ml rfl ?_
 refine ow_know 0 (b := false) (by simp only [opd, zv, f1, f2, f3, f4, f5] <;> rfl) (by simp only [zn] <;> exact rfl) ?_
 refine ow_on (by simp only [opd, zv]) ?_
 refine ow_op (by simp only [zo, faddrD_ptr, faddrD_cptr, zm, f1, f2, f3, f4, f5] <;> exact rfl) ?_
 refine ow_on (by simp only [opd, zv]) ?_
 refine ow_op (by simp only [zl, zm, zd, partD, List.take, List.drop, f1, f2, f3, f4, f5] <;> exact rfl) ?_
 refine ow_on (by simp only [opd, zv]) ?_
 refine ow_me rfl ?_
 refine ow_on (by simp only [opd, zv]) ?_
 refine ow_op (by simp only [zo, faddrD_ptr, faddrD_cptr, zm, f1, f2, f3, f4, f5] <;> exact rfl) ?_
 refine ow_on (by simp only [opd, zv]) ?_
 refine ow_op (by simp only [zl, zm, zd, partD, List.take, List.drop, f1, f2, f3, f4, f5] <;> exact rfl) ?_
 refine ow_on (by simp only [opd, zv]) ?_
 refine ow_op (by simp only [zo, binD, zb, Int.reduceEq, Int.reduceToNat, Int.reduceLT, f1, f2, f3, f4, f5] <;> exact rfl) ?_
 refine ow_on (by simp only [opd, zv]) ?_
 refine ow_op (by simp only [zo, binD, zb, Int.reduceEq, Int.reduceToNat, Int.reduceLT, f1, f2, f3, f4, f5] <;> exact rfl) ?_
 refine ow_op (by simp only [zo, f1, f2, f3, f4, f5] <;> exact rfl) ?_
 refine ow_ml rfl ?_
 refine ow_know 0 (b := false) (by simp only [opd, zv, f1, f2, f3, f4, f5] <;> rfl) (by simp only [zn] <;> exact rfl) ?_
 refine ow_on (by simp only [opd, zv]) ?_
 refine ow_op (by simp only [zo, faddrD_ptr, faddrD_cptr, zm, f1, f2, f3, f4, f5] <;> exact rfl) ?_
 refine ow_on (by simp only [opd, zv]) ?_
 refine ow_op (by simp only [zo, faddrD_ptr, faddrD_cptr, zm, f1, f2, f3, f4, f5] <;> exact rfl) ?_
 refine ow_on (by simp only [opd, zv]) ?_
 refine ow_op (by simp only [zl, zm, zd, partD, List.take, List.drop, f1, f2, f3, f4, f5] <;> exact rfl) ?_
 refine ow_on (by simp only [opd, zv]) ?_
 refine ow_op (by simp only [zo, faddrD_ptr, faddrD_cptr, zm, f1, f2, f3, f4, f5] <;> exact rfl) ?_
 refine ow_on (by simp only [opd, zv]) ?_
 refine ow_op (by simp only [zl, zm, zd, partD, List.take, List.drop, f1, f2, f3, f4, f5] <;> exact rfl) ?_
 refine ow_on (by simp only [opd, zv]) ?_
 refine ow_op (by simp only [zo, binD, zb, Int.reduceEq, Int.reduceToNat, Int.reduceLT, f1, f2, f3, f4, f5] <;> exact rfl) ?_
 refine ow_op (by simp only [zo, f1, f2, f3, f4, f5] <;> exact rfl) ?_
 refine ow_nil ?_
 refine sk_n (by simp only [ze] <;> exact rfl) ?_
 skip
 refine cw_false (by simp only [opd, zv, f1, f2, f3, f4, f5] <;> rfl) ?_
 refine cw_skip (sk_n rfl (cw_seq (cw_seq (cw_region ?_))))
 refine ow_op (by simp only [zo, faddrD_ptr, faddrD_cptr, zm, f1, f2, f3, f4, f5] <;> exact rfl) ?_
 refine ow_op (by simp only [zo, faddrD_ptr, faddrD_cptr, zm, f1, f2, f3, f4, f5] <;> exact rfl) ?_
 refine ow_op (by simp only [zl, zm, zd, partD, List.take, List.drop, f1, f2, f3, f4, f5] <;> exact rfl) ?_
 refine ow_nil ?_
 refine sk_n (by simp only [ze] <;> exact rfl) ?_
 refine cw_block (cw_seq (cw_seq (cw_region ?_)))
 refine ow_op (by simp only [zo, binD, zb, Int.reduceEq, Int.reduceToNat, Int.reduceLT, f1, f2, f3, f4, f5] <;> exact rfl) ?_
 refine ow_ml rfl ?_
 refine ow_nil ?_
 refine sk_n (by simp only [ze] <;> exact rfl) ?_
 skip
 refine cw_false (by simp only [opd, zv, f1, f2, f3, f4, f5] <;> (rw [hc2] <;> rfl)) ?_
 refine cw_seq (cw_region ?_)
 refine ow_op (by simp only [zo, binD, zb, Int.reduceEq, Int.reduceToNat, Int.reduceLT, f1, f2, f3, f4, f5] <;> exact rfl) ?_
 refine ow_ml rfl ?_
 refine ow_nil ?_
 refine sk_n (by simp only [ze] <;> exact rfl) ?_
 skip
 refine cw_false (by simp only [opd, zv, f1, f2, f3, f4, f5] <;> (rw [hc2] <;> rfl)) ?_
 refine cw_region ?_
 refine ow_op (by simp only [zo, binD, zb, Int.reduceEq, Int.reduceToNat, Int.reduceLT, f1, f2, f3, f4, f5] <;> exact rfl) ?_
 refine ow_ml rfl ?_
 refine ow_nil ?_
 refine sk_n (by simp only [ze] <;> exact rfl) ?_
 skip
 refine cw_true (by simp only [opd, zv, f1, f2, f3, f4, f5] <;> (rw [hc2] <;> rfl)) ?_
 refine cw_seq (cw_region ?_)
 refine ow_mc ?_
 refine ow_nil ?_
 refine sk_n (by simp only [ze] <;> exact rfl) ?_
 refine cw_ret (bk_r (sk_r ?_))
 refine ⟨_, by simp only [F46, resultD, resDs, resD, List.getD_cons_zero, List.getD_cons_succ, zd, rowsOf, partD, List.getElem?_cons_zero, List.getElem?_cons_succ, if_true, if_false, Bool.false_eq_true, List.take, List.drop, zm] <;> exact rfl, ?_⟩
 simp only [leaveP, leave, snapVs, snaps, zs, zf, zk]

theorem keyVN0 {d : Nat} (hd : 16 ≤ d) (S : St) (k : Ke) (size : Nat) (hs : size ≤ 4096) (h : KOK size k) (hc4 : k.cat = 4) (hk : ∀ (d : Nat) (S : St), 14 ≤ d → runF LP NN d 78 [.agg [.int .u8 k.cat, .int .u8 k.us, .str k.pic, .int .i64 k.dg, .int .i64 k.sc, .bool k.sg, .bool k.le, .bool k.se, .bool k.ju, .bool k.bl, .int .i64 k.sz, .sl 1 (List.replicate k.n [.int .u8 0]) (some k.n)]] S = some (.int .i64 0, S, false)) : runF LP NN d 46 [.agg [.int .i64 k.a, .int .i64 k.n, .int .u8 k.cat, .int .u8 k.us, .str k.pic, .int .i64 k.dg, .int .i64 k.sc, .bool k.sg, .bool k.le, .bool k.se, .bool k.ju, .bool k.bl, .int .i64 k.sz, .bool k.dn], .int .i64 size] S = some (.bool true, S, false) := by
 have f1 : decide ((k.a : Int) < 0) = false := decide_eq_false (by omega)
 have f2 : decide ((k.n : Int) < 1) = false := decide_eq_false (by have := h.n1; omega)
 have f3 : decide ((k.n : Int) > (size : Int)) = false := decide_eq_false (by have := h.fit; omega)
 have f4 : decide ((k.a : Int) > IntKind.i64.wrap ((size : Int) - (k.n : Int))) = false := decide_eq_false (by have := h.fit; rw [IntKind.wrap_i64]; omega)
 have f5 : (k.sz != (k.n : Int)) = false := by rw [h.hz]; simp
 have hmk : 0 ≤ (k.n : Int) ∧ (k.n : Int) ≤ (k.n : Int) ∧ (k.n : Int).toNat * 1 ≤ 140737488355328 := ⟨by omega, by omega, by have := h.fit; omega⟩
 have hzz : k.n = k.n := rfl
 refine run_pure (F := F46) rfl (by simp only [LP, fnOf, snapVs, snaps, zs, Bool.false_eq_true, if_false, Option.map_some, List.map_cons, List.map_nil] <;> exact rfl) rfl (by simp only [LP, zf, List.all_cons, List.all_nil, Bool.and_true, Bool.true_and]; try rfl) (by simp only [F46, zv] <;> exact rfl) (by omega) ?_
 rintro d rfl
 refine cw_seq (cw_region ?_)
 refine ow_op (by simp only [zl, zm, zc, f1, f2, f3, f4, f5] <;> exact rfl) ?_
 refine ow_mc ?_
 refine ow_nil ?_
 refine sk_n (by simp only [ze] <;> exact rfl) ?_
 refine cw_seq (cw_region ?_)
 refine ow_op (by simp only [zo, faddrD_ptr, faddrD_cptr, zm, f1, f2, f3, f4, f5] <;> exact rfl) ?_
 refine ow_op (by simp only [zl, zm, zd, partD, List.take, List.drop, f1, f2, f3, f4, f5] <;> exact rfl) ?_
 refine ow_op (by simp only [zl, zm, f1, f2, f3, f4, f5] <;> exact rfl) ?_
 refine ow_op (by simp only [zl, zm, storeD, overlay, snapVs, snaps, zs, zc, zf, List.take, List.drop, f1, f2, f3, f4, f5] <;> exact rfl) ?_
 refine ow_nil ?_
 refine sk_n (by simp only [ze] <;> exact rfl) ?_
 refine cw_seq (cw_seq (cw_region ?_))
 refine ow_op (by simp only [zo, faddrD_ptr, faddrD_cptr, zm, f1, f2, f3, f4, f5] <;> exact rfl) ?_
 refine ow_op (by simp only [zl, zm, zd, partD, List.take, List.drop, f1, f2, f3, f4, f5] <;> exact rfl) ?_
 refine ow_op (by simp only [zo, binD, zb, Int.reduceEq, Int.reduceToNat, Int.reduceLT, f1, f2, f3, f4, f5] <;> exact rfl) ?_
 refine ow_ml rfl ?_
 refine ow_know 0 (b := false) (by simp only [opd, zv, f1, f2, f3, f4, f5] <;> rfl) (by simp only [zn] <;> exact rfl) ?_
 refine ow_on (by simp only [opd, zv]) ?_
 refine ow_op (by simp only [zo, faddrD_ptr, faddrD_cptr, zm, f1, f2, f3, f4, f5] <;> exact rfl) ?_
 refine ow_on (by simp only [opd, zv]) ?_
 refine ow_op (by simp only [zl, zm, zd, partD, List.take, List.drop, f1, f2, f3, f4, f5] <;> exact rfl) ?_
 refine ow_on (by simp only [opd, zv]) ?_
 refine ow_op (by simp only [zo, binD, zb, Int.reduceEq, Int.reduceToNat, Int.reduceLT, f1, f2, f3, f4, f5] <;> exact rfl) ?_
 refine ow_op (by simp only [zo, f1, f2, f3, f4, f5] <;> exact rfl) ?_
 refine ow_ml rfl ?_
 refine ow_know 0 (b := false) (by simp only [opd, zv, f1, f2, f3, f4, f5] <;> rfl) (by simp only [zn] <;> exact rfl) ?_
 refine ow_on (by simp only [opd, zv]) ?_
 refine ow_op (by simp only [zo, faddrD_ptr, faddrD_cptr, zm, f1, f2, f3, f4, f5] <;> exact rfl) ?_
 refine ow_on (by simp only [opd, zv]) ?_
 refine ow_op (by simp only [zl, zm, zd, partD, List.take, List.drop, f1, f2, f3, f4, f5] <;> exact rfl) ?_
 refine ow_on (by simp only [opd, zv]) ?_
 refine ow_me rfl ?_
 refine ow_on (by simp only [opd, zv]) ?_
 refine ow_op (by simp only [zo, binD, zb, Int.reduceEq, Int.reduceToNat, Int.reduceLT, f1, f2, f3, f4, f5] <;> exact rfl) ?_
 refine ow_op (by simp only [zo, f1, f2, f3, f4, f5] <;> exact rfl) ?_
 refine ow_ml rfl ?_
 refine ow_know 0 (b := false) (by simp only [opd, zv, f1, f2, f3, f4, f5] <;> rfl) (by simp only [zn] <;> exact rfl) ?_
 refine ow_on (by simp only [opd, zv]) ?_
 refine ow_op (by simp only [zo, faddrD_ptr, faddrD_cptr, zm, f1, f2, f3, f4, f5] <;> exact rfl) ?_
 refine ow_on (by simp only [opd, zv]) ?_
 refine ow_op (by simp only [zl, zm, zd, partD, List.take, List.drop, f1, f2, f3, f4, f5] <;> exact rfl) ?_
 refine ow_on (by simp only [opd, zv]) ?_
 refine ow_me rfl ?_
 refine ow_on (by simp only [opd, zv]) ?_
 refine ow_op (by simp only [zo, faddrD_ptr, faddrD_cptr, zm, f1, f2, f3, f4, f5] <;> exact rfl) ?_
 refine ow_on (by simp only [opd, zv]) ?_
 refine ow_op (by simp only [zl, zm, zd, partD, List.take, List.drop, f1, f2, f3, f4, f5] <;> exact rfl) ?_
 refine ow_on (by simp only [opd, zv]) ?_
 refine ow_op (by simp only [zo, binD, zb, Int.reduceEq, Int.reduceToNat, Int.reduceLT, f1, f2, f3, f4, f5] <;> exact rfl) ?_
 refine ow_on (by simp only [opd, zv]) ?_
 refine ow_op (by simp only [zo, binD, zb, Int.reduceEq, Int.reduceToNat, Int.reduceLT, f1, f2, f3, f4, f5] <;> exact rfl) ?_
 refine ow_op (by simp only [zo, f1, f2, f3, f4, f5] <;> exact rfl) ?_
 refine ow_ml rfl ?_
 refine ow_know 0 (b := false) (by simp only [opd, zv, f1, f2, f3, f4, f5] <;> rfl) (by simp only [zn] <;> exact rfl) ?_
 refine ow_on (by simp only [opd, zv]) ?_
 refine ow_op (by simp only [zo, faddrD_ptr, faddrD_cptr, zm, f1, f2, f3, f4, f5] <;> exact rfl) ?_
 refine ow_on (by simp only [opd, zv]) ?_
 refine ow_op (by simp only [zo, faddrD_ptr, faddrD_cptr, zm, f1, f2, f3, f4, f5] <;> exact rfl) ?_
 refine ow_on (by simp only [opd, zv]) ?_
 refine ow_op (by simp only [zl, zm, zd, partD, List.take, List.drop, f1, f2, f3, f4, f5] <;> exact rfl) ?_
 refine ow_on (by simp only [opd, zv]) ?_
 refine ow_op (by simp only [zo, faddrD_ptr, faddrD_cptr, zm, f1, f2, f3, f4, f5] <;> exact rfl) ?_
 refine ow_on (by simp only [opd, zv]) ?_
 refine ow_op (by simp only [zl, zm, zd, partD, List.take, List.drop, f1, f2, f3, f4, f5] <;> exact rfl) ?_
 refine ow_on (by simp only [opd, zv]) ?_
 refine ow_op (by simp only [zo, binD, zb, Int.reduceEq, Int.reduceToNat, Int.reduceLT, f1, f2, f3, f4, f5] <;> exact rfl) ?_
 refine ow_op (by simp only [zo, f1, f2, f3, f4, f5] <;> exact rfl) ?_
 refine ow_nil ?_
 refine sk_n (by simp only [ze] <;> exact rfl) ?_
 skip
 refine cw_false (by simp only [opd, zv, f1, f2, f3, f4, f5] <;> rfl) ?_
 refine cw_skip (sk_n rfl (cw_seq (cw_seq (cw_region ?_))))
 refine ow_op (by simp only [zo, faddrD_ptr, faddrD_cptr, zm, f1, f2, f3, f4, f5] <;> exact rfl) ?_
 refine ow_op (by simp only [zo, faddrD_ptr, faddrD_cptr, zm, f1, f2, f3, f4, f5] <;> exact rfl) ?_
 refine ow_op (by simp only [zl, zm, zd, partD, List.take, List.drop, f1, f2, f3, f4, f5] <;> exact rfl) ?_
 refine ow_nil ?_
 refine sk_n (by simp only [ze] <;> exact rfl) ?_
 refine cw_block (cw_seq (cw_seq (cw_region ?_)))
 refine ow_op (by simp only [zo, binD, zb, Int.reduceEq, Int.reduceToNat, Int.reduceLT, f1, f2, f3, f4, f5] <;> exact rfl) ?_
 refine ow_ml rfl ?_
 refine ow_nil ?_
 refine sk_n (by simp only [ze] <;> exact rfl) ?_
 skip
 refine cw_false (by simp only [opd, zv, f1, f2, f3, f4, f5] <;> (rw [hc4] <;> rfl)) ?_
 refine cw_seq (cw_region ?_)
 refine ow_op (by simp only [zo, binD, zb, Int.reduceEq, Int.reduceToNat, Int.reduceLT, f1, f2, f3, f4, f5] <;> exact rfl) ?_
 refine ow_ml rfl ?_
 refine ow_nil ?_
 refine sk_n (by simp only [ze] <;> exact rfl) ?_
 skip
 refine cw_false (by simp only [opd, zv, f1, f2, f3, f4, f5] <;> (rw [hc4] <;> rfl)) ?_
 refine cw_region ?_
 refine ow_op (by simp only [zo, binD, zb, Int.reduceEq, Int.reduceToNat, Int.reduceLT, f1, f2, f3, f4, f5] <;> exact rfl) ?_
 refine ow_ml rfl ?_
 refine ow_nil ?_
 refine sk_n (by simp only [ze] <;> exact rfl) ?_
 skip
 refine cw_false (by simp only [opd, zv, f1, f2, f3, f4, f5] <;> (rw [hc4] <;> rfl)) ?_
 refine cw_seq (cw_region ?_)
 refine ow_op (by simp only [zo, binD, zb, Int.reduceEq, Int.reduceToNat, Int.reduceLT, f1, f2, f3, f4, f5] <;> exact rfl) ?_
 refine ow_ml rfl ?_
 refine ow_nil ?_
 refine sk_n (by simp only [ze] <;> exact rfl) ?_
 skip
 refine cw_true (by simp only [opd, zv, f1, f2, f3, f4, f5] <;> (rw [hc4] <;> rfl)) ?_
 refine cw_seq ?_
 refine cw_drawn (by simp only [newsVals, zw, Nat.reduceAdd] <;> exact rfl) (by simp only [zw, newsObj, St.eta] <;> exact rfl) ?_
 refine dw_quiet (by simp only [zo, faddrD_ptr, faddrD_cptr, zm, f1, f2, f3, f4, f5] <;> exact rfl) rfl rfl ?_
 refine dw_op (by simp only [zl, zm, zd, partD, List.take, List.drop, f1, f2, f3, f4, f5] <;> exact rfl) (by simp only [fpHere, zo, zq] <;> exact rfl) rfl ?_
 refine dw_quiet (by simp only [zo, faddrD_ptr, faddrD_cptr, zm, f1, f2, f3, f4, f5] <;> exact rfl) rfl rfl ?_
 refine dw_op (by simp only [zl, zm, zd, partD, List.take, List.drop, f1, f2, f3, f4, f5] <;> exact rfl) (by simp only [fpHere, zo, zq] <;> exact rfl) rfl ?_
 refine dw_op (show _ = some (D.msl 2 0 0 k.n none, (⟨[⟨59, 14, [[.int .i64 k.a, .int .i64 k.n, .int .u8 k.cat, .int .u8 k.us, .str k.pic, .int .i64 k.dg, .int .i64 k.sc, .bool k.sg, .bool k.le, .bool k.se, .bool k.ju, .bool k.bl, .int .i64 k.sz, .bool k.dn]], 0, 0, false⟩, ⟨57, 2, [[.int .i64 k.a, .int .i64 k.n]], 0, 0, false⟩, ⟨5, 1, List.replicate k.n [.int .u8 0], 0, 1, false⟩], 0⟩ : St), true) by simp only [opd, zv, exOp, aop, LOp.loud, lop, if_true]; rw [if_pos hmk]; simp only [newAt, Int.toNat_natCast, List.cons_append, List.nil_append, List.length_cons, List.length_nil, ne_eq, not_true_eq_false, decide_false]) (by simp only [fpHere, zo, zq] <;> exact rfl) rfl ?_
 refine dw_quiet (by simp only [zo, fillD, overlay, zc, List.take, List.drop, Nat.reduceAdd, Nat.reduceLeDiff, Nat.reduceBEq, zm, f1, f2, f3, f4, f5] <;> exact rfl) rfl rfl ?_
 refine dw_op (by simp only [zo, f1, f2, f3, f4, f5]; exact (run_snap rfl (by simp only [snapVs, snapV_agg, snaps, snap_int, snap_str, snap_bool, snap_sl, Option.map_some, snap_msl, List.getElem?_cons_zero, List.getElem?_cons_succ, eq_self, true_or, and_self, if_true, List.drop_zero, Bool.false_eq_true, if_false, List.length_replicate, Nat.sub_zero, List.take_replicate, Nat.min_self, hzz] <;> exact rfl) (by simp only [snapVs, snapV_agg, snaps, snap_int, snap_str, snap_bool, snap_sl, Option.map_some, snap_msl, List.getElem?_cons_zero, List.getElem?_cons_succ, eq_self, true_or, and_self, if_true, List.drop_zero, Bool.false_eq_true, if_false, List.length_replicate, Nat.sub_zero, List.take_replicate, Nat.min_self, hzz] <;> exact rfl)).trans (hk _ _ (by omega))) (by simp only [fpHere, zo, zq] <;> exact rfl) rfl ?_
 refine dw_ml rfl rfl ?_
 refine dw_nil ?_
 refine sk_n (by simp only [ze] <;> exact rfl) ?_
 refine cw_seq (cw_region ?_)
 refine ow_me rfl ?_
 refine ow_op (by simp only [zo, binD, zb, Int.reduceEq, Int.reduceToNat, Int.reduceLT, f1, f2, f3, f4, f5] <;> exact rfl) ?_
 refine ow_ml rfl ?_
 refine ow_know 0 (b := true) (by simp only [opd, zv, f1, f2, f3, f4, f5] <;> rfl) (by simp only [zn] <;> exact rfl) ?_
 refine ow_off (b' := true) (by simp only [opd, zv]) rfl ?_
 refine ow_off (b' := true) (by simp only [opd, zv]) rfl ?_
 refine ow_op (by simp only [zo, f1, f2, f3, f4, f5] <;> exact rfl) ?_
 refine ow_ml rfl ?_
 refine ow_nil ?_
 refine sk_n (by simp only [ze] <;> exact rfl) ?_
 refine cw_ret (bk_r (sk_r ?_))
 refine ⟨_, by simp only [F46, resultD, resDs, resD, List.getD_cons_zero, List.getD_cons_succ, zd, rowsOf, partD, List.getElem?_cons_zero, List.getElem?_cons_succ, if_true, if_false, Bool.false_eq_true, List.take, List.drop, zm] <;> exact rfl, ?_⟩
 simp only [leaveP, leave, snapVs, snaps, zs, zf, zk]

theorem keyVN15 {d : Nat} (hd : 16 ≤ d) (S : St) (k : Ke) (size : Nat) (hs : size ≤ 4096) (h : KOK size k) (hc4 : k.cat = 4) (hk : ∀ (d : Nat) (S : St), 14 ≤ d → runF LP NN d 78 [.agg [.int .u8 k.cat, .int .u8 k.us, .str k.pic, .int .i64 k.dg, .int .i64 k.sc, .bool k.sg, .bool k.le, .bool k.se, .bool k.ju, .bool k.bl, .int .i64 k.sz, .sl 1 (List.replicate k.n [.int .u8 0]) (some k.n)]] S = some (.int .i64 15, S, false)) : runF LP NN d 46 [.agg [.int .i64 k.a, .int .i64 k.n, .int .u8 k.cat, .int .u8 k.us, .str k.pic, .int .i64 k.dg, .int .i64 k.sc, .bool k.sg, .bool k.le, .bool k.se, .bool k.ju, .bool k.bl, .int .i64 k.sz, .bool k.dn], .int .i64 size] S = some (.bool true, S, false) := by
 have f1 : decide ((k.a : Int) < 0) = false := decide_eq_false (by omega)
 have f2 : decide ((k.n : Int) < 1) = false := decide_eq_false (by have := h.n1; omega)
 have f3 : decide ((k.n : Int) > (size : Int)) = false := decide_eq_false (by have := h.fit; omega)
 have f4 : decide ((k.a : Int) > IntKind.i64.wrap ((size : Int) - (k.n : Int))) = false := decide_eq_false (by have := h.fit; rw [IntKind.wrap_i64]; omega)
 have f5 : (k.sz != (k.n : Int)) = false := by rw [h.hz]; simp
 have hmk : 0 ≤ (k.n : Int) ∧ (k.n : Int) ≤ (k.n : Int) ∧ (k.n : Int).toNat * 1 ≤ 140737488355328 := ⟨by omega, by omega, by have := h.fit; omega⟩
 have hzz : k.n = k.n := rfl
 refine run_pure (F := F46) rfl (by simp only [LP, fnOf, snapVs, snaps, zs, Bool.false_eq_true, if_false, Option.map_some, List.map_cons, List.map_nil] <;> exact rfl) rfl (by simp only [LP, zf, List.all_cons, List.all_nil, Bool.and_true, Bool.true_and]; try rfl) (by simp only [F46, zv] <;> exact rfl) (by omega) ?_
 rintro d rfl
 refine cw_seq (cw_region ?_)
 refine ow_op (by simp only [zl, zm, zc, f1, f2, f3, f4, f5] <;> exact rfl) ?_
 refine ow_mc ?_
 refine ow_nil ?_
 refine sk_n (by simp only [ze] <;> exact rfl) ?_
 refine cw_seq (cw_region ?_)
 refine ow_op (by simp only [zo, faddrD_ptr, faddrD_cptr, zm, f1, f2, f3, f4, f5] <;> exact rfl) ?_
 refine ow_op (by simp only [zl, zm, zd, partD, List.take, List.drop, f1, f2, f3, f4, f5] <;> exact rfl) ?_
 refine ow_op (by simp only [zl, zm, f1, f2, f3, f4, f5] <;> exact rfl) ?_
 refine ow_op (by simp only [zl, zm, storeD, overlay, snapVs, snaps, zs, zc, zf, List.take, List.drop, f1, f2, f3, f4, f5] <;> exact rfl) ?_
 refine ow_nil ?_
 refine sk_n (by simp only [ze] <;> exact rfl) ?_
 refine cw_seq (cw_seq (cw_region ?_))
 refine ow_op (by simp only [zo, faddrD_ptr, faddrD_cptr, zm, f1, f2, f3, f4, f5] <;> exact rfl) ?_
 refine ow_op (by simp only [zl, zm, zd, partD, List.take, List.drop, f1, f2, f3, f4, f5] <;> exact rfl) ?_
 refine ow_op (by simp only [zo, binD, zb, Int.reduceEq, Int.reduceToNat, Int.reduceLT, f1, f2, f3, f4, f5] <;> exact rfl) ?_
 refine ow_ml rfl ?_
 refine ow_know 0 (b := false) (by simp only [opd, zv, f1, f2, f3, f4, f5] <;> rfl) (by simp only [zn] <;> exact rfl) ?_
 refine ow_on (by simp only [opd, zv]) ?_
 refine ow_op (by simp only [zo, faddrD_ptr, faddrD_cptr, zm, f1, f2, f3, f4, f5] <;> exact rfl) ?_
 refine ow_on (by simp only [opd, zv]) ?_
 refine ow_op (by simp only [zl, zm, zd, partD, List.take, List.drop, f1, f2, f3, f4, f5] <;> exact rfl) ?_
 refine ow_on (by simp only [opd, zv]) ?_
 refine ow_op (by simp only [zo, binD, zb, Int.reduceEq, Int.reduceToNat, Int.reduceLT, f1, f2, f3, f4, f5] <;> exact rfl) ?_
 refine ow_op (by simp only [zo, f1, f2, f3, f4, f5] <;> exact rfl) ?_
 refine ow_ml rfl ?_
 refine ow_know 0 (b := false) (by simp only [opd, zv, f1, f2, f3, f4, f5] <;> rfl) (by simp only [zn] <;> exact rfl) ?_
 refine ow_on (by simp only [opd, zv]) ?_
 refine ow_op (by simp only [zo, faddrD_ptr, faddrD_cptr, zm, f1, f2, f3, f4, f5] <;> exact rfl) ?_
 refine ow_on (by simp only [opd, zv]) ?_
 refine ow_op (by simp only [zl, zm, zd, partD, List.take, List.drop, f1, f2, f3, f4, f5] <;> exact rfl) ?_
 refine ow_on (by simp only [opd, zv]) ?_
 refine ow_me rfl ?_
 refine ow_on (by simp only [opd, zv]) ?_
 refine ow_op (by simp only [zo, binD, zb, Int.reduceEq, Int.reduceToNat, Int.reduceLT, f1, f2, f3, f4, f5] <;> exact rfl) ?_
 refine ow_op (by simp only [zo, f1, f2, f3, f4, f5] <;> exact rfl) ?_
 refine ow_ml rfl ?_
 refine ow_know 0 (b := false) (by simp only [opd, zv, f1, f2, f3, f4, f5] <;> rfl) (by simp only [zn] <;> exact rfl) ?_
 refine ow_on (by simp only [opd, zv]) ?_
 refine ow_op (by simp only [zo, faddrD_ptr, faddrD_cptr, zm, f1, f2, f3, f4, f5] <;> exact rfl) ?_
 refine ow_on (by simp only [opd, zv]) ?_
 refine ow_op (by simp only [zl, zm, zd, partD, List.take, List.drop, f1, f2, f3, f4, f5] <;> exact rfl) ?_
 refine ow_on (by simp only [opd, zv]) ?_
 refine ow_me rfl ?_
 refine ow_on (by simp only [opd, zv]) ?_
 refine ow_op (by simp only [zo, faddrD_ptr, faddrD_cptr, zm, f1, f2, f3, f4, f5] <;> exact rfl) ?_
 refine ow_on (by simp only [opd, zv]) ?_
 refine ow_op (by simp only [zl, zm, zd, partD, List.take, List.drop, f1, f2, f3, f4, f5] <;> exact rfl) ?_
 refine ow_on (by simp only [opd, zv]) ?_
 refine ow_op (by simp only [zo, binD, zb, Int.reduceEq, Int.reduceToNat, Int.reduceLT, f1, f2, f3, f4, f5] <;> exact rfl) ?_
 refine ow_on (by simp only [opd, zv]) ?_
 refine ow_op (by simp only [zo, binD, zb, Int.reduceEq, Int.reduceToNat, Int.reduceLT, f1, f2, f3, f4, f5] <;> exact rfl) ?_
 refine ow_op (by simp only [zo, f1, f2, f3, f4, f5] <;> exact rfl) ?_
 refine ow_ml rfl ?_
 refine ow_know 0 (b := false) (by simp only [opd, zv, f1, f2, f3, f4, f5] <;> rfl) (by simp only [zn] <;> exact rfl) ?_
 refine ow_on (by simp only [opd, zv]) ?_
 refine ow_op (by simp only [zo, faddrD_ptr, faddrD_cptr, zm, f1, f2, f3, f4, f5] <;> exact rfl) ?_
 refine ow_on (by simp only [opd, zv]) ?_
 refine ow_op (by simp only [zo, faddrD_ptr, faddrD_cptr, zm, f1, f2, f3, f4, f5] <;> exact rfl) ?_
 refine ow_on (by simp only [opd, zv]) ?_
 refine ow_op (by simp only [zl, zm, zd, partD, List.take, List.drop, f1, f2, f3, f4, f5] <;> exact rfl) ?_
 refine ow_on (by simp only [opd, zv]) ?_
 refine ow_op (by simp only [zo, faddrD_ptr, faddrD_cptr, zm, f1, f2, f3, f4, f5] <;> exact rfl) ?_
 refine ow_on (by simp only [opd, zv]) ?_
 refine ow_op (by simp only [zl, zm, zd, partD, List.take, List.drop, f1, f2, f3, f4, f5] <;> exact rfl) ?_
 refine ow_on (by simp only [opd, zv]) ?_
 refine ow_op (by simp only [zo, binD, zb, Int.reduceEq, Int.reduceToNat, Int.reduceLT, f1, f2, f3, f4, f5] <;> exact rfl) ?_
 refine ow_op (by simp only [zo, f1, f2, f3, f4, f5] <;> exact rfl) ?_
 refine ow_nil ?_
 refine sk_n (by simp only [ze] <;> exact rfl) ?_
 skip
 refine cw_false (by simp only [opd, zv, f1, f2, f3, f4, f5] <;> rfl) ?_
 refine cw_skip (sk_n rfl (cw_seq (cw_seq (cw_region ?_))))
 refine ow_op (by simp only [zo, faddrD_ptr, faddrD_cptr, zm, f1, f2, f3, f4, f5] <;> exact rfl) ?_
 refine ow_op (by simp only [zo, faddrD_ptr, faddrD_cptr, zm, f1, f2, f3, f4, f5] <;> exact rfl) ?_
 refine ow_op (by simp only [zl, zm, zd, partD, List.take, List.drop, f1, f2, f3, f4, f5] <;> exact rfl) ?_
 refine ow_nil ?_
 refine sk_n (by simp only [ze] <;> exact rfl) ?_
 refine cw_block (cw_seq (cw_seq (cw_region ?_)))
 refine ow_op (by simp only [zo, binD, zb, Int.reduceEq, Int.reduceToNat, Int.reduceLT, f1, f2, f3, f4, f5] <;> exact rfl) ?_
 refine ow_ml rfl ?_
 refine ow_nil ?_
 refine sk_n (by simp only [ze] <;> exact rfl) ?_
 skip
 refine cw_false (by simp only [opd, zv, f1, f2, f3, f4, f5] <;> (rw [hc4] <;> rfl)) ?_
 refine cw_seq (cw_region ?_)
 refine ow_op (by simp only [zo, binD, zb, Int.reduceEq, Int.reduceToNat, Int.reduceLT, f1, f2, f3, f4, f5] <;> exact rfl) ?_
 refine ow_ml rfl ?_
 refine ow_nil ?_
 refine sk_n (by simp only [ze] <;> exact rfl) ?_
 skip
 refine cw_false (by simp only [opd, zv, f1, f2, f3, f4, f5] <;> (rw [hc4] <;> rfl)) ?_
 refine cw_region ?_
 refine ow_op (by simp only [zo, binD, zb, Int.reduceEq, Int.reduceToNat, Int.reduceLT, f1, f2, f3, f4, f5] <;> exact rfl) ?_
 refine ow_ml rfl ?_
 refine ow_nil ?_
 refine sk_n (by simp only [ze] <;> exact rfl) ?_
 skip
 refine cw_false (by simp only [opd, zv, f1, f2, f3, f4, f5] <;> (rw [hc4] <;> rfl)) ?_
 refine cw_seq (cw_region ?_)
 refine ow_op (by simp only [zo, binD, zb, Int.reduceEq, Int.reduceToNat, Int.reduceLT, f1, f2, f3, f4, f5] <;> exact rfl) ?_
 refine ow_ml rfl ?_
 refine ow_nil ?_
 refine sk_n (by simp only [ze] <;> exact rfl) ?_
 skip
 refine cw_true (by simp only [opd, zv, f1, f2, f3, f4, f5] <;> (rw [hc4] <;> rfl)) ?_
 refine cw_seq ?_
 refine cw_drawn (by simp only [newsVals, zw, Nat.reduceAdd] <;> exact rfl) (by simp only [zw, newsObj, St.eta] <;> exact rfl) ?_
 refine dw_quiet (by simp only [zo, faddrD_ptr, faddrD_cptr, zm, f1, f2, f3, f4, f5] <;> exact rfl) rfl rfl ?_
 refine dw_op (by simp only [zl, zm, zd, partD, List.take, List.drop, f1, f2, f3, f4, f5] <;> exact rfl) (by simp only [fpHere, zo, zq] <;> exact rfl) rfl ?_
 refine dw_quiet (by simp only [zo, faddrD_ptr, faddrD_cptr, zm, f1, f2, f3, f4, f5] <;> exact rfl) rfl rfl ?_
 refine dw_op (by simp only [zl, zm, zd, partD, List.take, List.drop, f1, f2, f3, f4, f5] <;> exact rfl) (by simp only [fpHere, zo, zq] <;> exact rfl) rfl ?_
 refine dw_op (show _ = some (D.msl 2 0 0 k.n none, (⟨[⟨59, 14, [[.int .i64 k.a, .int .i64 k.n, .int .u8 k.cat, .int .u8 k.us, .str k.pic, .int .i64 k.dg, .int .i64 k.sc, .bool k.sg, .bool k.le, .bool k.se, .bool k.ju, .bool k.bl, .int .i64 k.sz, .bool k.dn]], 0, 0, false⟩, ⟨57, 2, [[.int .i64 k.a, .int .i64 k.n]], 0, 0, false⟩, ⟨5, 1, List.replicate k.n [.int .u8 0], 0, 1, false⟩], 0⟩ : St), true) by simp only [opd, zv, exOp, aop, LOp.loud, lop, if_true]; rw [if_pos hmk]; simp only [newAt, Int.toNat_natCast, List.cons_append, List.nil_append, List.length_cons, List.length_nil, ne_eq, not_true_eq_false, decide_false]) (by simp only [fpHere, zo, zq] <;> exact rfl) rfl ?_
 refine dw_quiet (by simp only [zo, fillD, overlay, zc, List.take, List.drop, Nat.reduceAdd, Nat.reduceLeDiff, Nat.reduceBEq, zm, f1, f2, f3, f4, f5] <;> exact rfl) rfl rfl ?_
 refine dw_op (by simp only [zo, f1, f2, f3, f4, f5]; exact (run_snap rfl (by simp only [snapVs, snapV_agg, snaps, snap_int, snap_str, snap_bool, snap_sl, Option.map_some, snap_msl, List.getElem?_cons_zero, List.getElem?_cons_succ, eq_self, true_or, and_self, if_true, List.drop_zero, Bool.false_eq_true, if_false, List.length_replicate, Nat.sub_zero, List.take_replicate, Nat.min_self, hzz] <;> exact rfl) (by simp only [snapVs, snapV_agg, snaps, snap_int, snap_str, snap_bool, snap_sl, Option.map_some, snap_msl, List.getElem?_cons_zero, List.getElem?_cons_succ, eq_self, true_or, and_self, if_true, List.drop_zero, Bool.false_eq_true, if_false, List.length_replicate, Nat.sub_zero, List.take_replicate, Nat.min_self, hzz] <;> exact rfl)).trans (hk _ _ (by omega))) (by simp only [fpHere, zo, zq] <;> exact rfl) rfl ?_
 refine dw_ml rfl rfl ?_
 refine dw_nil ?_
 refine sk_n (by simp only [ze] <;> exact rfl) ?_
 refine cw_seq (cw_region ?_)
 refine ow_me rfl ?_
 refine ow_op (by simp only [zo, binD, zb, Int.reduceEq, Int.reduceToNat, Int.reduceLT, f1, f2, f3, f4, f5] <;> exact rfl) ?_
 refine ow_ml rfl ?_
 refine ow_know 0 (b := false) (by simp only [opd, zv, f1, f2, f3, f4, f5] <;> rfl) (by simp only [zn] <;> exact rfl) ?_
 refine ow_on (by simp only [opd, zv]) ?_
 refine ow_me rfl ?_
 refine ow_on (by simp only [opd, zv]) ?_
 refine ow_op (by simp only [zo, binD, zb, Int.reduceEq, Int.reduceToNat, Int.reduceLT, f1, f2, f3, f4, f5] <;> exact rfl) ?_
 refine ow_op (by simp only [zo, f1, f2, f3, f4, f5] <;> exact rfl) ?_
 refine ow_ml rfl ?_
 refine ow_nil ?_
 refine sk_n (by simp only [ze] <;> exact rfl) ?_
 refine cw_ret (bk_r (sk_r ?_))
 refine ⟨_, by simp only [F46, resultD, resDs, resD, List.getD_cons_zero, List.getD_cons_succ, zd, rowsOf, partD, List.getElem?_cons_zero, List.getElem?_cons_succ, if_true, if_false, Bool.false_eq_true, List.take, List.drop, zm] <;> exact rfl, ?_⟩
 simp only [leaveP, leave, snapVs, snaps, zs, zf, zk]

theorem keyV_run {d : Nat} (hd : 16 ≤ d) (S : St) (k : Ke) (size : Nat) (hs : size ≤ 4096) (h : KOK size k) : runF LP NN d 46 [.agg [.int .i64 k.a, .int .i64 k.n, .int .u8 k.cat, .int .u8 k.us, .str k.pic, .int .i64 k.dg, .int .i64 k.sc, .bool k.sg, .bool k.le, .bool k.se, .bool k.ju, .bool k.bl, .int .i64 k.sz, .bool k.dn], .int .i64 size] S = some (.bool true, S, false) := by
 rcases h.kd with hc | ⟨hc, e, he, hk⟩
 ·
  exact keyVT hd S k size hs h hc
 ·
  rcases he with rfl | rfl
  ·
   exact keyVN0 hd S k size hs h hc hk
  ·
   exact keyVN15 hd S k size hs h hc hk

end Go.Proofs.YtabgobmeibjeeaaGreatDoor

namespace Go.Proofs.YtabgobmeibjeeaaGreatDoor
set_option linter.unusedSimpArgs false
set_option linter.unusedVariables false
set_option maxRecDepth 10000

theorem check_run {d : Nat} (hd : 17 ≤ d) (S : St) {x : D} {ks : List Ke} (hS : SlD 14 (keRows ks) x) (hne : 0 < ks.length) (h8 : ks.length ≤ 8) (size : Nat) (hs1 : 1 ≤ size) (hs : size ≤ 4096) (hk0 : ∀ k ∈ ks, KOK size k) : runF LP NN d 29 [x, .int .i64 size] S = some (.int .i64 0, S, false) := by
 have g1 : decide ((ks.length : Int) > 8) = false := decide_eq_false (by omega)
 have g2 : decide ((size : Int) > 4096) = false := decide_eq_false (by omega)
 have g3 : ((ks.length : Int) == 0) = false := by simp; exact fun h => by rw [h] at hne; simp at hne
 have g4 : decide ((size : Int) < 1) = false := decide_eq_false (by omega)
 refine run_pure (F := F29) rfl (by simp only [LP, fnOf, snapVs, snaps, zs, Bool.false_eq_true, if_false, Option.map_some, List.map_cons, List.map_nil, hS.snapV, hS.freeV] <;> exact rfl) rfl (by simp only [LP, zf, List.all_cons, List.all_nil, Bool.and_true, Bool.true_and, hS.snapV, hS.freeV]; try rfl) (by simp only [F29, zv] <;> exact rfl) (by omega) ?_
 rintro d rfl
 refine cw_seq (cw_region ?_)
 refine ow_mc ?_
 refine ow_nil ?_
 refine sk_n (by simp only [ze] <;> exact rfl) ?_
 refine cw_seq (cw_block (cw_seq (cw_region ?_)))
 refine ow_me rfl ?_
 refine ow_op (by simp only [zo, lenD_str, lenD_nils, lenD_sl, lenD_msl, hS.len, keRows_len, g1, g2, g3, g4, Bool.not_true] <;> exact rfl) ?_
 refine ow_op (by simp only [zo, binD, zb, Int.reduceEq, Int.reduceToNat, Int.reduceLT, hS.len, keRows_len, g1, g2, g3, g4, Bool.not_true] <;> exact rfl) ?_
 refine ow_ml rfl ?_
 refine ow_know 0 (b := false) (by simp only [opd, zv, hS.len, keRows_len, g1, g2, g3, g4, Bool.not_true] <;> rfl) (by simp only [zn] <;> exact rfl) ?_
 refine ow_on (by simp only [opd, zv]) ?_
 refine ow_me rfl ?_
 refine ow_on (by simp only [opd, zv]) ?_
 refine ow_op (by simp only [zo, binD, zb, Int.reduceEq, Int.reduceToNat, Int.reduceLT, hS.len, keRows_len, g1, g2, g3, g4, Bool.not_true] <;> exact rfl) ?_
 refine ow_op (by simp only [zo, hS.len, keRows_len, g1, g2, g3, g4, Bool.not_true] <;> exact rfl) ?_
 refine ow_ml rfl ?_
 refine ow_nil ?_
 refine sk_n (by simp only [ze] <;> exact rfl) ?_
 skip
 refine cw_false (by simp only [opd, zv, hS.len, keRows_len, g1, g2, g3, g4, Bool.not_true] <;> rfl) ?_
 refine cw_seq (cw_region ?_)
 refine ow_me rfl ?_
 refine ow_op (by simp only [zo, lenD_str, lenD_nils, lenD_sl, lenD_msl, hS.len, keRows_len, g1, g2, g3, g4, Bool.not_true] <;> exact rfl) ?_
 refine ow_op (by simp only [zo, binD, zb, Int.reduceEq, Int.reduceToNat, Int.reduceLT, hS.len, keRows_len, g1, g2, g3, g4, Bool.not_true] <;> exact rfl) ?_
 refine ow_ml rfl ?_
 refine ow_know 0 (b := false) (by simp only [opd, zv, hS.len, keRows_len, g1, g2, g3, g4, Bool.not_true] <;> rfl) (by simp only [zn] <;> exact rfl) ?_
 refine ow_on (by simp only [opd, zv]) ?_
 refine ow_me rfl ?_
 refine ow_on (by simp only [opd, zv]) ?_
 refine ow_op (by simp only [zo, binD, zb, Int.reduceEq, Int.reduceToNat, Int.reduceLT, hS.len, keRows_len, g1, g2, g3, g4, Bool.not_true] <;> exact rfl) ?_
 refine ow_op (by simp only [zo, hS.len, keRows_len, g1, g2, g3, g4, Bool.not_true] <;> exact rfl) ?_
 refine ow_ml rfl ?_
 refine ow_nil ?_
 refine sk_n (by simp only [ze] <;> exact rfl) ?_
 skip
 refine cw_false (by simp only [opd, zv, hS.len, keRows_len, g1, g2, g3, g4, Bool.not_true] <;> rfl) ?_
 refine cw_skip (bk_n (sk_n rfl (cw_seq (cw_seq (cw_region ?_)))))
 refine ow_me rfl ?_
 refine ow_op (by simp only [zo, lenD_str, lenD_nils, lenD_sl, lenD_msl, hS.len, keRows_len, g1, g2, g3, g4, Bool.not_true] <;> exact rfl) ?_
 refine ow_mc ?_
 refine ow_nil ?_
 refine sk_n (by simp only [ze] <;> exact rfl) ?_
 refine cw_block ?_
 refine cw_loop (fun n env S' => ∃ (i : Nat) (H : List AObj) (u3 u4 u5 u9 u10 : D), i ≤ ks.length ∧ n = ks.length - i ∧ S' = ⟨H, 0⟩ ∧ env = [x, .int .i64 size, .int .i64 0, u3, u4, u5, x, .int .i64 ks.length, .int .i64 i, u9, u10]) (ks.length) (by omega) (⟨0, _, _, _, _, _, _, by omega, by omega, rfl, rfl⟩) ?_
 rintro n env S' ⟨i, H, u3, u4, u5, u9, u10, hi, rfl, rfl, rfl⟩
 have h0 : (0 : Int) ≤ (i : Int) := by omega
 refine cw_seq (cw_region ?_)
 refine ow_op (by simp only [zo, binD, zb, Int.reduceEq, Int.reduceToNat, Int.reduceLT, hS.len, keRows_len, g1, g2, g3, g4, Bool.not_true, h0] <;> exact rfl) ?_
 refine ow_nil ?_
 refine sk_n (by simp only [ze] <;> exact rfl) ?_
 refine cw_seq ?_
 refine cw_cond (by simp only [opd, zv, hS.len, keRows_len, g1, g2, g3, g4, Bool.not_true, h0] <;> exact rfl) (fun hcA => ?_) (fun hcA => ?_)
 ·
  have hlt : i < ks.length := by have := of_decide_eq_true hcA; omega
  have hw := wrap_nat i (by omega)
  obtain ⟨k, hk⟩ : ∃ k, ks[i]? = some k := ⟨_, List.getElem?_eq_getElem hlt⟩
  have hkm := List.mem_of_getElem? hk
  have hia := fun (S : St) => hS.iaddrN S .i64 (keRows_at hk)
  refine cw_skip (sk_n rfl (cw_seq (cw_block (cw_seq (cw_region ?_)))))
  refine ow_op (by simp only [zl, zm, iaddrD_sl, iaddrD_msl, Int.toNat_natCast, Int.toNat_zero, List.getElem?_map, Option.map_some, Int.le_refl, hS.len, keRows_len, g1, g2, g3, g4, Bool.not_true, h0, hw, hia] <;> exact rfl) ?_
  refine ow_op (by simp only [zl, zm, zd, partD, List.take, List.drop, hS.len, keRows_len, g1, g2, g3, g4, Bool.not_true, h0, hw, hia] <;> exact rfl) ?_
  refine ow_op (by simp only [zl, zm, hS.len, keRows_len, g1, g2, g3, g4, Bool.not_true, h0, hw, hia] <;> exact rfl) ?_
  refine ow_op (by simp only [zl, zm, storeD, overlay, snapVs, snaps, zs, zc, zf, List.take, List.drop, hS.len, keRows_len, g1, g2, g3, g4, Bool.not_true, h0, hw, hia] <;> exact rfl) ?_
  refine ow_nil ?_
  refine sk_n (by simp only [ze] <;> exact rfl) ?_
  refine cw_seq (cw_region ?_)
  refine ow_op (by simp only [zl, zm, zd, partD, List.take, List.drop, hS.len, keRows_len, g1, g2, g3, g4, Bool.not_true, h0, hw, hia] <;> exact rfl) ?_
  refine ow_me rfl ?_
  refine ow_op (by simp only [zo, hS.len, keRows_len, g1, g2, g3, g4, Bool.not_true, h0, hw, hia]; exact keyV_run (by omega) _ k size hs (hk0 k hkm)) ?_
  refine ow_op (by simp only [zo, unD, hS.len, keRows_len, g1, g2, g3, g4, Bool.not_true, h0, hw, hia] <;> exact rfl) ?_
  refine ow_nil ?_
  refine sk_n (by simp only [ze] <;> exact rfl) ?_
  skip
  refine cw_false (by simp only [opd, zv, hS.len, keRows_len, g1, g2, g3, g4, Bool.not_true, h0, hw, hia] <;> rfl) ?_
  refine cw_skip (bk_n (sk_n rfl (cw_region ?_)))
  refine ow_op (by simp only [zo, binD, zb, Int.reduceEq, Int.reduceToNat, Int.reduceLT, hS.len, keRows_len, g1, g2, g3, g4, Bool.not_true, h0, hw, hia] <;> exact rfl) ?_
  refine ow_ml rfl ?_
  refine ow_nil ?_
  refine lk_n (by simp only [ze] <;> exact rfl) ?_
  exact ⟨ks.length - (i + 1), by omega, i + 1, _, _, _, _, _, _, by omega, rfl, rfl, rfl⟩
 ·
  have hge : ks.length ≤ i := by have := of_decide_eq_false hcA; omega
  refine cw_exit (sk_e (lk_e (bk_e (sk_n rfl (cw_seq (cw_region ?_))))))
  refine ow_mc ?_
  refine ow_nil ?_
  refine sk_n (by simp only [ze] <;> exact rfl) ?_
  refine cw_ret ?_
  refine ⟨_, by simp only [F29, resultD, resDs, resD, List.getD_cons_zero, List.getD_cons_succ, zd, rowsOf, partD, List.getElem?_cons_zero, List.getElem?_cons_succ, if_true, if_false, Bool.false_eq_true, List.take, List.drop, zm] <;> exact rfl, ?_⟩
  simp only [leaveP, leave, snapVs, snaps, zs, zf, zk]

end Go.Proofs.YtabgobmeibjeeaaGreatDoor

namespace Go.Proofs.YtabgobmeibjeeaaGreatDoor
set_option linter.unusedSimpArgs false
set_option linter.unusedVariables false
set_option maxRecDepth 10000

theorem valid_run {d : Nat} (hd : 15 ≤ d) (S : St) {x y : D} {ks : List Ke} {rows : List (List D)} (hS : SlD 14 (keRows ks) x) (hR : SlD 1 rows y) (h8 : ks.length ≤ 8) (hb : rows.length ≤ 1000000) (hk0 : ∀ k ∈ ks, KOK rows.length k) (hv : ∀ k ∈ ks, k.cat = 4 → ∀ (d : Nat) (S : St), 14 ≤ d → runF LP NN d 78 [.agg [.int .u8 k.cat, .int .u8 k.us, .str k.pic, .int .i64 k.dg, .int .i64 k.sc, .bool k.sg, .bool k.le, .bool k.se, .bool k.ju, .bool k.bl, .int .i64 k.sz, subD k.a k.n y]] S = some (.int .i64 0, S, false)) : runF LP NN d 44 [x, .int .i64 rows.length, y] S = some (.int .i64 0, S, false) := by
 refine run_pure (F := F44) rfl (by simp only [LP, fnOf, snapVs, snaps, zs, Bool.false_eq_true, if_false, Option.map_some, List.map_cons, List.map_nil, hS.snapV, hS.freeV, hR.snapV, hR.freeV] <;> exact rfl) rfl (by simp only [LP, zf, List.all_cons, List.all_nil, Bool.and_true, Bool.true_and, hS.snapV, hS.freeV, hR.snapV, hR.freeV]; try rfl) (by simp only [F44, zv] <;> exact rfl) (by omega) ?_
 rintro d rfl
 refine cw_seq (cw_region ?_)
 refine ow_mc ?_
 refine ow_nil ?_
 refine sk_n (by simp only [ze] <;> exact rfl) ?_
 refine cw_seq (cw_seq (cw_region ?_))
 refine ow_me rfl ?_
 refine ow_op (by simp only [zo, lenD_str, lenD_nils, lenD_sl, lenD_msl, hS.len, hR.len, keRows_len, bne_self_eq_false] <;> exact rfl) ?_
 refine ow_me rfl ?_
 refine ow_op (by simp only [zo, binD, zb, Int.reduceEq, Int.reduceToNat, Int.reduceLT, hS.len, hR.len, keRows_len, bne_self_eq_false] <;> exact rfl) ?_
 refine ow_nil ?_
 refine sk_n (by simp only [ze] <;> exact rfl) ?_
 skip
 refine cw_false (by simp only [opd, zv, hS.len, hR.len, keRows_len, bne_self_eq_false] <;> rfl) ?_
 refine cw_skip (sk_n rfl (cw_seq (cw_seq (cw_region ?_))))
 refine ow_me rfl ?_
 refine ow_op (by simp only [zo, lenD_str, lenD_nils, lenD_sl, lenD_msl, hS.len, hR.len, keRows_len, bne_self_eq_false] <;> exact rfl) ?_
 refine ow_mc ?_
 refine ow_nil ?_
 refine sk_n (by simp only [ze] <;> exact rfl) ?_
 refine cw_block ?_
 refine cw_loop (fun n env S' => ∃ (i : Nat) (H : List AObj) (u4 u5 u9 u10 : D), i ≤ ks.length ∧ n = ks.length - i ∧ S' = ⟨H, 0⟩ ∧ env = [x, .int .i64 rows.length, y, .int .i64 0, u4, u5, x, .int .i64 ks.length, .int .i64 i, u9, u10]) (ks.length) (by omega) (⟨0, _, _, _, _, _, by omega, by omega, rfl, rfl⟩) ?_
 rintro n env S' ⟨i, H, u4, u5, u9, u10, hi, rfl, rfl, rfl⟩
 have h0 : (0 : Int) ≤ (i : Int) := by omega
 refine cw_seq (cw_region ?_)
 refine ow_op (by simp only [zo, binD, zb, Int.reduceEq, Int.reduceToNat, Int.reduceLT, hS.len, hR.len, keRows_len, bne_self_eq_false, h0] <;> exact rfl) ?_
 refine ow_nil ?_
 refine sk_n (by simp only [ze] <;> exact rfl) ?_
 refine cw_seq ?_
 refine cw_cond (by simp only [opd, zv, hS.len, hR.len, keRows_len, bne_self_eq_false, h0] <;> exact rfl) (fun hcA => ?_) (fun hcA => ?_)
 ·
  have hlt : i < ks.length := by have := of_decide_eq_true hcA; omega
  have hw := wrap_nat i (by omega)
  obtain ⟨k, hk⟩ : ∃ k, ks[i]? = some k := ⟨_, List.getElem?_eq_getElem hlt⟩
  have hkm := List.mem_of_getElem? hk
  have hia := fun (S : St) => hS.iaddrN S .i64 (keRows_at hk)
  refine cw_skip (sk_n rfl (cw_seq (cw_block (cw_seq (cw_region ?_)))))
  refine ow_op (by simp only [zl, zm, iaddrD_sl, iaddrD_msl, Int.toNat_natCast, Int.toNat_zero, List.getElem?_map, Option.map_some, Int.le_refl, hS.len, hR.len, keRows_len, bne_self_eq_false, h0, hw, hia] <;> exact rfl) ?_
  refine ow_op (by simp only [zl, zm, zd, partD, List.take, List.drop, hS.len, hR.len, keRows_len, bne_self_eq_false, h0, hw, hia] <;> exact rfl) ?_
  refine ow_op (by simp only [zl, zm, hS.len, hR.len, keRows_len, bne_self_eq_false, h0, hw, hia] <;> exact rfl) ?_
  refine ow_op (by simp only [zl, zm, storeD, overlay, snapVs, snaps, zs, zc, zf, List.take, List.drop, hS.len, hR.len, keRows_len, bne_self_eq_false, h0, hw, hia] <;> exact rfl) ?_
  refine ow_nil ?_
  refine sk_n (by simp only [ze] <;> exact rfl) ?_
  refine cw_seq (cw_region ?_)
  refine ow_op (by simp only [zo, faddrD_ptr, faddrD_cptr, zm, hS.len, hR.len, keRows_len, bne_self_eq_false, h0, hw, hia] <;> exact rfl) ?_
  refine ow_op (by simp only [zo, faddrD_ptr, faddrD_cptr, zm, hS.len, hR.len, keRows_len, bne_self_eq_false, h0, hw, hia] <;> exact rfl) ?_
  refine ow_op (by simp only [zl, zm, zd, partD, List.take, List.drop, hS.len, hR.len, keRows_len, bne_self_eq_false, h0, hw, hia] <;> exact rfl) ?_
  refine ow_op (by simp only [zo, binD, zb, Int.reduceEq, Int.reduceToNat, Int.reduceLT, hS.len, hR.len, keRows_len, bne_self_eq_false, h0, hw, hia] <;> exact rfl) ?_
  refine ow_ml rfl ?_
  refine ow_split 0 (by simp only [opd, zv] <;> exact rfl) (by simp only [zn] <;> exact rfl) (by simp only [zn] <;> exact rfl) (fun hgAT => ?_) (fun hgAT => ?_)
  ·
   refine ow_on (by simp only [opd, zv]) ?_
   refine ow_op (by simp only [zl, zm, zd, partD, List.take, List.drop, hS.len, hR.len, keRows_len, bne_self_eq_false, h0, hw, hia, hR.isCell] <;> exact rfl) ?_
   refine ow_on (by simp only [opd, zv]) ?_
   refine ow_me rfl ?_
   refine ow_on (by simp only [opd, zv]) ?_
   refine ow_op (by simp only [zo, hS.len, hR.len, keRows_len, bne_self_eq_false, h0, hw, hia, hR.isCell]; exact field_run (by omega) _ k hR (hk0 k hkm).fit hb) ?_
   refine ow_on (by simp only [opd, zv]) ?_
   refine ow_op (by simp only [zo, hS.len, hR.len, keRows_len, bne_self_eq_false, h0, hw, hia, hR.isCell]; exact hv k hkm (by simpa using hgAT) _ _ (by omega)) ?_
   refine ow_on (by simp only [opd, zv]) ?_
   refine ow_op (by simp only [zo, binD, zb, Int.reduceEq, Int.reduceToNat, Int.reduceLT, hS.len, hR.len, keRows_len, bne_self_eq_false, h0, hw, hia, hR.isCell] <;> exact rfl) ?_
   refine ow_op (by simp only [zo, hS.len, hR.len, keRows_len, bne_self_eq_false, h0, hw, hia, hR.isCell] <;> exact rfl) ?_
   refine ow_nil ?_
   refine sk_n (by simp only [ze] <;> exact rfl) ?_
   skip
   refine cw_false (by simp only [opd, zv, hS.len, hR.len, keRows_len, bne_self_eq_false, h0, hw, hia, hR.isCell] <;> rfl) ?_
   refine cw_skip (bk_n (sk_n rfl (cw_region ?_)))
   refine ow_op (by simp only [zo, binD, zb, Int.reduceEq, Int.reduceToNat, Int.reduceLT, hS.len, hR.len, keRows_len, bne_self_eq_false, h0, hw, hia, hR.isCell] <;> exact rfl) ?_
   refine ow_ml rfl ?_
   refine ow_nil ?_
   refine lk_n (by simp only [ze] <;> exact rfl) ?_
   exact ⟨ks.length - (i + 1), by omega, i + 1, _, _, _, _, _, by omega, rfl, rfl, rfl⟩
  ·
   refine ow_off (b' := false) (by simp only [opd, zv]) rfl ?_
   refine ow_off (b' := false) (by simp only [opd, zv]) rfl ?_
   refine ow_off (b' := false) (by simp only [opd, zv]) rfl ?_
   refine ow_off (b' := false) (by simp only [opd, zv]) rfl ?_
   refine ow_off (b' := false) (by simp only [opd, zv]) rfl ?_
   refine ow_op (by simp only [zo, hS.len, hR.len, keRows_len, bne_self_eq_false, h0, hw, hia] <;> exact rfl) ?_
   refine ow_nil ?_
   refine sk_n (by simp only [ze] <;> exact rfl) ?_
   refine cw_false (by simp only [opd, zv, hS.len, hR.len, keRows_len, bne_self_eq_false, h0, hw, hia]) ?_
   refine cw_skip (bk_n (sk_n rfl (cw_region ?_)))
   refine ow_op (by simp only [zo, binD, zb, Int.reduceEq, Int.reduceToNat, Int.reduceLT, hS.len, hR.len, keRows_len, bne_self_eq_false, h0, hw, hia] <;> exact rfl) ?_
   refine ow_ml rfl ?_
   refine ow_nil ?_
   refine lk_n (by simp only [ze] <;> exact rfl) ?_
   exact ⟨ks.length - (i + 1), by omega, i + 1, _, _, _, _, _, by omega, rfl, rfl, rfl⟩
 ·
  have hge : ks.length ≤ i := by have := of_decide_eq_false hcA; omega
  refine cw_exit (sk_e (lk_e (bk_e (sk_n rfl (cw_seq (cw_region ?_))))))
  refine ow_mc ?_
  refine ow_nil ?_
  refine sk_n (by simp only [ze] <;> exact rfl) ?_
  refine cw_ret ?_
  refine ⟨_, by simp only [F44, resultD, resDs, resD, List.getD_cons_zero, List.getD_cons_succ, zd, rowsOf, partD, List.getElem?_cons_zero, List.getElem?_cons_succ, if_true, if_false, Bool.false_eq_true, List.take, List.drop, zm] <;> exact rfl, ?_⟩
  simp only [leaveP, leave, snapVs, snaps, zs, zf, zk]

end Go.Proofs.YtabgobmeibjeeaaGreatDoor

namespace Go.Proofs.YtabgobmeibjeeaaGreatDoor
set_option linter.unusedSimpArgs false
set_option linter.unusedVariables false
set_option maxRecDepth 10000

/-- the first key that tells -/
def firstC : List (Int × Bool) → Int
 | [] => 0
 | (c, dn) :: r => if c == 0 then firstC r else if dn then IntKind.i64.wrap (0 - c) else c

theorem compare_run {d : Nat} (hd : 15 ≤ d) (S : St) {x y z : D} {ks : List Ke} {r1 r2 : List (List D)} (hS : SlD 14 (keRows ks) x) (hR : SlD 1 r1 y) (hQ : SlD 1 r2 z) (h8 : ks.length ≤ 8) (hb1 : r1.length ≤ 1000000) (hb2 : r2.length ≤ 1000000) (hky : ∀ k ∈ ks, k.a + k.n ≤ r1.length) (hkz : ∀ k ∈ ks, k.a + k.n ≤ r2.length) (kc : Ke → Int) (hT : ∀ k ∈ ks, k.cat ≠ 4 → ∀ (d : Nat) (S : St), 3 ≤ d → runF LP NN d 53 [subD k.a k.n y, subD k.a k.n z] S = some (.int .i64 (kc k), S, false)) (hN : ∀ k ∈ ks, k.cat = 4 → ∃ (na nb : Bool) (sa sb : ByteArray), (∀ (d : Nat) (S : St), 14 ≤ d → runF LP NN d 51 [.agg [.int .u8 k.cat, .int .u8 k.us, .str k.pic, .int .i64 k.dg, .int .i64 k.sc, .bool k.sg, .bool k.le, .bool k.se, .bool k.ju, .bool k.bl, .int .i64 k.sz, subD k.a k.n y]] S = some (.tup [.agg [.bool na, .str sa, .int .i64 0], .int .i64 0], S, false)) ∧ (∀ (d : Nat) (S : St), 14 ≤ d → runF LP NN d 51 [.agg [.int .u8 k.cat, .int .u8 k.us, .str k.pic, .int .i64 k.dg, .int .i64 k.sc, .bool k.sg, .bool k.le, .bool k.se, .bool k.ju, .bool k.bl, .int .i64 k.sz, subD k.a k.n z]] S = some (.tup [.agg [.bool nb, .str sb, .int .i64 0], .int .i64 0], S, false)) ∧ (∀ (d : Nat) (S : St), 8 ≤ d → runF LP NN d 52 [.agg [.bool na, .str sa, .int .i64 0], .agg [.bool nb, .str sb, .int .i64 0]] S = some (.tup [.int .i64 (kc k), .int .i64 0], S, false))) : runF LP NN d 33 [x, y, z] S = some (.int .i64 (firstC (ks.map fun k => (kc k, k.dn))), S, false) := by
 refine run_pure (F := F33) rfl (by simp only [LP, fnOf, snapVs, snaps, zs, Bool.false_eq_true, if_false, Option.map_some, List.map_cons, List.map_nil, hS.snapV, hS.freeV, hR.snapV, hR.freeV, hQ.snapV, hQ.freeV] <;> exact rfl) rfl (by simp only [LP, zf, List.all_cons, List.all_nil, Bool.and_true, Bool.true_and, hS.snapV, hS.freeV, hR.snapV, hR.freeV, hQ.snapV, hQ.freeV]; try rfl) (by simp only [F33, zv] <;> exact rfl) (by omega) ?_
 rintro d rfl
 refine cw_seq (cw_region ?_)
 refine ow_mc ?_
 refine ow_nil ?_
 refine sk_n (by simp only [ze] <;> exact rfl) ?_
 refine cw_seq (cw_skip (sk_n rfl (cw_seq (cw_seq (cw_region ?_)))))
 refine ow_me rfl ?_
 refine ow_op (by simp only [zo, lenD_str, lenD_nils, lenD_sl, lenD_msl, hS.len, keRows_len, Nat.add_assoc, Nat.reduceAdd] <;> exact rfl) ?_
 refine ow_mc ?_
 refine ow_nil ?_
 refine sk_n (by simp only [ze] <;> exact rfl) ?_
 refine cw_block ?_
 refine cw_loop (fun n env S' => ∃ (i : Nat) (H : List AObj) (u4 u5 u6 u7 u8 u9 u13 u14 u15 u16 : D), i ≤ ks.length ∧ n = ks.length - i ∧ firstC ((ks.drop i).map fun k => (kc k, k.dn)) = firstC (ks.map fun k => (kc k, k.dn)) ∧ S' = ⟨H, 0⟩ ∧ env = [x, y, z, .int .i64 0, u4, u5, u6, u7, u8, u9, x, .int .i64 ks.length, .int .i64 i, u13, u14, u15, u16]) (ks.length) (by omega) (⟨0, _, _, _, _, _, _, _, _, _, _, _, by omega, by omega, rfl, rfl, rfl⟩) ?_
 rintro n env S' ⟨i, H, u4, u5, u6, u7, u8, u9, u13, u14, u15, u16, hi, rfl, hF, rfl, rfl⟩
 have h0 : (0 : Int) ≤ (i : Int) := by omega
 refine cw_seq (cw_region ?_)
 refine ow_op (by simp only [zo, binD, zb, Int.reduceEq, Int.reduceToNat, Int.reduceLT, hS.len, keRows_len, Nat.add_assoc, Nat.reduceAdd, h0] <;> exact rfl) ?_
 refine ow_nil ?_
 refine sk_n (by simp only [ze] <;> exact rfl) ?_
 refine cw_seq ?_
 refine cw_cond (by simp only [opd, zv, hS.len, keRows_len, Nat.add_assoc, Nat.reduceAdd, h0] <;> exact rfl) (fun hcA => ?_) (fun hcA => ?_)
 ·
  have hlt : i < ks.length := by have := of_decide_eq_true hcA; omega
  have hw := wrap_nat i (by omega)
  obtain ⟨k, hk⟩ : ∃ k, ks[i]? = some k := ⟨_, List.getElem?_eq_getElem hlt⟩
  have hdr : ks.drop i = k :: ks.drop (i + 1) := by rw [List.drop_eq_getElem_cons hlt]; congr 1; exact (List.getElem?_eq_some_iff.1 hk).2
  have hkm := List.mem_of_getElem? hk
  have hia := fun (S : St) => hS.iaddrN S .i64 (keRows_at hk)
  have hsy := hR.sub k.a k.n
  have hsz := hQ.sub k.a k.n
  refine cw_skip (sk_n rfl (cw_seq (cw_block (cw_seq (cw_region ?_)))))
  refine ow_op (by simp only [zl, zm, iaddrD_sl, iaddrD_msl, Int.toNat_natCast, Int.toNat_zero, List.getElem?_map, Option.map_some, Int.le_refl, hS.len, keRows_len, Nat.add_assoc, Nat.reduceAdd, h0, hw, hia, hsy.isCell, hsz.isCell, hsy.val, hsz.val] <;> exact rfl) ?_
  refine ow_op (by simp only [zl, zm, zd, partD, List.take, List.drop, hS.len, keRows_len, Nat.add_assoc, Nat.reduceAdd, h0, hw, hia, hsy.isCell, hsz.isCell, hsy.val, hsz.val] <;> exact rfl) ?_
  refine ow_op (by simp only [zl, zm, hS.len, keRows_len, Nat.add_assoc, Nat.reduceAdd, h0, hw, hia, hsy.isCell, hsz.isCell, hsy.val, hsz.val] <;> exact rfl) ?_
  refine ow_op (by simp only [zl, zm, storeD, overlay, snapVs, snaps, zs, zc, zf, List.take, List.drop, hS.len, keRows_len, Nat.add_assoc, Nat.reduceAdd, h0, hw, hia, hsy.isCell, hsz.isCell, hsy.val, hsz.val] <;> exact rfl) ?_
  refine ow_nil ?_
  refine sk_n (by simp only [ze] <;> exact rfl) ?_
  refine cw_seq ?_
  refine cw_drawn (by simp only [newsVals, zw, Nat.reduceAdd] <;> exact rfl) (by simp only [zw, newsObj, St.eta] <;> exact rfl) ?_
  refine dw_op (by simp only [zl, zm, zd, partD, List.take, List.drop, hS.len, keRows_len, Nat.add_assoc, Nat.reduceAdd, h0, hw, hia, hsy.isCell, hsz.isCell, hsy.val, hsz.val] <;> exact rfl) (by simp only [fpHere, zo, zq, hsy.plain, hsz.plain, plainV_agg, List.all_cons, List.all_nil, plain1_int, plain1_str, plain1_bool, plain1_nils, Bool.and_true, Bool.and_self, if_true] <;> exact rfl) rfl ?_
  refine dw_me rfl rfl ?_
  first
   | refine dw_op (by simp only [zo, hS.len, keRows_len, Nat.add_assoc, Nat.reduceAdd, h0, hw, hia, hsy.isCell, hsz.isCell, hsy.val, hsz.val]; exact field_run (by omega) _ k hR (hky k hkm) hb1) (by simp only [fpHere, zo, zq, hsy.plain, hsz.plain, plainV_agg, List.all_cons, List.all_nil, plain1_int, plain1_str, plain1_bool, plain1_nils, Bool.and_true, Bool.and_self, if_true] <;> exact rfl) rfl ?_
   | refine dw_op (by simp only [zo, hS.len, keRows_len, Nat.add_assoc, Nat.reduceAdd, h0, hw, hia, hsy.isCell, hsz.isCell, hsy.val, hsz.val]; exact field_run (by omega) _ k hQ (hkz k hkm) hb2) (by simp only [fpHere, zo, zq, hsy.plain, hsz.plain, plainV_agg, List.all_cons, List.all_nil, plain1_int, plain1_str, plain1_bool, plain1_nils, Bool.and_true, Bool.and_self, if_true] <;> exact rfl) rfl ?_
  refine dw_op (by simp only [zl, zm, zd, partD, List.take, List.drop, hS.len, keRows_len, Nat.add_assoc, Nat.reduceAdd, h0, hw, hia, hsy.isCell, hsz.isCell, hsy.val, hsz.val] <;> exact rfl) (by simp only [fpHere, zo, zq, hsy.plain, hsz.plain, plainV_agg, List.all_cons, List.all_nil, plain1_int, plain1_str, plain1_bool, plain1_nils, Bool.and_true, Bool.and_self, if_true] <;> exact rfl) rfl ?_
  refine dw_me rfl rfl ?_
  first
   | refine dw_op (by simp only [zo, hS.len, keRows_len, Nat.add_assoc, Nat.reduceAdd, h0, hw, hia, hsy.isCell, hsz.isCell, hsy.val, hsz.val]; exact field_run (by omega) _ k hR (hky k hkm) hb1) (by simp only [fpHere, zo, zq, hsy.plain, hsz.plain, plainV_agg, List.all_cons, List.all_nil, plain1_int, plain1_str, plain1_bool, plain1_nils, Bool.and_true, Bool.and_self, if_true] <;> exact rfl) rfl ?_
   | refine dw_op (by simp only [zo, hS.len, keRows_len, Nat.add_assoc, Nat.reduceAdd, h0, hw, hia, hsy.isCell, hsz.isCell, hsy.val, hsz.val]; exact field_run (by omega) _ k hQ (hkz k hkm) hb2) (by simp only [fpHere, zo, zq, hsy.plain, hsz.plain, plainV_agg, List.all_cons, List.all_nil, plain1_int, plain1_str, plain1_bool, plain1_nils, Bool.and_true, Bool.and_self, if_true] <;> exact rfl) rfl ?_
  refine dw_op (by simp only [zo] <;> exact rfl) rfl rfl ?_
  refine dw_op (by simp only [zo] <;> exact rfl) rfl rfl ?_
  refine dw_op (by simp only [zl, zm, storeD, overlay, snapVs, snaps, zs, zc, zf, List.take, List.drop, hS.len, keRows_len, Nat.add_assoc, Nat.reduceAdd, h0, hw, hia, hsy.isCell, hsz.isCell, hsy.val, hsz.val] <;> exact rfl) (by simp only [fpHere, zo, zq, hsy.plain, hsz.plain, plainV_agg, List.all_cons, List.all_nil, plain1_int, plain1_str, plain1_bool, plain1_nils, Bool.and_true, Bool.and_self, if_true] <;> exact rfl) rfl ?_
  refine dw_op (by simp only [zl, zm, storeD, overlay, snapVs, snaps, zs, zc, zf, List.take, List.drop, hS.len, keRows_len, Nat.add_assoc, Nat.reduceAdd, h0, hw, hia, hsy.isCell, hsz.isCell, hsy.val, hsz.val] <;> exact rfl) (by simp only [fpHere, zo, zq, hsy.plain, hsz.plain, plainV_agg, List.all_cons, List.all_nil, plain1_int, plain1_str, plain1_bool, plain1_nils, Bool.and_true, Bool.and_self, if_true] <;> exact rfl) rfl ?_
  refine dw_nil ?_
  refine sk_n (by simp only [ze] <;> exact rfl) ?_
  refine cw_seq (cw_region ?_)
  refine ow_mc ?_
  refine ow_nil ?_
  refine sk_n (by simp only [ze] <;> exact rfl) ?_
  refine cw_seq (cw_seq (cw_region ?_))
  refine ow_op (by simp only [zo, faddrD_ptr, faddrD_cptr, zm, hS.len, keRows_len, Nat.add_assoc, Nat.reduceAdd, h0, hw, hia, hsy.isCell, hsz.isCell, hsy.val, hsz.val] <;> exact rfl) ?_
  refine ow_op (by simp only [zo, faddrD_ptr, faddrD_cptr, zm, hS.len, keRows_len, Nat.add_assoc, Nat.reduceAdd, h0, hw, hia, hsy.isCell, hsz.isCell, hsy.val, hsz.val] <;> exact rfl) ?_
  refine ow_op (by simp only [zl, zm, zd, partD, List.take, List.drop, hS.len, keRows_len, Nat.add_assoc, Nat.reduceAdd, h0, hw, hia, hsy.isCell, hsz.isCell, hsy.val, hsz.val] <;> exact rfl) ?_
  refine ow_op (by simp only [zo, binD, zb, Int.reduceEq, Int.reduceToNat, Int.reduceLT, hS.len, keRows_len, Nat.add_assoc, Nat.reduceAdd, h0, hw, hia, hsy.isCell, hsz.isCell, hsy.val, hsz.val] <;> exact rfl) ?_
  refine ow_nil ?_
  refine sk_n (by simp only [ze] <;> exact rfl) ?_
  refine cw_cond (by simp only [opd, zv, hS.len, keRows_len, Nat.add_assoc, Nat.reduceAdd, h0, hw, hia, hsy.isCell, hsz.isCell, hsy.val, hsz.val] <;> exact rfl) (fun hcAT => ?_) (fun hcAT => ?_)
  ·
   obtain ⟨na, nb, sa, sb, hga, hgb, hcm⟩ := hN k hkm (by simpa using hcAT)
   refine cw_seq (cw_region ?_)
   refine ow_op (by simp only [zl, zm, zd, partD, List.take, List.drop, hS.len, keRows_len, Nat.add_assoc, Nat.reduceAdd, h0, hw, hia, hsy.isCell, hsz.isCell, hsy.val, hsz.val] <;> exact rfl) ?_
   first
    | refine ow_op (by simp only [zo, hS.len, keRows_len, Nat.add_assoc, Nat.reduceAdd, h0, hw, hia, hsy.isCell, hsz.isCell, hsy.val, hsz.val]; exact hga _ _ (by omega)) ?_
    | refine ow_op (by simp only [zo, hS.len, keRows_len, Nat.add_assoc, Nat.reduceAdd, h0, hw, hia, hsy.isCell, hsz.isCell, hsy.val, hsz.val]; exact hgb _ _ (by omega)) ?_
   refine ow_ml rfl ?_
   refine ow_op (by simp only [zo, List.getElem?_cons_zero, List.getElem?_cons_succ, hS.len, keRows_len, Nat.add_assoc, Nat.reduceAdd, h0, hw, hia, hsy.isCell, hsz.isCell, hsy.val, hsz.val] <;> exact rfl) ?_
   refine ow_op (by simp only [zo, List.getElem?_cons_zero, List.getElem?_cons_succ, hS.len, keRows_len, Nat.add_assoc, Nat.reduceAdd, h0, hw, hia, hsy.isCell, hsz.isCell, hsy.val, hsz.val] <;> exact rfl) ?_
   refine ow_op (by simp only [zl, zm, hS.len, keRows_len, Nat.add_assoc, Nat.reduceAdd, h0, hw, hia, hsy.isCell, hsz.isCell, hsy.val, hsz.val] <;> exact rfl) ?_
   refine ow_op (by simp only [zl, zm, storeD, overlay, snapVs, snaps, zs, zc, zf, List.take, List.drop, hS.len, keRows_len, Nat.add_assoc, Nat.reduceAdd, h0, hw, hia, hsy.isCell, hsz.isCell, hsy.val, hsz.val] <;> exact rfl) ?_
   refine ow_ml rfl ?_
   refine ow_nil ?_
   refine sk_n (by simp only [ze] <;> exact rfl) ?_
   refine cw_seq (cw_region ?_)
   refine ow_op (by simp only [zl, zm, zd, partD, List.take, List.drop, hS.len, keRows_len, Nat.add_assoc, Nat.reduceAdd, h0, hw, hia, hsy.isCell, hsz.isCell, hsy.val, hsz.val] <;> exact rfl) ?_
   first
    | refine ow_op (by simp only [zo, hS.len, keRows_len, Nat.add_assoc, Nat.reduceAdd, h0, hw, hia, hsy.isCell, hsz.isCell, hsy.val, hsz.val]; exact hga _ _ (by omega)) ?_
    | refine ow_op (by simp only [zo, hS.len, keRows_len, Nat.add_assoc, Nat.reduceAdd, h0, hw, hia, hsy.isCell, hsz.isCell, hsy.val, hsz.val]; exact hgb _ _ (by omega)) ?_
   refine ow_ml rfl ?_
   refine ow_op (by simp only [zo, List.getElem?_cons_zero, List.getElem?_cons_succ, hS.len, keRows_len, Nat.add_assoc, Nat.reduceAdd, h0, hw, hia, hsy.isCell, hsz.isCell, hsy.val, hsz.val] <;> exact rfl) ?_
   refine ow_op (by simp only [zo, List.getElem?_cons_zero, List.getElem?_cons_succ, hS.len, keRows_len, Nat.add_assoc, Nat.reduceAdd, h0, hw, hia, hsy.isCell, hsz.isCell, hsy.val, hsz.val] <;> exact rfl) ?_
   refine ow_op (by simp only [zl, zm, hS.len, keRows_len, Nat.add_assoc, Nat.reduceAdd, h0, hw, hia, hsy.isCell, hsz.isCell, hsy.val, hsz.val] <;> exact rfl) ?_
   refine ow_op (by simp only [zl, zm, storeD, overlay, snapVs, snaps, zs, zc, zf, List.take, List.drop, hS.len, keRows_len, Nat.add_assoc, Nat.reduceAdd, h0, hw, hia, hsy.isCell, hsz.isCell, hsy.val, hsz.val] <;> exact rfl) ?_
   refine ow_ml rfl ?_
   refine ow_nil ?_
   refine sk_n (by simp only [ze] <;> exact rfl) ?_
   refine cw_region ?_
   refine ow_op (by simp only [zl, zm, zd, partD, List.take, List.drop, hS.len, keRows_len, Nat.add_assoc, Nat.reduceAdd, h0, hw, hia, hsy.isCell, hsz.isCell, hsy.val, hsz.val] <;> exact rfl) ?_
   refine ow_op (by simp only [zl, zm, zd, partD, List.take, List.drop, hS.len, keRows_len, Nat.add_assoc, Nat.reduceAdd, h0, hw, hia, hsy.isCell, hsz.isCell, hsy.val, hsz.val] <;> exact rfl) ?_
   refine ow_op (by simp only [zo, hS.len, keRows_len, Nat.add_assoc, Nat.reduceAdd, h0, hw, hia, hsy.isCell, hsz.isCell, hsy.val, hsz.val]; exact hcm _ _ (by omega)) ?_
   refine ow_ml rfl ?_
   refine ow_op (by simp only [zo, List.getElem?_cons_zero, List.getElem?_cons_succ, hS.len, keRows_len, Nat.add_assoc, Nat.reduceAdd, h0, hw, hia, hsy.isCell, hsz.isCell, hsy.val, hsz.val] <;> exact rfl) ?_
   refine ow_op (by simp only [zo, List.getElem?_cons_zero, List.getElem?_cons_succ, hS.len, keRows_len, Nat.add_assoc, Nat.reduceAdd, h0, hw, hia, hsy.isCell, hsz.isCell, hsy.val, hsz.val] <;> exact rfl) ?_
   refine ow_ml rfl ?_
   refine ow_nil ?_
   refine sk_n (by simp only [ze] <;> exact rfl) ?_
   refine cw_seq (cw_block (cw_seq (cw_region ?_)))
   refine ow_me rfl ?_
   refine ow_op (by simp only [zo, binD, zb, Int.reduceEq, Int.reduceToNat, Int.reduceLT, hS.len, keRows_len, Nat.add_assoc, Nat.reduceAdd, h0, hw, hia, hsy.isCell, hsz.isCell, hsy.val, hsz.val] <;> exact rfl) ?_
   refine ow_ml rfl ?_
   refine ow_nil ?_
   refine sk_n (by simp only [ze] <;> exact rfl) ?_
   refine cw_cond (by simp only [opd, zv, hS.len, keRows_len, Nat.add_assoc, Nat.reduceAdd, h0, hw, hia, hsy.isCell, hsz.isCell, hsy.val, hsz.val] <;> exact rfl) (fun hcATT => ?_) (fun hcATT => ?_)
   ·
    have hz := hcATT
    refine cw_exit (bk_o rfl (sk_e (bk_e (sk_n rfl (cw_region ?_)))))
    refine ow_op (by simp only [zo, binD, zb, Int.reduceEq, Int.reduceToNat, Int.reduceLT, hS.len, keRows_len, Nat.add_assoc, Nat.reduceAdd, h0, hw, hia, hsy.isCell, hsz.isCell, hsy.val, hsz.val] <;> exact rfl) ?_
    refine ow_ml rfl ?_
    refine ow_nil ?_
    refine lk_n (by simp only [ze] <;> exact rfl) ?_
    exact ⟨ks.length - (i + 1), by omega, i + 1, _, _, _, _, _, _, _, _, _, _, _, by omega, rfl, by rw [← hF, hdr, List.map_cons, firstC, if_pos (by simpa using hz)], rfl, rfl⟩
   ·
    refine cw_seq (cw_region ?_)
    refine ow_op (by simp only [zo, faddrD_ptr, faddrD_cptr, zm, hS.len, keRows_len, Nat.add_assoc, Nat.reduceAdd, h0, hw, hia, hsy.isCell, hsz.isCell, hsy.val, hsz.val] <;> exact rfl) ?_
    refine ow_op (by simp only [zl, zm, zd, partD, List.take, List.drop, hS.len, keRows_len, Nat.add_assoc, Nat.reduceAdd, h0, hw, hia, hsy.isCell, hsz.isCell, hsy.val, hsz.val] <;> exact rfl) ?_
    refine ow_ml rfl ?_
    refine ow_nil ?_
    refine sk_n (by simp only [ze] <;> exact rfl) ?_
    refine cw_cond (by simp only [opd, zv, hS.len, keRows_len, Nat.add_assoc, Nat.reduceAdd, h0, hw, hia, hsy.isCell, hsz.isCell, hsy.val, hsz.val] <;> exact rfl) (fun hcATTF => ?_) (fun hcATTF => ?_)
    ·
     refine cw_seq (cw_region ?_)
     refine ow_me rfl ?_
     refine ow_op (by simp only [zo, unD, hS.len, keRows_len, Nat.add_assoc, Nat.reduceAdd, h0, hw, hia, hsy.isCell, hsz.isCell, hsy.val, hsz.val] <;> exact rfl) ?_
     refine ow_ml rfl ?_
     refine ow_nil ?_
     refine sk_n (by simp only [ze] <;> exact rfl) ?_
     refine cw_ret (bk_r (sk_r (bk_r (sk_r (lk_r (bk_r (sk_r ?_)))))))
     refine ⟨_, by simp only [F33, resultD, resDs, resD, List.getD_cons_zero, List.getD_cons_succ, zd, rowsOf, partD, List.getElem?_cons_zero, List.getElem?_cons_succ, if_true, if_false, Bool.false_eq_true, List.take, List.drop, zm] <;> exact rfl, ?_⟩
     rw [← hF, hdr, List.map_cons, firstC, if_neg (by simpa using hcATT), if_pos hcATTF]
     simp only [leaveP, leave, snapVs, snaps, zs, zf, zk]
    ·
     refine cw_skip (bk_n (sk_n rfl (cw_seq (cw_region ?_))))
     refine ow_me rfl ?_
     refine ow_ml rfl ?_
     refine ow_nil ?_
     refine sk_n (by simp only [ze] <;> exact rfl) ?_
     refine cw_ret (bk_r (sk_r (lk_r (bk_r (sk_r ?_)))))
     refine ⟨_, by simp only [F33, resultD, resDs, resD, List.getD_cons_zero, List.getD_cons_succ, zd, rowsOf, partD, List.getElem?_cons_zero, List.getElem?_cons_succ, if_true, if_false, Bool.false_eq_true, List.take, List.drop, zm] <;> exact rfl, ?_⟩
     rw [← hF, hdr, List.map_cons, firstC, if_neg (by simpa using hcATT), if_neg (by simpa using hcATTF)]
     simp only [leaveP, leave, snapVs, snaps, zs, zf, zk]
  ·
   refine cw_region ?_
   refine ow_op (by simp only [zo, faddrD_ptr, faddrD_cptr, zm, hS.len, keRows_len, Nat.add_assoc, Nat.reduceAdd, h0, hw, hia, hsy.isCell, hsz.isCell, hsy.val, hsz.val] <;> exact rfl) ?_
   refine ow_op (by simp only [zl, zm, zd, partD, List.take, List.drop, hS.len, keRows_len, Nat.add_assoc, Nat.reduceAdd, h0, hw, hia, hsy.isCell, hsz.isCell, hsy.val, hsz.val] <;> exact rfl) ?_
   refine ow_op (by simp only [zo, faddrD_ptr, faddrD_cptr, zm, hS.len, keRows_len, Nat.add_assoc, Nat.reduceAdd, h0, hw, hia, hsy.isCell, hsz.isCell, hsy.val, hsz.val] <;> exact rfl) ?_
   refine ow_op (by simp only [zl, zm, zd, partD, List.take, List.drop, hS.len, keRows_len, Nat.add_assoc, Nat.reduceAdd, h0, hw, hia, hsy.isCell, hsz.isCell, hsy.val, hsz.val] <;> exact rfl) ?_
   refine ow_op (by simp only [zo, hS.len, keRows_len, Nat.add_assoc, Nat.reduceAdd, h0, hw, hia, hsy.isCell, hsz.isCell, hsy.val, hsz.val]; exact hT k hkm (by simpa using hcAT) _ _ (by omega)) ?_
   refine ow_ml rfl ?_
   refine ow_nil ?_
   refine sk_n (by simp only [ze] <;> exact rfl) ?_
   refine cw_seq (cw_block (cw_seq (cw_region ?_)))
   refine ow_me rfl ?_
   refine ow_op (by simp only [zo, binD, zb, Int.reduceEq, Int.reduceToNat, Int.reduceLT, hS.len, keRows_len, Nat.add_assoc, Nat.reduceAdd, h0, hw, hia, hsy.isCell, hsz.isCell, hsy.val, hsz.val] <;> exact rfl) ?_
   refine ow_ml rfl ?_
   refine ow_nil ?_
   refine sk_n (by simp only [ze] <;> exact rfl) ?_
   refine cw_cond (by simp only [opd, zv, hS.len, keRows_len, Nat.add_assoc, Nat.reduceAdd, h0, hw, hia, hsy.isCell, hsz.isCell, hsy.val, hsz.val] <;> exact rfl) (fun hcATF => ?_) (fun hcATF => ?_)
   ·
    have hz := hcATF
    refine cw_exit (bk_o rfl (sk_e (bk_e (sk_n rfl (cw_region ?_)))))
    refine ow_op (by simp only [zo, binD, zb, Int.reduceEq, Int.reduceToNat, Int.reduceLT, hS.len, keRows_len, Nat.add_assoc, Nat.reduceAdd, h0, hw, hia, hsy.isCell, hsz.isCell, hsy.val, hsz.val] <;> exact rfl) ?_
    refine ow_ml rfl ?_
    refine ow_nil ?_
    refine lk_n (by simp only [ze] <;> exact rfl) ?_
    exact ⟨ks.length - (i + 1), by omega, i + 1, _, _, _, _, _, _, _, _, _, _, _, by omega, rfl, by rw [← hF, hdr, List.map_cons, firstC, if_pos (by simpa using hz)], rfl, rfl⟩
   ·
    refine cw_seq (cw_region ?_)
    refine ow_op (by simp only [zo, faddrD_ptr, faddrD_cptr, zm, hS.len, keRows_len, Nat.add_assoc, Nat.reduceAdd, h0, hw, hia, hsy.isCell, hsz.isCell, hsy.val, hsz.val] <;> exact rfl) ?_
    refine ow_op (by simp only [zl, zm, zd, partD, List.take, List.drop, hS.len, keRows_len, Nat.add_assoc, Nat.reduceAdd, h0, hw, hia, hsy.isCell, hsz.isCell, hsy.val, hsz.val] <;> exact rfl) ?_
    refine ow_ml rfl ?_
    refine ow_nil ?_
    refine sk_n (by simp only [ze] <;> exact rfl) ?_
    refine cw_cond (by simp only [opd, zv, hS.len, keRows_len, Nat.add_assoc, Nat.reduceAdd, h0, hw, hia, hsy.isCell, hsz.isCell, hsy.val, hsz.val] <;> exact rfl) (fun hcATFF => ?_) (fun hcATFF => ?_)
    ·
     refine cw_seq (cw_region ?_)
     refine ow_me rfl ?_
     refine ow_op (by simp only [zo, unD, hS.len, keRows_len, Nat.add_assoc, Nat.reduceAdd, h0, hw, hia, hsy.isCell, hsz.isCell, hsy.val, hsz.val] <;> exact rfl) ?_
     refine ow_ml rfl ?_
     refine ow_nil ?_
     refine sk_n (by simp only [ze] <;> exact rfl) ?_
     refine cw_ret (bk_r (sk_r (bk_r (sk_r (lk_r (bk_r (sk_r ?_)))))))
     refine ⟨_, by simp only [F33, resultD, resDs, resD, List.getD_cons_zero, List.getD_cons_succ, zd, rowsOf, partD, List.getElem?_cons_zero, List.getElem?_cons_succ, if_true, if_false, Bool.false_eq_true, List.take, List.drop, zm] <;> exact rfl, ?_⟩
     rw [← hF, hdr, List.map_cons, firstC, if_neg (by simpa using hcATF), if_pos hcATFF]
     simp only [leaveP, leave, snapVs, snaps, zs, zf, zk]
    ·
     refine cw_skip (bk_n (sk_n rfl (cw_seq (cw_region ?_))))
     refine ow_me rfl ?_
     refine ow_ml rfl ?_
     refine ow_nil ?_
     refine sk_n (by simp only [ze] <;> exact rfl) ?_
     refine cw_ret (bk_r (sk_r (lk_r (bk_r (sk_r ?_)))))
     refine ⟨_, by simp only [F33, resultD, resDs, resD, List.getD_cons_zero, List.getD_cons_succ, zd, rowsOf, partD, List.getElem?_cons_zero, List.getElem?_cons_succ, if_true, if_false, Bool.false_eq_true, List.take, List.drop, zm] <;> exact rfl, ?_⟩
     rw [← hF, hdr, List.map_cons, firstC, if_neg (by simpa using hcATF), if_neg (by simpa using hcATFF)]
     simp only [leaveP, leave, snapVs, snaps, zs, zf, zk]
 ·
  have hge : ks.length ≤ i := by have := of_decide_eq_false hcA; omega
  refine cw_exit (sk_e (lk_e (bk_e (sk_n rfl (cw_seq (cw_region ?_))))))
  refine ow_mc ?_
  refine ow_nil ?_
  refine sk_n (by simp only [ze] <;> exact rfl) ?_
  refine cw_ret ?_
  refine ⟨_, by simp only [F33, resultD, resDs, resD, List.getD_cons_zero, List.getD_cons_succ, zd, rowsOf, partD, List.getElem?_cons_zero, List.getElem?_cons_succ, if_true, if_false, Bool.false_eq_true, List.take, List.drop, zm] <;> exact rfl, ?_⟩
  rw [← hF, List.drop_eq_nil_of_le hge, List.map_nil, firstC]
  simp only [leaveP, leave, snapVs, snaps, zs, zf, zk]

end Go.Proofs.YtabgobmeibjeeaaGreatDoor

namespace Go.Proofs.YtabgobmeibjeeaaGreatDoor
set_option linter.unusedSimpArgs false
set_option linter.unusedVariables false
set_option maxRecDepth 10000

end Go.Proofs.YtabgobmeibjeeaaGreatDoor

namespace Go.Proofs.YtabgobmeibjeeaaGreatDoor
set_option linter.unusedVariables false
set_option linter.unusedSimpArgs false
/-! records of digits -/
def qI (r : Int) : Int := IntKind.u32.wrap (r.tdiv 10)
def dgI (r : Int) : Int := IntKind.u8.wrap (48 + IntKind.u8.wrap (r.tmod 10))
theorem rOf_eval (d : Nat) (S : St) (r : Int) : runF LP NN (d + 1) 16 [.int .u32 r] S = some (.sl 1 [[.int .u8 (dgI (qI (qI (qI (qI (qI r))))))], [.int .u8 (dgI (qI (qI (qI (qI r)))))], [.int .u8 (dgI (qI (qI (qI r))))], [.int .u8 (dgI (qI (qI r)))], [.int .u8 (dgI (qI r))], [.int .u8 (dgI r)]] (some 6), S, false) := by kernel_rfl
def digs (r : Nat) : List UInt8 := [UInt8.ofNat (48 + r / 100000 % 10), UInt8.ofNat (48 + r / 10000 % 10), UInt8.ofNat (48 + r / 1000 % 10), UInt8.ofNat (48 + r / 100 % 10), UInt8.ofNat (48 + r / 10 % 10), UInt8.ofNat (48 + r % 10)]
theorem qI_nat (r : Nat) (h : r < 4294967296) : qI r = ((r / 10 : Nat) : Int) := by
  unfold qI
  rw [Int.tdiv_eq_ediv_of_nonneg (by omega)]
  simp only [IntKind.wrap, IntKind.signed, IntKind.bits, Bool.false_and, Bool.false_eq_true, if_false]
  omega
theorem u8_of (m : Nat) (h : m < 256) : (UInt8.ofNat m).toNat = m := by simp only [UInt8.toNat_ofNat']; omega
theorem dgI_nat (r : Nat) : dgI r = ((UInt8.ofNat (48 + r % 10)).toNat : Int) := by
  unfold dgI
  rw [Int.tmod_eq_emod_of_nonneg (by omega)]
  simp only [IntKind.wrap, IntKind.signed, IntKind.bits, Bool.false_and, Bool.false_eq_true, if_false]
  rw [u8_of _ (by omega)]
  omega
theorem rOf_run {d : Nat} (hd : 1 ≤ d) (S : St) (r : Nat) (h : r < 4294967296) : runF LP NN d 16 [.int .u32 r] S = some (.sl 1 (bR (digs r)) (some 6), S, false) := by
  obtain ⟨d, rfl⟩ : ∃ d', d = d' + 1 := ⟨d - 1, by omega⟩
  rw [rOf_eval]
  rw [qI_nat r h, qI_nat _ (by omega), qI_nat _ (by omega), qI_nat _ (by omega), qI_nat _ (by omega)]
  simp only [dgI_nat, Nat.div_div_eq_div_mul, Nat.reduceMul]
  rfl
theorem digs_len (r : Nat) : (digs r).length = 6 := rfl
theorem dig_of (m : Nat) : isDig (UInt8.ofNat (48 + m % 10)) = true := by
  simp only [isDig, Bool.and_eq_true, decide_eq_true_eq]
  rw [u8_of _ (by omega)]
  omega
theorem digs_dig (r : Nat) : ∀ c ∈ digs r, isDig c = true := by
  intro c hc
  simp only [digs, List.mem_cons, List.not_mem_nil, or_false] at hc
  rcases hc with rfl | rfl | rfl | rfl | rfl | rfl <;> exact dig_of _
/-! the order of lists of numbers -/
def lexI : List Int → List Int → Int
  | a :: l, b :: m => if a < b then -1 else if a > b then 1 else lexI l m
  | _, _ => 0
theorem lexI_app {p q : List Int} (h : p.length = q.length) (a b : List Int) : lexI (p ++ a) (q ++ b) = if lexI p q == 0 then lexI a b else lexI p q := by
  induction p generalizing q with
  | nil => cases q with
    | nil => rfl
    | cons x q => simp at h
  | cons x p ih => cases q with
    | nil => simp at h
    | cons y q =>
      simp only [List.cons_append, lexI]
      by_cases h1 : x < y
      · simp [h1]
      · by_cases h2 : x > y
        · simp [h1, h2]
        · simp only [h1, h2, if_false]
          exact ih (by simpa using h)
theorem lexI_neg (a b : List Int) : lexI (a.map (0 - ·)) (b.map (0 - ·)) = 0 - lexI a b := by
  induction a generalizing b with
  | nil => rfl
  | cons x a ih => cases b with
    | nil => rfl
    | cons y b =>
      simp only [List.map_cons, lexI]
      rcases Int.lt_trichotomy x y with h | h | h
      · rw [if_neg (by omega), if_pos (by omega), if_pos h]; rfl
      · subst h; rw [if_neg (by omega), if_neg (by omega), if_neg (by omega), if_neg (by omega)]; exact ih b
      · rw [if_pos (by omega), if_neg (by omega), if_pos (by omega)]; rfl
theorem lexI_self (a : List Int) : lexI a a = 0 := by
  induction a with
  | nil => rfl
  | cons x a ih => simp [lexI, ih]
theorem lexI_swap (a b : List Int) (h : a.length = b.length) : lexI a b = 0 - lexI b a := by
  induction a generalizing b with
  | nil => cases b with
    | nil => rfl
    | cons y b => simp at h
  | cons x a ih => cases b with
    | nil => simp at h
    | cons y b =>
      simp only [lexI]
      rcases Int.lt_trichotomy x y with h' | h' | h'
      · rw [if_pos h', if_neg (by omega), if_pos (by omega)]; rfl
      · subst h'; rw [if_neg (by omega), if_neg (by omega), if_neg (by omega), if_neg (by omega)]; exact ih b (by simpa using h)
      · rw [if_neg (by omega), if_pos h', if_pos (by omega)]; rfl
theorem lexI_range (a b : List Int) : lexI a b = -1 ∨ lexI a b = 0 ∨ lexI a b = 1 := by
  induction a generalizing b with
  | nil => exact .inr (.inl rfl)
  | cons x a ih => cases b with
    | nil => exact .inr (.inl rfl)
    | cons y b =>
      simp only [lexI]
      split
      · exact .inl rfl
      · split
        · exact .inr (.inr rfl)
        · exact ih b
theorem lexI_trans (a b c : List Int) (h : a.length = b.length) (h' : b.length = c.length) (h1 : lexI a b ≤ 0) (h2 : lexI b c ≤ 0) : lexI a c ≤ 0 := by
  induction a generalizing b c with
  | nil => exact Int.le_refl _
  | cons x a ih => cases b with
    | nil => simp at h
    | cons y b => cases c with
      | nil => simp at h'
      | cons z c =>
        simp only [lexI] at h1 h2 ⊢
        split at h1
        · split at h2
          · rw [if_pos (by omega)]; omega
          · split at h2
            · omega
            · rw [if_pos (by omega)]; omega
        · split at h1
          · omega
          · split at h2
            · rw [if_pos (by omega)]; omega
            · split at h2
              · omega
              · rw [if_neg (by omega), if_neg (by omega)]
                exact ih b c (by simpa using h) (by simpa using h') h1 h2
end Go.Proofs.YtabgobmeibjeeaaGreatDoor

namespace Go.Proofs.YtabgobmeibjeeaaGreatDoor
set_option linter.unusedVariables false
set_option linter.unusedSimpArgs false
def bI (l : List UInt8) : List Int := l.map fun c => (c.toNat : Int)
theorem cmpT_lex : ∀ (l m : List UInt8), l.length = m.length → cmpT l m = lexI (bI l) (bI m)
  | [], [], _ => rfl
  | [], b :: m, h => by simp at h
  | a :: l, [], h => by simp at h
  | a :: l, b :: m, h => by
    have ih := cmpT_lex l m (by simpa using h)
    simp only [cmpT, bI, List.map_cons, lexI, cmpI] at ih ⊢
    by_cases h1 : (a.toNat : Int) < b.toNat
    · simp [h1]
    · by_cases h2 : (a.toNat : Int) > b.toNat
      · simp [h1, h2]
      · simp only [h1, h2, if_false, bne_self_eq_false, Bool.false_eq_true]
        exact ih
theorem cmpL_cmpT : ∀ (l m : List UInt8), l.length = m.length → cmpL l m = cmpT l m
  | [], [], _ => rfl
  | [], b :: m, h => by simp at h
  | a :: l, [], h => by simp at h
  | a :: l, b :: m, h => by
    have ih := cmpL_cmpT l m (by simpa using h)
    simp only [cmpT, cmpI]
    by_cases h1 : a.toNat < b.toNat
    · have : Op.bytesLess (a :: l) (b :: m) = true := by
        simp only [Op.bytesLess]
        have : a < b := UInt8.lt_iff_toNat_lt.2 h1
        simp [this]
      simp [cmpL, this, h1]
    · by_cases h2 : b.toNat < a.toNat
      · have h3 : Op.bytesLess (a :: l) (b :: m) = false := by
          simp only [Op.bytesLess]
          have : ¬ a < b := fun h => h1 (UInt8.lt_iff_toNat_lt.1 h)
          have h' : ¬ a = b := fun h => by rw [h] at h2; omega
          simp [this, h']
        have h4 : ¬ a = b := fun h => by rw [h] at h2; omega
        simp [cmpL, h3, h4, h1, h2]
      · have h5 : a = b := UInt8.toNat_inj.1 (by omega)
        subst h5
        rw [cmpL_cons, ih]
        simp
/-- the bytes of a key, as numbers; the greater the less where the key goes down -/
def Ke.sub (k : Ke) (l : List UInt8) : List UInt8 := (l.drop k.a).take k.n
def Ke.enc (k : Ke) (l : List UInt8) : List Int := if k.dn then (bI (k.sub l)).map (0 - ·) else bI (k.sub l)
def encs (ks : List Ke) (l : List UInt8) : List Int := (ks.map (·.enc l)).flatten
theorem enc_len (k : Ke) {l m : List UInt8} (h : l.length = m.length) : (k.enc l).length = (k.enc m).length := by
  unfold Ke.enc Ke.sub bI
  split <;> simp [h]
theorem encs_len (ks : List Ke) {l m : List UInt8} (h : l.length = m.length) : (encs ks l).length = (encs ks m).length := by
  induction ks with
  | nil => rfl
  | cons k ks ih => simp only [encs, List.map_cons, List.flatten_cons, List.length_append] at ih ⊢; rw [ih, enc_len k h]
theorem sub_len (k : Ke) {l m : List UInt8} (h : l.length = m.length) : (k.sub l).length = (k.sub m).length := by simp [Ke.sub, h]
theorem firstC_lex (ks : List Ke) (l m : List UInt8) (h : l.length = m.length) : firstC (ks.map fun k => (cmpT (k.sub l) (k.sub m), k.dn)) = lexI (encs ks l) (encs ks m) := by
  induction ks with
  | nil => rfl
  | cons k ks ih =>
    simp only [List.map_cons, firstC, encs, List.flatten_cons]
    rw [lexI_app (enc_len k h)]
    have e : lexI (k.enc l) (k.enc m) = if k.dn then 0 - cmpT (k.sub l) (k.sub m) else cmpT (k.sub l) (k.sub m) := by
      rw [cmpT_lex _ _ (sub_len k h)]
      unfold Ke.enc
      split
      · rw [lexI_neg]
      · rfl
    rw [e]
    have hr := lexI_range (bI (k.sub l)) (bI (k.sub m))
    rw [← cmpT_lex _ _ (sub_len k h)] at hr
    generalize cmpT (k.sub l) (k.sub m) = c at hr
    cases k.dn
    · simp only [Bool.false_eq_true, if_false]
      rcases hr with rfl | rfl | rfl
      · rfl
      · simpa [encs] using ih
      · rfl
    · simp only [if_true]
      rcases hr with rfl | rfl | rfl
      · rfl
      · simpa [encs] using ih
      · rfl
/-- the order of records by keys -/
def ordR (ks : List Ke) (l m : List UInt8) : Int := lexI (encs ks l) (encs ks m)
end Go.Proofs.YtabgobmeibjeeaaGreatDoor

/- Proved here: the walks of judges.first at its eight element types: it returns the index of the first difference of two lists, or -1; lists of at most 1000000 elements. -/
import Derived.Test.YtfcdfacfdlphfaaRows
import Derived.WalkKit
import Derived.ProofKit
import Derived.OpenShut
import Derived.WalkSpells
import Derived.WalkLawsBesides
import Derived.Deep.QuietTactic
import Derived.BigQuiet
import Derived.Lib.Hide
namespace Go.Proofs.Ytfcdfacfdlphfaa
open Go.ChangeShapes Go.WideShapes Go.ChangeAt Go.RowKit

/-- the index of the first difference, or -1 -/
def fd {α : Type} [DecidableEq α] : List α → List α → Int
  | [], [] => -1
  | [], _ :: _ => 0
  | _ :: _, [] => 0
  | a :: l, b :: m => if a = b then (if fd l m < 0 then -1 else fd l m + 1) else 0

/-- a slice whose elements are the given rows of cells -/
def Row (w : World) (B sz : Nat) (A : Option Addr) (xs : List (List Value)) : Prop :=
  xs ≠ [] → ∃ b o, A = some ⟨b, o, none⟩ ∧ b < B ∧ ∀ i x, xs[i]? = some x → ∀ j u, x[j]? = some u → w.cell? ⟨b, o + i * sz + j, none⟩ = some u

theorem ret_int {k : IntKind} {a b : Int} (h : a = b) : Ending.returned (.int k a) = .returned (.int k b) := by rw [h]
theorem baeq (a b : ByteArray) : a.toList = b.toList ↔ a = b := by
  rw [ByteArray.toList_eq, ByteArray.toList_eq]
  constructor
  · intro h
    obtain ⟨⟨x⟩⟩ := a
    obtain ⟨⟨y⟩⟩ := b
    simp at h
    rw [h]
  · rintro rfl; rfl

section
set_option linter.unusedSectionVars false
variable {α : Type} [DecidableEq α] {xs ys : List α} {k : Nat}
theorem take_more (h1 : k < xs.length) (h2 : k < ys.length) (hp : xs.take k = ys.take k) (he : xs[k] = ys[k]) : xs.take (k + 1) = ys.take (k + 1) := by
  rw [List.take_succ_eq_append_getElem h1, List.take_succ_eq_append_getElem h2, hp, he]
theorem fd_step : ∀ (xs ys : List α) (k : Nat), k ≤ xs.length → k ≤ ys.length → xs.take k = ys.take k →
    fd xs ys = if fd (xs.drop k) (ys.drop k) < 0 then -1 else fd (xs.drop k) (ys.drop k) + k
  | xs, ys, 0, _, _, _ => by
    have : ∀ (l m : List α), fd l m = if fd l m < 0 then -1 else fd l m := by
      intro l m
      induction l generalizing m with
      | nil => cases m <;> simp [fd]
      | cons a l ih =>
        cases m with
        | nil => simp [fd]
        | cons b m =>
          simp only [fd]
          by_cases hab : a = b
          · simp only [hab, if_true]
            by_cases hn : fd l m < 0
            · simp [hn]
            · simp only [hn, if_false]; rw [if_neg (by omega)]
          · simp [hab]
    simpa using this xs ys
  | [], ys, k + 1, h, _, _ => by simp at h
  | x :: xs, [], k + 1, _, h, _ => by simp at h
  | x :: xs, y :: ys, k + 1, h1, h2, hp => by
    simp only [List.take_succ_cons, List.cons.injEq] at hp
    obtain ⟨rfl, hp⟩ := hp
    have ih := fd_step xs ys k (by simpa using h1) (by simpa using h2) hp
    simp only [fd, List.drop_succ_cons, if_true]
    rw [ih]
    by_cases hn : fd (xs.drop k) (ys.drop k) < 0
    · simp [hn]
    · simp only [hn, if_false]
      rw [if_neg (by omega)]
      omega
theorem fd_found (h1 : k < xs.length) (h2 : k < ys.length) (hp : xs.take k = ys.take k) (he : ¬ xs[k] = ys[k]) : fd xs ys = (k : Int) := by
  rw [fd_step xs ys k (by omega) (by omega) hp, List.drop_eq_getElem_cons h1, List.drop_eq_getElem_cons h2]
  simp [fd, he]
theorem fd_end {r : Int} (h1 : k ≤ xs.length) (h2 : k ≤ ys.length) (hn : ¬ (k < xs.length ∧ k < ys.length)) (hp : xs.take k = ys.take k) (hr : r = if xs.length = ys.length then -1 else if ys.length < xs.length then (ys.length : Int) else xs.length) : r = fd xs ys := by
  rw [fd_step xs ys k (by omega) (by omega) hp]
  subst hr
  by_cases h3 : k = xs.length
  · subst h3
    rw [List.drop_length]
    by_cases h4 : xs.length = ys.length
    · simp [h4, fd]
    · have : ∃ y l, ys.drop xs.length = y :: l := by
        rw [List.drop_eq_getElem_cons (by omega)]; exact ⟨_, _, rfl⟩
      obtain ⟨y, l, hy⟩ := this
      rw [hy, if_neg h4, if_neg (by omega)]
      simp [fd]
  · have h3 : k = ys.length := by omega
    subst h3
    rw [List.drop_length]
    have : ∃ y l, xs.drop ys.length = y :: l := by
      rw [List.drop_eq_getElem_cons (by omega)]; exact ⟨_, _, rfl⟩
    obtain ⟨y, l, hy⟩ := this
    rw [hy, if_neg (by omega), if_pos (by omega)]
    simp [fd]
end

def enc_int (x : Int) : List Value := [(.int .i64 x)]

set_option maxHeartbeats 1000000 in
theorem first_int (w : World) (B : Nat) (A1 A2 : Option Addr) (c1 c2 : Nat) (xs ys : List (Int))
    (ha : Row w B 1 A1 (xs.map enc_int)) (hb : Row w B 1 A2 (ys.map enc_int))
    (hal : xs.length ≤ 1000000) (hbl : ys.length ≤ 1000000) :
    Calls Try.prog 28 #[.slice A1 xs.length c1, .slice A2 ys.length c2] w
      fun e w' => e = .returned (.int .i64 (fd xs ys)) ∧ ∃ n, w' = w.drewN n := by
  have ha' := Lib.hid ha
  have hb' := Lib.hid hb
  clear ha hb
  go_enter Try.func28, Try.ntmps28
  go_wp2
  all_goals
    go_loopw [4, 5, 11] (fun _ _ i wr => ∃ (k n : Nat), k ≤ xs.length ∧ k ≤ ys.length ∧ i = .int .i64 k ∧ wr = w.drewN n ∧ Hid (xs.take k = ys.take k)) (fun _ _ i _ => 1000000 - (intOf i).toNat)
    case atStart => exact ⟨0, 0, by omega, by omega, rfl, rfl, rfl⟩
    case round =>
      obtain ⟨k, n, hk1, hk2, rfl, rfl, hpre⟩ := hrel
      by_cases hlt : k < xs.length ∧ k < ys.length
      · obtain ⟨h1, h2⟩ := hlt
        obtain ⟨b1, o1, rfl, _, hc1⟩ := ha'.out (by intro h; simp at h; subst h; simp at h1)
        obtain ⟨b2, o2, rfl, _, hc2⟩ := hb'.out (by intro h; simp at h; subst h; simp at h2)
        have d1 := hc1 k (enc_int xs[k]) (by simp [h1])
        have d2 := hc2 k (enc_int ys[k]) (by simp [h2])
        have e10 := d1 0 _ rfl
        have e20 := d2 0 _ rfl
        simp only [Nat.mul_one, Nat.add_zero] at e10 e20
        clear hc1 hc2 d1 d2
        by_cases heq : xs[k] = ys[k]
        · have hb1 : (xs[k] != ys[k]) = false := by simpa using heq
          have HE := Lib.hid heq
          clear heq
          go_wp2
          go_quiet (fail)
          go_wp2
          go_roundw
          case rel => exact ⟨k + 1, _, h1, h2, by go_num, rfl, take_more h1 h2 hpre.out HE.out⟩
          case measure => simp [intOf]; omega
        · have hb1 : (xs[k] != ys[k]) = true := by simpa using heq
          have HE := Lib.hid heq
          clear heq
          go_wp2
          go_quiet (fail)
          go_wp2
          go_ret
          exact ⟨ret_int (fd_found h1 h2 hpre.out HE.out).symm, _, World.drewN_drewN _ _ _⟩
      · go_wp2
        all_goals go_ret
        all_goals exact ⟨ret_int (fd_end hk1 hk2 hlt hpre.out (by first | omega | (simp only [bne_iff_ne, ne_eq, bne_eq_false_iff_eq] at *; omega))), _, rfl⟩

def enc_end (x : Int) : List Value := [(.int .u8 x)]

set_option maxHeartbeats 1000000 in
theorem first_end (w : World) (B : Nat) (A1 A2 : Option Addr) (c1 c2 : Nat) (xs ys : List (Int))
    (ha : Row w B 1 A1 (xs.map enc_end)) (hb : Row w B 1 A2 (ys.map enc_end))
    (hal : xs.length ≤ 1000000) (hbl : ys.length ≤ 1000000) :
    Calls Try.prog 26 #[.slice A1 xs.length c1, .slice A2 ys.length c2] w
      fun e w' => e = .returned (.int .i64 (fd xs ys)) ∧ ∃ n, w' = w.drewN n := by
  have ha' := Lib.hid ha
  have hb' := Lib.hid hb
  clear ha hb
  go_enter Try.func26, Try.ntmps26
  go_wp2
  all_goals
    go_loopw [4, 5, 11] (fun _ _ i wr => ∃ (k n : Nat), k ≤ xs.length ∧ k ≤ ys.length ∧ i = .int .i64 k ∧ wr = w.drewN n ∧ Hid (xs.take k = ys.take k)) (fun _ _ i _ => 1000000 - (intOf i).toNat)
    case atStart => exact ⟨0, 0, by omega, by omega, rfl, rfl, rfl⟩
    case round =>
      obtain ⟨k, n, hk1, hk2, rfl, rfl, hpre⟩ := hrel
      by_cases hlt : k < xs.length ∧ k < ys.length
      · obtain ⟨h1, h2⟩ := hlt
        obtain ⟨b1, o1, rfl, _, hc1⟩ := ha'.out (by intro h; simp at h; subst h; simp at h1)
        obtain ⟨b2, o2, rfl, _, hc2⟩ := hb'.out (by intro h; simp at h; subst h; simp at h2)
        have d1 := hc1 k (enc_end xs[k]) (by simp [h1])
        have d2 := hc2 k (enc_end ys[k]) (by simp [h2])
        have e10 := d1 0 _ rfl
        have e20 := d2 0 _ rfl
        simp only [Nat.mul_one, Nat.add_zero] at e10 e20
        clear hc1 hc2 d1 d2
        by_cases heq : xs[k] = ys[k]
        · have hb1 : (xs[k] != ys[k]) = false := by simpa using heq
          have HE := Lib.hid heq
          clear heq
          go_wp2
          go_quiet (fail)
          go_wp2
          go_roundw
          case rel => exact ⟨k + 1, _, h1, h2, by go_num, rfl, take_more h1 h2 hpre.out HE.out⟩
          case measure => simp [intOf]; omega
        · have hb1 : (xs[k] != ys[k]) = true := by simpa using heq
          have HE := Lib.hid heq
          clear heq
          go_wp2
          go_quiet (fail)
          go_wp2
          go_ret
          exact ⟨ret_int (fd_found h1 h2 hpre.out HE.out).symm, _, World.drewN_drewN _ _ _⟩
      · go_wp2
        all_goals go_ret
        all_goals exact ⟨ret_int (fd_end hk1 hk2 hlt hpre.out (by first | omega | (simp only [bne_iff_ne, ne_eq, bne_eq_false_iff_eq] at *; omega))), _, rfl⟩

def enc_errno (x : Int) : List Value := [(.int .i64 x)]

set_option maxHeartbeats 1000000 in
theorem first_errno (w : World) (B : Nat) (A1 A2 : Option Addr) (c1 c2 : Nat) (xs ys : List (Int))
    (ha : Row w B 1 A1 (xs.map enc_errno)) (hb : Row w B 1 A2 (ys.map enc_errno))
    (hal : xs.length ≤ 1000000) (hbl : ys.length ≤ 1000000) :
    Calls Try.prog 27 #[.slice A1 xs.length c1, .slice A2 ys.length c2] w
      fun e w' => e = .returned (.int .i64 (fd xs ys)) ∧ ∃ n, w' = w.drewN n := by
  have ha' := Lib.hid ha
  have hb' := Lib.hid hb
  clear ha hb
  go_enter Try.func27, Try.ntmps27
  go_wp2
  all_goals
    go_loopw [4, 5, 11] (fun _ _ i wr => ∃ (k n : Nat), k ≤ xs.length ∧ k ≤ ys.length ∧ i = .int .i64 k ∧ wr = w.drewN n ∧ Hid (xs.take k = ys.take k)) (fun _ _ i _ => 1000000 - (intOf i).toNat)
    case atStart => exact ⟨0, 0, by omega, by omega, rfl, rfl, rfl⟩
    case round =>
      obtain ⟨k, n, hk1, hk2, rfl, rfl, hpre⟩ := hrel
      by_cases hlt : k < xs.length ∧ k < ys.length
      · obtain ⟨h1, h2⟩ := hlt
        obtain ⟨b1, o1, rfl, _, hc1⟩ := ha'.out (by intro h; simp at h; subst h; simp at h1)
        obtain ⟨b2, o2, rfl, _, hc2⟩ := hb'.out (by intro h; simp at h; subst h; simp at h2)
        have d1 := hc1 k (enc_errno xs[k]) (by simp [h1])
        have d2 := hc2 k (enc_errno ys[k]) (by simp [h2])
        have e10 := d1 0 _ rfl
        have e20 := d2 0 _ rfl
        simp only [Nat.mul_one, Nat.add_zero] at e10 e20
        clear hc1 hc2 d1 d2
        by_cases heq : xs[k] = ys[k]
        · have hb1 : (xs[k] != ys[k]) = false := by simpa using heq
          have HE := Lib.hid heq
          clear heq
          go_wp2
          go_quiet (fail)
          go_wp2
          go_roundw
          case rel => exact ⟨k + 1, _, h1, h2, by go_num, rfl, take_more h1 h2 hpre.out HE.out⟩
          case measure => simp [intOf]; omega
        · have hb1 : (xs[k] != ys[k]) = true := by simpa using heq
          have HE := Lib.hid heq
          clear heq
          go_wp2
          go_quiet (fail)
          go_wp2
          go_ret
          exact ⟨ret_int (fd_found h1 h2 hpre.out HE.out).symm, _, World.drewN_drewN _ _ _⟩
      · go_wp2
        all_goals go_ret
        all_goals exact ⟨ret_int (fd_end hk1 hk2 hlt hpre.out (by first | omega | (simp only [bne_iff_ne, ne_eq, bne_eq_false_iff_eq] at *; omega))), _, rfl⟩

def enc_byte (x : Int) : List Value := [(.int .u8 x)]

set_option maxHeartbeats 1000000 in
theorem first_byte (w : World) (B : Nat) (A1 A2 : Option Addr) (c1 c2 : Nat) (xs ys : List (Int))
    (ha : Row w B 1 A1 (xs.map enc_byte)) (hb : Row w B 1 A2 (ys.map enc_byte))
    (hal : xs.length ≤ 1000000) (hbl : ys.length ≤ 1000000) :
    Calls Try.prog 16 #[.slice A1 xs.length c1, .slice A2 ys.length c2] w
      fun e w' => e = .returned (.int .i64 (fd xs ys)) ∧ ∃ n, w' = w.drewN n := by
  have ha' := Lib.hid ha
  have hb' := Lib.hid hb
  clear ha hb
  go_enter Try.func16, Try.ntmps16
  go_wp2
  all_goals
    go_loopw [4, 5, 11] (fun _ _ i wr => ∃ (k n : Nat), k ≤ xs.length ∧ k ≤ ys.length ∧ i = .int .i64 k ∧ wr = w.drewN n ∧ Hid (xs.take k = ys.take k)) (fun _ _ i _ => 1000000 - (intOf i).toNat)
    case atStart => exact ⟨0, 0, by omega, by omega, rfl, rfl, rfl⟩
    case round =>
      obtain ⟨k, n, hk1, hk2, rfl, rfl, hpre⟩ := hrel
      by_cases hlt : k < xs.length ∧ k < ys.length
      · obtain ⟨h1, h2⟩ := hlt
        obtain ⟨b1, o1, rfl, _, hc1⟩ := ha'.out (by intro h; simp at h; subst h; simp at h1)
        obtain ⟨b2, o2, rfl, _, hc2⟩ := hb'.out (by intro h; simp at h; subst h; simp at h2)
        have d1 := hc1 k (enc_byte xs[k]) (by simp [h1])
        have d2 := hc2 k (enc_byte ys[k]) (by simp [h2])
        have e10 := d1 0 _ rfl
        have e20 := d2 0 _ rfl
        simp only [Nat.mul_one, Nat.add_zero] at e10 e20
        clear hc1 hc2 d1 d2
        by_cases heq : xs[k] = ys[k]
        · have hb1 : (xs[k] != ys[k]) = false := by simpa using heq
          have HE := Lib.hid heq
          clear heq
          go_wp2
          go_quiet (fail)
          go_wp2
          go_roundw
          case rel => exact ⟨k + 1, _, h1, h2, by go_num, rfl, take_more h1 h2 hpre.out HE.out⟩
          case measure => simp [intOf]; omega
        · have hb1 : (xs[k] != ys[k]) = true := by simpa using heq
          have HE := Lib.hid heq
          clear heq
          go_wp2
          go_quiet (fail)
          go_wp2
          go_ret
          exact ⟨ret_int (fd_found h1 h2 hpre.out HE.out).symm, _, World.drewN_drewN _ _ _⟩
      · go_wp2
        all_goals go_ret
        all_goals exact ⟨ret_int (fd_end hk1 hk2 hlt hpre.out (by first | omega | (simp only [bne_iff_ne, ne_eq, bne_eq_false_iff_eq] at *; omega))), _, rfl⟩

def enc_str (x : ByteArray) : List Value := [(.string x)]

set_option maxHeartbeats 1000000 in
theorem first_str (w : World) (B : Nat) (A1 A2 : Option Addr) (c1 c2 : Nat) (xs ys : List (ByteArray))
    (ha : Row w B 1 A1 (xs.map enc_str)) (hb : Row w B 1 A2 (ys.map enc_str))
    (hal : xs.length ≤ 1000000) (hbl : ys.length ≤ 1000000) :
    Calls Try.prog 18 #[.slice A1 xs.length c1, .slice A2 ys.length c2] w
      fun e w' => e = .returned (.int .i64 (fd xs ys)) ∧ ∃ n, w' = w.drewN n := by
  have ha' := Lib.hid ha
  have hb' := Lib.hid hb
  clear ha hb
  go_enter Try.func18, Try.ntmps18
  go_wp2
  all_goals
    go_loopw [4, 5, 11] (fun _ _ i wr => ∃ (k n : Nat), k ≤ xs.length ∧ k ≤ ys.length ∧ i = .int .i64 k ∧ wr = w.drewN n ∧ Hid (xs.take k = ys.take k)) (fun _ _ i _ => 1000000 - (intOf i).toNat)
    case atStart => exact ⟨0, 0, by omega, by omega, rfl, rfl, rfl⟩
    case round =>
      obtain ⟨k, n, hk1, hk2, rfl, rfl, hpre⟩ := hrel
      by_cases hlt : k < xs.length ∧ k < ys.length
      · obtain ⟨h1, h2⟩ := hlt
        obtain ⟨b1, o1, rfl, _, hc1⟩ := ha'.out (by intro h; simp at h; subst h; simp at h1)
        obtain ⟨b2, o2, rfl, _, hc2⟩ := hb'.out (by intro h; simp at h; subst h; simp at h2)
        have d1 := hc1 k (enc_str xs[k]) (by simp [h1])
        have d2 := hc2 k (enc_str ys[k]) (by simp [h2])
        have e10 := d1 0 _ rfl
        have e20 := d2 0 _ rfl
        simp only [Nat.mul_one, Nat.add_zero] at e10 e20
        clear hc1 hc2 d1 d2
        by_cases heq : xs[k] = ys[k]
        · have hb1 : (!xs[k].toList == ys[k].toList) = false := by simpa [baeq] using heq
          have HE := Lib.hid heq
          clear heq
          go_wp2
          go_quiet (fail)
          go_wp2
          go_roundw
          case rel => exact ⟨k + 1, _, h1, h2, by go_num, rfl, take_more h1 h2 hpre.out HE.out⟩
          case measure => simp [intOf]; omega
        · have hb1 : (!xs[k].toList == ys[k].toList) = true := by simpa [baeq] using heq
          have HE := Lib.hid heq
          clear heq
          go_wp2
          go_quiet (fail)
          go_wp2
          go_ret
          exact ⟨ret_int (fd_found h1 h2 hpre.out HE.out).symm, _, World.drewN_drewN _ _ _⟩
      · go_wp2
        all_goals go_ret
        all_goals exact ⟨ret_int (fd_end hk1 hk2 hlt hpre.out (by first | omega | (simp only [bne_iff_ne, ne_eq, bne_eq_false_iff_eq] at *; omega))), _, rfl⟩

def enc_step (x : Int × Int) : List Value := [(.int .i64 x.1), (.int .u64 x.2)]
theorem guard_step : Try.prog.eqGuardType Try.prog.depth 40 = false := by kernel_rfl
theorem stood_step : Try.prog.stoodInHeld 40 = false := by kernel_rfl
theorem under_step : Try.prog.underlying 40 = some (.struct (Try.prog.fieldsOf 40)) := by kernel_rfl
theorem neq_step (x y : Int × Int) (W : World) : (binOp .neq 40 (.agg #[(.int .i64 x.1), (.int .u64 x.2)]) (.agg #[(.int .i64 y.1), (.int .u64 y.2)])).run Try.prog W = .ok (.bool (!decide (x = y))) W := by
  rw [run_neq_struct, run_equalIn_struct W _ 40 _ _ under_step stood_step]
  obtain ⟨x1, x2⟩ := x
  obtain ⟨y1, y2⟩ := y
  simp [go_sem, Program.fieldsOf, Try.underlying40]
  by_cases h1 : x1 = y1 <;> simp [h1]
  by_cases h2 : x2 = y2 <;> simp [h2]


set_option maxHeartbeats 1000000 in
theorem first_step (w : World) (B : Nat) (A1 A2 : Option Addr) (c1 c2 : Nat) (xs ys : List (Int × Int))
    (ha : Row w B 2 A1 (xs.map enc_step)) (hb : Row w B 2 A2 (ys.map enc_step))
    (hal : xs.length ≤ 1000000) (hbl : ys.length ≤ 1000000) :
    Calls Try.prog 10 #[.slice A1 xs.length c1, .slice A2 ys.length c2] w
      fun e w' => e = .returned (.int .i64 (fd xs ys)) ∧ ∃ n, w' = w.drewN n := by
  have ha' := Lib.hid ha
  have hb' := Lib.hid hb
  clear ha hb
  go_enter Try.func10, Try.ntmps10
  go_wp2
  all_goals
    go_loopw [4, 5, 11] (fun _ _ i wr => ∃ (k n : Nat), k ≤ xs.length ∧ k ≤ ys.length ∧ i = .int .i64 k ∧ wr = w.drewN n ∧ Hid (xs.take k = ys.take k)) (fun _ _ i _ => 1000000 - (intOf i).toNat)
    case atStart => exact ⟨0, 0, by omega, by omega, rfl, rfl, rfl⟩
    case round =>
      obtain ⟨k, n, hk1, hk2, rfl, rfl, hpre⟩ := hrel
      by_cases hlt : k < xs.length ∧ k < ys.length
      · obtain ⟨h1, h2⟩ := hlt
        obtain ⟨b1, o1, rfl, _, hc1⟩ := ha'.out (by intro h; simp at h; subst h; simp at h1)
        obtain ⟨b2, o2, rfl, _, hc2⟩ := hb'.out (by intro h; simp at h; subst h; simp at h2)
        have d1 := hc1 k (enc_step xs[k]) (by simp [h1])
        have d2 := hc2 k (enc_step ys[k]) (by simp [h2])
        have e10 := d1 0 _ rfl
        have e11 := d1 1 _ rfl
        have e20 := d2 0 _ rfl
        have e21 := d2 1 _ rfl
        simp only [Nat.add_zero] at e10 e11 e20 e21
        clear hc1 hc2 d1 d2
        by_cases heq : xs[k] = ys[k]
        · have hb1 : ∀ W, (binOp .neq 40 (.agg #[(.int .i64 xs[k].1), (.int .u64 xs[k].2)]) (.agg #[(.int .i64 ys[k].1), (.int .u64 ys[k].2)])).run Try.prog W = .ok (.bool false) W := fun W => by rw [neq_step]; simp [heq]
          have HE := Lib.hid heq
          clear heq
          have hgd := guard_step
          go_wp2
          go_quiet (fail)
          go_wp2
          go_roundw
          case rel => exact ⟨k + 1, _, h1, h2, by go_num, rfl, take_more h1 h2 hpre.out HE.out⟩
          case measure => simp [intOf]; omega
        · have hb1 : ∀ W, (binOp .neq 40 (.agg #[(.int .i64 xs[k].1), (.int .u64 xs[k].2)]) (.agg #[(.int .i64 ys[k].1), (.int .u64 ys[k].2)])).run Try.prog W = .ok (.bool true) W := fun W => by rw [neq_step]; simp [heq]
          have HE := Lib.hid heq
          clear heq
          have hgd := guard_step
          go_wp2
          go_quiet (fail)
          go_wp2
          go_ret
          exact ⟨ret_int (fd_found h1 h2 hpre.out HE.out).symm, _, World.drewN_drewN _ _ _⟩
      · go_wp2
        all_goals go_ret
        all_goals exact ⟨ret_int (fd_end hk1 hk2 hlt hpre.out (by first | omega | (simp only [bne_iff_ne, ne_eq, bne_eq_false_iff_eq] at *; omega))), _, rfl⟩

def enc_file (x : ByteArray × ByteArray × ByteArray × Int) : List Value := [(.string x.1), (.string x.2.1), (.string x.2.2.1), (.int .i64 x.2.2.2)]
theorem guard_file : Try.prog.eqGuardType Try.prog.depth 42 = false := by kernel_rfl
theorem stood_file : Try.prog.stoodInHeld 42 = false := by kernel_rfl
theorem under_file : Try.prog.underlying 42 = some (.struct (Try.prog.fieldsOf 42)) := by kernel_rfl
theorem neq_file (x y : ByteArray × ByteArray × ByteArray × Int) (W : World) : (binOp .neq 42 (.agg #[(.string x.1), (.string x.2.1), (.string x.2.2.1), (.int .i64 x.2.2.2)]) (.agg #[(.string y.1), (.string y.2.1), (.string y.2.2.1), (.int .i64 y.2.2.2)])).run Try.prog W = .ok (.bool (!decide (x = y))) W := by
  rw [run_neq_struct, run_equalIn_struct W _ 42 _ _ under_file stood_file]
  obtain ⟨x1, x2⟩ := x
  obtain ⟨y1, y2⟩ := y
  simp [go_sem, Program.fieldsOf, Try.underlying42, baeq]
  by_cases h1 : x1 = y1 <;> simp [h1]
  obtain ⟨x2, x3, x4⟩ := x2; obtain ⟨y2, y3, y4⟩ := y2; by_cases h2 : x2 = y2 <;> simp [h2]; by_cases h3 : x3 = y3 <;> simp [h3]; by_cases h4 : x4 = y4 <;> simp [h4]


set_option maxHeartbeats 1000000 in
theorem first_file (w : World) (B : Nat) (A1 A2 : Option Addr) (c1 c2 : Nat) (xs ys : List (ByteArray × ByteArray × ByteArray × Int))
    (ha : Row w B 4 A1 (xs.map enc_file)) (hb : Row w B 4 A2 (ys.map enc_file))
    (hal : xs.length ≤ 1000000) (hbl : ys.length ≤ 1000000) :
    Calls Try.prog 22 #[.slice A1 xs.length c1, .slice A2 ys.length c2] w
      fun e w' => e = .returned (.int .i64 (fd xs ys)) ∧ ∃ n, w' = w.drewN n := by
  have ha' := Lib.hid ha
  have hb' := Lib.hid hb
  clear ha hb
  go_enter Try.func22, Try.ntmps22
  go_wp2
  all_goals
    go_loopw [4, 5, 11] (fun _ _ i wr => ∃ (k n : Nat), k ≤ xs.length ∧ k ≤ ys.length ∧ i = .int .i64 k ∧ wr = w.drewN n ∧ Hid (xs.take k = ys.take k)) (fun _ _ i _ => 1000000 - (intOf i).toNat)
    case atStart => exact ⟨0, 0, by omega, by omega, rfl, rfl, rfl⟩
    case round =>
      obtain ⟨k, n, hk1, hk2, rfl, rfl, hpre⟩ := hrel
      by_cases hlt : k < xs.length ∧ k < ys.length
      · obtain ⟨h1, h2⟩ := hlt
        obtain ⟨b1, o1, rfl, _, hc1⟩ := ha'.out (by intro h; simp at h; subst h; simp at h1)
        obtain ⟨b2, o2, rfl, _, hc2⟩ := hb'.out (by intro h; simp at h; subst h; simp at h2)
        have d1 := hc1 k (enc_file xs[k]) (by simp [h1])
        have d2 := hc2 k (enc_file ys[k]) (by simp [h2])
        have e10 := d1 0 _ rfl
        have e11 := d1 1 _ rfl
        have e12 := d1 2 _ rfl
        have e13 := d1 3 _ rfl
        have e20 := d2 0 _ rfl
        have e21 := d2 1 _ rfl
        have e22 := d2 2 _ rfl
        have e23 := d2 3 _ rfl
        simp only [Nat.add_zero] at e10 e11 e12 e13 e20 e21 e22 e23
        clear hc1 hc2 d1 d2
        by_cases heq : xs[k] = ys[k]
        · have hb1 : ∀ W, (binOp .neq 42 (.agg #[(.string xs[k].1), (.string xs[k].2.1), (.string xs[k].2.2.1), (.int .i64 xs[k].2.2.2)]) (.agg #[(.string ys[k].1), (.string ys[k].2.1), (.string ys[k].2.2.1), (.int .i64 ys[k].2.2.2)])).run Try.prog W = .ok (.bool false) W := fun W => by rw [neq_file]; simp [heq]
          have HE := Lib.hid heq
          clear heq
          have hgd := guard_file
          go_wp2
          go_quiet (fail)
          go_wp2
          go_roundw
          case rel => exact ⟨k + 1, _, h1, h2, by go_num, rfl, take_more h1 h2 hpre.out HE.out⟩
          case measure => simp [intOf]; omega
        · have hb1 : ∀ W, (binOp .neq 42 (.agg #[(.string xs[k].1), (.string xs[k].2.1), (.string xs[k].2.2.1), (.int .i64 xs[k].2.2.2)]) (.agg #[(.string ys[k].1), (.string ys[k].2.1), (.string ys[k].2.2.1), (.int .i64 ys[k].2.2.2)])).run Try.prog W = .ok (.bool true) W := fun W => by rw [neq_file]; simp [heq]
          have HE := Lib.hid heq
          clear heq
          have hgd := guard_file
          go_wp2
          go_quiet (fail)
          go_wp2
          go_ret
          exact ⟨ret_int (fd_found h1 h2 hpre.out HE.out).symm, _, World.drewN_drewN _ _ _⟩
      · go_wp2
        all_goals go_ret
        all_goals exact ⟨ret_int (fd_end hk1 hk2 hlt hpre.out (by first | omega | (simp only [bne_iff_ne, ne_eq, bne_eq_false_iff_eq] at *; omega))), _, rfl⟩

def enc_listing (x : ByteArray × ByteArray × ByteArray) : List Value := [(.string x.1), (.string x.2.1), (.string x.2.2)]
theorem guard_listing : Try.prog.eqGuardType Try.prog.depth 44 = false := by kernel_rfl
theorem stood_listing : Try.prog.stoodInHeld 44 = false := by kernel_rfl
theorem under_listing : Try.prog.underlying 44 = some (.struct (Try.prog.fieldsOf 44)) := by kernel_rfl
theorem neq_listing (x y : ByteArray × ByteArray × ByteArray) (W : World) : (binOp .neq 44 (.agg #[(.string x.1), (.string x.2.1), (.string x.2.2)]) (.agg #[(.string y.1), (.string y.2.1), (.string y.2.2)])).run Try.prog W = .ok (.bool (!decide (x = y))) W := by
  rw [run_neq_struct, run_equalIn_struct W _ 44 _ _ under_listing stood_listing]
  obtain ⟨x1, x2⟩ := x
  obtain ⟨y1, y2⟩ := y
  simp [go_sem, Program.fieldsOf, Try.underlying44, baeq]
  by_cases h1 : x1 = y1 <;> simp [h1]
  obtain ⟨x2, x3⟩ := x2; obtain ⟨y2, y3⟩ := y2; by_cases h2 : x2 = y2 <;> simp [h2]; by_cases h3 : x3 = y3 <;> simp [h3]


set_option maxHeartbeats 1000000 in
theorem first_listing (w : World) (B : Nat) (A1 A2 : Option Addr) (c1 c2 : Nat) (xs ys : List (ByteArray × ByteArray × ByteArray))
    (ha : Row w B 3 A1 (xs.map enc_listing)) (hb : Row w B 3 A2 (ys.map enc_listing))
    (hal : xs.length ≤ 1000000) (hbl : ys.length ≤ 1000000) :
    Calls Try.prog 24 #[.slice A1 xs.length c1, .slice A2 ys.length c2] w
      fun e w' => e = .returned (.int .i64 (fd xs ys)) ∧ ∃ n, w' = w.drewN n := by
  have ha' := Lib.hid ha
  have hb' := Lib.hid hb
  clear ha hb
  go_enter Try.func24, Try.ntmps24
  go_wp2
  all_goals
    go_loopw [4, 5, 11] (fun _ _ i wr => ∃ (k n : Nat), k ≤ xs.length ∧ k ≤ ys.length ∧ i = .int .i64 k ∧ wr = w.drewN n ∧ Hid (xs.take k = ys.take k)) (fun _ _ i _ => 1000000 - (intOf i).toNat)
    case atStart => exact ⟨0, 0, by omega, by omega, rfl, rfl, rfl⟩
    case round =>
      obtain ⟨k, n, hk1, hk2, rfl, rfl, hpre⟩ := hrel
      by_cases hlt : k < xs.length ∧ k < ys.length
      · obtain ⟨h1, h2⟩ := hlt
        obtain ⟨b1, o1, rfl, _, hc1⟩ := ha'.out (by intro h; simp at h; subst h; simp at h1)
        obtain ⟨b2, o2, rfl, _, hc2⟩ := hb'.out (by intro h; simp at h; subst h; simp at h2)
        have d1 := hc1 k (enc_listing xs[k]) (by simp [h1])
        have d2 := hc2 k (enc_listing ys[k]) (by simp [h2])
        have e10 := d1 0 _ rfl
        have e11 := d1 1 _ rfl
        have e12 := d1 2 _ rfl
        have e20 := d2 0 _ rfl
        have e21 := d2 1 _ rfl
        have e22 := d2 2 _ rfl
        simp only [Nat.add_zero] at e10 e11 e12 e20 e21 e22
        clear hc1 hc2 d1 d2
        by_cases heq : xs[k] = ys[k]
        · have hb1 : ∀ W, (binOp .neq 44 (.agg #[(.string xs[k].1), (.string xs[k].2.1), (.string xs[k].2.2)]) (.agg #[(.string ys[k].1), (.string ys[k].2.1), (.string ys[k].2.2)])).run Try.prog W = .ok (.bool false) W := fun W => by rw [neq_listing]; simp [heq]
          have HE := Lib.hid heq
          clear heq
          have hgd := guard_listing
          go_wp2
          go_quiet (fail)
          go_wp2
          go_roundw
          case rel => exact ⟨k + 1, _, h1, h2, by go_num, rfl, take_more h1 h2 hpre.out HE.out⟩
          case measure => simp [intOf]; omega
        · have hb1 : ∀ W, (binOp .neq 44 (.agg #[(.string xs[k].1), (.string xs[k].2.1), (.string xs[k].2.2)]) (.agg #[(.string ys[k].1), (.string ys[k].2.1), (.string ys[k].2.2)])).run Try.prog W = .ok (.bool true) W := fun W => by rw [neq_listing]; simp [heq]
          have HE := Lib.hid heq
          clear heq
          have hgd := guard_listing
          go_wp2
          go_quiet (fail)
          go_wp2
          go_ret
          exact ⟨ret_int (fd_found h1 h2 hpre.out HE.out).symm, _, World.drewN_drewN _ _ _⟩
      · go_wp2
        all_goals go_ret
        all_goals exact ⟨ret_int (fd_end hk1 hk2 hlt hpre.out (by first | omega | (simp only [bne_iff_ne, ne_eq, bne_eq_false_iff_eq] at *; omega))), _, rfl⟩

end Go.Proofs.Ytfcdfacfdlphfaa

/- Proved here: the walks of judges.single and of the nine closures of judges.comparisons: each compares one part of two results; results whose lists have at most 1000000 elements. -/
import Derived.Test.YtfcdfacfdlphfaaT1
namespace Go.Proofs.Ytfcdfacfdlphfaa
open Go.ChangeShapes Go.WideShapes Go.ChangeAt Go.RowKit
set_option linter.unusedVariables false

theorem below_drewN {B : Nat} {a w : World} (h : Below B a w) (n : Nat) : Below B a (w.drewN n) := ⟨h.os, h.tape, h.output, h.size, h.block⟩

theorem Row.below {w w' : World} {B sz : Nat} {A : Option Addr} {xs : List (List Value)} (h : Row w B sz A xs) (hb : Below B w w') : Row w' B sz A xs := by
  intro hx
  obtain ⟨b, o, rfl, hlt, hc⟩ := h hx
  exact ⟨b, o, rfl, hlt, fun i x hi j u hu => (hb.cell (p := ⟨b, o + i * sz + j, none⟩) hlt).trans (hc i x hi j u hu)⟩
theorem Row.mono {w : World} {B B' sz : Nat} {A : Option Addr} {xs : List (List Value)} (h : Row w B sz A xs) (hb : B ≤ B') : Row w B' sz A xs := by
  intro hx
  obtain ⟨b, o, rfl, hlt, hc⟩ := h hx
  exact ⟨b, o, rfl, by omega, hc⟩
theorem Row.one {w : World} {B g : Nat} {u : Value} (hg : g < B) (h : w.cell? ⟨g, 0, none⟩ = some u) : Row w B 1 (some ⟨g, 0, none⟩) [[u]] := by
  intro _
  refine ⟨g, 0, rfl, hg, fun i x hi j v hv => ?_⟩
  cases i with
  | zero =>
    simp at hi; subst hi
    cases j with
    | zero => simp at hv; subst hv; simpa using h
    | succ j => simp at hv
  | succ i => simp at hi

theorem single_end (x y : Int) (w : World) : Calls Try.prog 12 #[.int .u8 x, .int .u8 y] w fun e w' => e = .returned (.int .i64 (fd [x] [y])) ∧ Below w.heap.size w w' := by
  go_enter Try.func12, Try.ntmps12
  go_wp2_with fail
  refine (first_end _ (w.heap.size + 2) _ _ 1 1 [x] [y] (Row.one (by omega) (by go_simp)) (Row.one (by omega) (by go_simp)) (by simp) (by simp)).mono ?_
  rintro e w' ⟨rfl, n, rfl⟩
  go_wp2
  go_ret
  exact ⟨rfl, below_drewN (((Below.refl _ _).alloc (Nat.le_refl _) _).alloc (by simp) _) n⟩

theorem single_errno (x y : Int) (w : World) : Calls Try.prog 14 #[.int .i64 x, .int .i64 y] w fun e w' => e = .returned (.int .i64 (fd [x] [y])) ∧ Below w.heap.size w w' := by
  go_enter Try.func14, Try.ntmps14
  go_wp2_with fail
  refine (first_errno _ (w.heap.size + 2) _ _ 1 1 [x] [y] (Row.one (by omega) (by go_simp)) (Row.one (by omega) (by go_simp)) (by simp) (by simp)).mono ?_
  rintro e w' ⟨rfl, n, rfl⟩
  go_wp2
  go_ret
  exact ⟨rfl, below_drewN (((Below.refl _ _).alloc (Nat.le_refl _) _).alloc (by simp) _) n⟩

theorem single_int (x y : Int) (w : World) : Calls Try.prog 20 #[.int .i64 x, .int .i64 y] w fun e w' => e = .returned (.int .i64 (fd [x] [y])) ∧ Below w.heap.size w w' := by
  go_enter Try.func20, Try.ntmps20
  go_wp2_with fail
  refine (first_int _ (w.heap.size + 2) _ _ 1 1 [x] [y] (Row.one (by omega) (by go_simp)) (Row.one (by omega) (by go_simp)) (by simp) (by simp)).mono ?_
  rintro e w' ⟨rfl, n, rfl⟩
  go_wp2
  go_ret
  exact ⟨rfl, below_drewN (((Below.refl _ _).alloc (Nat.le_refl _) _).alloc (by simp) _) n⟩

structure Res where
  end_ : Int
  e : Int
  trace : List (Int × Int)
  store : List Int
  out : List ByteArray
  calls : Int
  files : List (ByteArray × ByteArray × ByteArray × Int)
  listings : List (ByteArray × ByteArray × ByteArray)
  performed : List ByteArray
/-- where the lists of a result lie -/
structure Lies where
  (A1 A2 A3 A4 A5 A6 : Option Addr)
  (c1 c2 c3 c4 c5 c6 : Nat)
/-- the value of a result whose lists lie so -/
def Res.cells (r : Res) (p : Lies) : Array Value :=
  #[.int .u8 r.end_, .int .i64 r.e, .slice p.A1 r.trace.length p.c1, .slice p.A2 r.store.length p.c2, .slice p.A3 r.out.length p.c3, .int .i64 r.calls, .slice p.A4 r.files.length p.c4, .slice p.A5 r.listings.length p.c5, .slice p.A6 r.performed.length p.c6]
structure Res.At (r : Res) (w : World) (B : Nat) (p : Lies) : Prop where
  trace : Row w B 2 p.A1 (r.trace.map enc_step)
  store : Row w B 1 p.A2 (r.store.map enc_byte)
  out : Row w B 1 p.A3 (r.out.map enc_str)
  files : Row w B 4 p.A4 (r.files.map enc_file)
  listings : Row w B 3 p.A5 (r.listings.map enc_listing)
  performed : Row w B 1 p.A6 (r.performed.map enc_str)
  short : r.trace.length ≤ 1000000 ∧ r.store.length ≤ 1000000 ∧ r.out.length ≤ 1000000 ∧ r.files.length ≤ 1000000 ∧ r.listings.length ≤ 1000000 ∧ r.performed.length ≤ 1000000
theorem Res.At.below {r : Res} {w w' : World} {B : Nat} {p : Lies} (h : r.At w B p) (hb : Below B w w') : r.At w' B p :=
  ⟨h.trace.below hb, h.store.below hb, h.out.below hb, h.files.below hb, h.listings.below hb, h.performed.below hb, h.short⟩
theorem Res.At.mono {r : Res} {w : World} {B B' : Nat} {p : Lies} (h : r.At w B p) (hb : B ≤ B') : r.At w B' p :=
  ⟨h.trace.mono hb, h.store.mono hb, h.out.mono hb, h.files.mono hb, h.listings.mono hb, h.performed.mono hb, h.short⟩

theorem closure_trace (a b : Res) (w : World) (B : Nat) (p q : Lies) (ha : a.At w B p) (hb : b.At w B q) (hB : B ≤ w.heap.size) :
    Calls Try.prog 9 #[.agg (a.cells p), .agg (b.cells q)] w fun e w' => e = .returned (.int .i64 (fd a.trace b.trace)) ∧ Below w.heap.size w w' := by
  have hb2 : Below B w ((w.alloc (.cells (a.cells p) 31)).alloc (.cells (b.cells q) 31)) := ((Below.refl _ _).alloc hB _).alloc (by simp; omega) _
  unfold Res.cells at hb2 ⊢
  go_enter Try.func9, Try.ntmps9
  go_wp2_with fail
  refine (first_step _ B _ _ _ _ a.trace b.trace (ha.trace.below hb2) (hb.trace.below hb2) (by have := ha.short; omega) (by have := hb.short; omega)).mono ?_
  rintro e w' ⟨rfl, n, rfl⟩
  go_wp2
  go_ret
  exact ⟨rfl, below_drewN (((Below.refl _ _).alloc (Nat.le_refl _) _).alloc (by simp) _) n⟩

theorem closure_end_ (a b : Res) (w : World) (B : Nat) (p q : Lies) (ha : a.At w B p) (hb : b.At w B q) (hB : B ≤ w.heap.size) :
    Calls Try.prog 11 #[.agg (a.cells p), .agg (b.cells q)] w fun e w' => e = .returned (.int .i64 (fd [a.end_] [b.end_])) ∧ Below w.heap.size w w' := by
  have hb2 : Below B w ((w.alloc (.cells (a.cells p) 31)).alloc (.cells (b.cells q) 31)) := ((Below.refl _ _).alloc hB _).alloc (by simp; omega) _
  unfold Res.cells at hb2 ⊢
  go_enter Try.func11, Try.ntmps11
  go_wp2_with fail
  refine (single_end a.end_ b.end_ _).mono ?_
  rintro e w' ⟨rfl, hw⟩
  go_wp2
  go_ret
  exact ⟨rfl, (((Below.refl _ _).alloc (Nat.le_refl _) _).alloc (by simp) _).trans (hw.mono (by simp; omega))⟩

theorem closure_e (a b : Res) (w : World) (B : Nat) (p q : Lies) (ha : a.At w B p) (hb : b.At w B q) (hB : B ≤ w.heap.size) :
    Calls Try.prog 13 #[.agg (a.cells p), .agg (b.cells q)] w fun e w' => e = .returned (.int .i64 (fd [a.e] [b.e])) ∧ Below w.heap.size w w' := by
  have hb2 : Below B w ((w.alloc (.cells (a.cells p) 31)).alloc (.cells (b.cells q) 31)) := ((Below.refl _ _).alloc hB _).alloc (by simp; omega) _
  unfold Res.cells at hb2 ⊢
  go_enter Try.func13, Try.ntmps13
  go_wp2_with fail
  refine (single_errno a.e b.e _).mono ?_
  rintro e w' ⟨rfl, hw⟩
  go_wp2
  go_ret
  exact ⟨rfl, (((Below.refl _ _).alloc (Nat.le_refl _) _).alloc (by simp) _).trans (hw.mono (by simp; omega))⟩

theorem closure_store (a b : Res) (w : World) (B : Nat) (p q : Lies) (ha : a.At w B p) (hb : b.At w B q) (hB : B ≤ w.heap.size) :
    Calls Try.prog 15 #[.agg (a.cells p), .agg (b.cells q)] w fun e w' => e = .returned (.int .i64 (fd a.store b.store)) ∧ Below w.heap.size w w' := by
  have hb2 : Below B w ((w.alloc (.cells (a.cells p) 31)).alloc (.cells (b.cells q) 31)) := ((Below.refl _ _).alloc hB _).alloc (by simp; omega) _
  unfold Res.cells at hb2 ⊢
  go_enter Try.func15, Try.ntmps15
  go_wp2_with fail
  refine (first_byte _ B _ _ _ _ a.store b.store (ha.store.below hb2) (hb.store.below hb2) (by have := ha.short; omega) (by have := hb.short; omega)).mono ?_
  rintro e w' ⟨rfl, n, rfl⟩
  go_wp2
  go_ret
  exact ⟨rfl, below_drewN (((Below.refl _ _).alloc (Nat.le_refl _) _).alloc (by simp) _) n⟩

theorem closure_out (a b : Res) (w : World) (B : Nat) (p q : Lies) (ha : a.At w B p) (hb : b.At w B q) (hB : B ≤ w.heap.size) :
    Calls Try.prog 17 #[.agg (a.cells p), .agg (b.cells q)] w fun e w' => e = .returned (.int .i64 (fd a.out b.out)) ∧ Below w.heap.size w w' := by
  have hb2 : Below B w ((w.alloc (.cells (a.cells p) 31)).alloc (.cells (b.cells q) 31)) := ((Below.refl _ _).alloc hB _).alloc (by simp; omega) _
  unfold Res.cells at hb2 ⊢
  go_enter Try.func17, Try.ntmps17
  go_wp2_with fail
  refine (first_str _ B _ _ _ _ a.out b.out (ha.out.below hb2) (hb.out.below hb2) (by have := ha.short; omega) (by have := hb.short; omega)).mono ?_
  rintro e w' ⟨rfl, n, rfl⟩
  go_wp2
  go_ret
  exact ⟨rfl, below_drewN (((Below.refl _ _).alloc (Nat.le_refl _) _).alloc (by simp) _) n⟩

theorem closure_calls (a b : Res) (w : World) (B : Nat) (p q : Lies) (ha : a.At w B p) (hb : b.At w B q) (hB : B ≤ w.heap.size) :
    Calls Try.prog 19 #[.agg (a.cells p), .agg (b.cells q)] w fun e w' => e = .returned (.int .i64 (fd [a.calls] [b.calls])) ∧ Below w.heap.size w w' := by
  have hb2 : Below B w ((w.alloc (.cells (a.cells p) 31)).alloc (.cells (b.cells q) 31)) := ((Below.refl _ _).alloc hB _).alloc (by simp; omega) _
  unfold Res.cells at hb2 ⊢
  go_enter Try.func19, Try.ntmps19
  go_wp2_with fail
  refine (single_int a.calls b.calls _).mono ?_
  rintro e w' ⟨rfl, hw⟩
  go_wp2
  go_ret
  exact ⟨rfl, (((Below.refl _ _).alloc (Nat.le_refl _) _).alloc (by simp) _).trans (hw.mono (by simp; omega))⟩

theorem closure_files (a b : Res) (w : World) (B : Nat) (p q : Lies) (ha : a.At w B p) (hb : b.At w B q) (hB : B ≤ w.heap.size) :
    Calls Try.prog 21 #[.agg (a.cells p), .agg (b.cells q)] w fun e w' => e = .returned (.int .i64 (fd a.files b.files)) ∧ Below w.heap.size w w' := by
  have hb2 : Below B w ((w.alloc (.cells (a.cells p) 31)).alloc (.cells (b.cells q) 31)) := ((Below.refl _ _).alloc hB _).alloc (by simp; omega) _
  unfold Res.cells at hb2 ⊢
  go_enter Try.func21, Try.ntmps21
  go_wp2_with fail
  refine (first_file _ B _ _ _ _ a.files b.files (ha.files.below hb2) (hb.files.below hb2) (by have := ha.short; omega) (by have := hb.short; omega)).mono ?_
  rintro e w' ⟨rfl, n, rfl⟩
  go_wp2
  go_ret
  exact ⟨rfl, below_drewN (((Below.refl _ _).alloc (Nat.le_refl _) _).alloc (by simp) _) n⟩

theorem closure_listings (a b : Res) (w : World) (B : Nat) (p q : Lies) (ha : a.At w B p) (hb : b.At w B q) (hB : B ≤ w.heap.size) :
    Calls Try.prog 23 #[.agg (a.cells p), .agg (b.cells q)] w fun e w' => e = .returned (.int .i64 (fd a.listings b.listings)) ∧ Below w.heap.size w w' := by
  have hb2 : Below B w ((w.alloc (.cells (a.cells p) 31)).alloc (.cells (b.cells q) 31)) := ((Below.refl _ _).alloc hB _).alloc (by simp; omega) _
  unfold Res.cells at hb2 ⊢
  go_enter Try.func23, Try.ntmps23
  go_wp2_with fail
  refine (first_listing _ B _ _ _ _ a.listings b.listings (ha.listings.below hb2) (hb.listings.below hb2) (by have := ha.short; omega) (by have := hb.short; omega)).mono ?_
  rintro e w' ⟨rfl, n, rfl⟩
  go_wp2
  go_ret
  exact ⟨rfl, below_drewN (((Below.refl _ _).alloc (Nat.le_refl _) _).alloc (by simp) _) n⟩

theorem closure_performed (a b : Res) (w : World) (B : Nat) (p q : Lies) (ha : a.At w B p) (hb : b.At w B q) (hB : B ≤ w.heap.size) :
    Calls Try.prog 25 #[.agg (a.cells p), .agg (b.cells q)] w fun e w' => e = .returned (.int .i64 (fd a.performed b.performed)) ∧ Below w.heap.size w w' := by
  have hb2 : Below B w ((w.alloc (.cells (a.cells p) 31)).alloc (.cells (b.cells q) 31)) := ((Below.refl _ _).alloc hB _).alloc (by simp; omega) _
  unfold Res.cells at hb2 ⊢
  go_enter Try.func25, Try.ntmps25
  go_wp2_with fail
  refine (first_str _ B _ _ _ _ a.performed b.performed (ha.performed.below hb2) (hb.performed.below hb2) (by have := ha.short; omega) (by have := hb.short; omega)).mono ?_
  rintro e w' ⟨rfl, n, rfl⟩
  go_wp2
  go_ret
  exact ⟨rfl, below_drewN (((Below.refl _ _).alloc (Nat.le_refl _) _).alloc (by simp) _) n⟩

end Go.Proofs.Ytfcdfacfdlphfaa

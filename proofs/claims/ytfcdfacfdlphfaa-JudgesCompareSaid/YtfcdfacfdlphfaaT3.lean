/- Proved here: the walk of judges.Compare: it returns the first part that differs, and the index; results whose lists have at most 1000000 elements. -/
import Derived.Test.YtfcdfacfdlphfaaT2
import Derived.Laws.EntriesVeiled
namespace Go.Proofs.Ytfcdfacfdlphfaa
open Go.ChangeShapes Go.WideShapes Go.ChangeAt Go.RowKit
set_option linter.unusedVariables false

def nm : Nat → ByteArray
  | 0 => ⟨#[116, 114, 97, 99, 101]⟩
  | 1 => ⟨#[101, 110, 100]⟩
  | 2 => ⟨#[101, 114, 114, 111, 114]⟩
  | 3 => ⟨#[115, 116, 111, 114, 101]⟩
  | 4 => ⟨#[111, 117, 116]⟩
  | 5 => ⟨#[99, 97, 108, 108, 115]⟩
  | 6 => ⟨#[102, 105, 108, 101, 115]⟩
  | 7 => ⟨#[108, 105, 115, 116, 105, 110, 103, 115]⟩
  | _ => ⟨#[112, 101, 114, 102, 111, 114, 109, 101, 100]⟩

def table : Array Value := #[.string (nm 0), .func (.func 9) #[] #[], .string (nm 1), .func (.func 11) #[] #[], .string (nm 2), .func (.func 13) #[] #[], .string (nm 3), .func (.func 15) #[] #[], .string (nm 4), .func (.func 17) #[] #[], .string (nm 5), .func (.func 19) #[] #[], .string (nm 6), .func (.func 21) #[] #[], .string (nm 7), .func (.func 23) #[] #[], .string (nm 8), .func (.func 25) #[] #[]]

theorem comparisons_any (w : World) : Calls Try.prog 8 #[] w fun e w' => e = .returned (.slice (some ⟨w.heap.size, 0, none⟩) 9 9) ∧ w' = w.alloc (.cells table 49) := by
  go_enter Try.func8, Try.ntmps8
  go_wp2
  go_ret
  exact ⟨rfl, rfl⟩

def prt (a b : Res) : Nat → Int
  | 0 => fd a.trace b.trace
  | 1 => fd [a.end_] [b.end_]
  | 2 => fd [a.e] [b.e]
  | 3 => fd a.store b.store
  | 4 => fd a.out b.out
  | 5 => fd [a.calls] [b.calls]
  | 6 => fd a.files b.files
  | 7 => fd a.listings b.listings
  | _ => fd a.performed b.performed

def CmpPost (a b : Res) (e : Ending) : Prop :=
  (∃ k, k < 9 ∧ (∀ j, j < k → prt a b j < 0) ∧ 0 ≤ prt a b k ∧ e = .returned (.tuple #[.string (nm k), .int .i64 (prt a b k)])) ∨
  ((∀ j, j < 9 → prt a b j < 0) ∧ e = .returned (.tuple #[.string ⟨#[]⟩, .int .i64 0]))

theorem fd_lt {α : Type} [DecidableEq α] : ∀ (l m : List α), -1 ≤ fd l m ∧ fd l m ≤ l.length
  | [], [] => by simp [fd]
  | [], _ :: _ => by simp [fd]
  | _ :: _, [] => by simp [fd]; omega
  | a :: l, b :: m => by
    have ih := fd_lt l m
    simp only [fd, List.length_cons]
    split
    · split <;> omega
    · omega

/-- block g holds just these cells, none frozen -/
def Blk (w : World) (g : Nat) (t : TypeId) (cs : Array Value) : Prop := w.heap[g]? = some (.cells cs t (0, 0))
theorem Blk.lt {w : World} {g : Nat} {t : TypeId} {cs : Array Value} (h : Blk w g t cs) : g < w.heap.size := by
  rcases Nat.lt_or_ge g w.heap.size with h1 | h1
  · exact h1
  · unfold Blk at h; rw [Array.getElem?_eq_none h1] at h; cases h
theorem Blk.new (w : World) (t : TypeId) (cs : Array Value) : Blk (w.alloc (.cells cs t)) w.heap.size t cs := heap_alloc_new w _
theorem Blk.new' {w : World} {t : TypeId} {cs : Array Value} {g : Nat} (h : g = w.heap.size) : Blk (w.alloc (.cells cs t)) g t cs := h ▸ heap_alloc_new w _
theorem Blk.alloc {w : World} {g : Nat} {t : TypeId} {cs : Array Value} (h : Blk w g t cs) (o : Obj) : Blk (w.alloc o) g t cs := (Below.heap_alloc w o g h.lt).trans h
theorem Blk.below {w w' : World} {g B : Nat} {t : TypeId} {cs : Array Value} (h : Blk w g t cs) (hb : Below B w w') (hg : g < B) : Blk w' g t cs := (hb.block g hg).trans h
theorem Blk.cell {w : World} {g : Nat} {t : TypeId} {cs : Array Value} (h : Blk w g t cs) {j : Nat} {u : Value} (hu : cs[j]? = some u) : w.cell? ⟨g, j, none⟩ = some u := by
  unfold Blk at h
  simp [World.cell?, h, hu]

theorem no_more {a b : Res} {k : Nat} (h : ∀ j, j < k → prt a b j < 0) (hk : prt a b k < 0) : ∀ j, j < k + 1 → prt a b j < 0 := by
  intro j hj
  rcases Nat.lt_or_ge j k with h1 | h1
  · exact h j h1
  · obtain rfl : j = k := by omega
    exact hk

set_option maxHeartbeats 4000000 in
theorem compare_any (a b : Res) (w : World) (B : Nat) (p q : Lies) (ha : a.At w B p) (hb : b.At w B q) (hB : B ≤ w.heap.size) :
    Calls Try.prog 6 #[.agg (a.cells p), .agg (b.cells q)] w fun e w' => CmpPost a b e ∧ Below w.heap.size w w' := by
  have HA := Lib.hid ha
  have HB := Lib.hid hb
  clear ha hb
  have hW0 : ∃ W0, W0 = ((w.alloc (.cells (a.cells p) 31)).alloc (.cells (b.cells q) 31)).alloc (.cells table 49) := ⟨_, rfl⟩
  obtain ⟨W0, hW0⟩ := hW0
  have hs0 : W0.heap.size = w.heap.size + 3 := by subst hW0; simp
  have hb0 : Below w.heap.size w W0 := by subst hW0; exact (((Below.refl _ _).alloc (Nat.le_refl _) _).alloc (by simp) _).alloc (by simp; omega) _
  have hx0 : Blk W0 w.heap.size 31 (a.cells p) := by subst hW0; exact ((Blk.new _ _ _).alloc _).alloc _
  have hx1 : Blk W0 (w.heap.size + 1) 31 (b.cells q) := by subst hW0; exact (Blk.new' (by simp)).alloc _
  have hx2 : Blk W0 (w.heap.size + 2) 49 table := by subst hW0; exact Blk.new' (by simp)
  have H0 := Lib.hid hx0
  have H1 := Lib.hid hx1
  have H2 := Lib.hid hx2
  have HW := Lib.hid hW0
  have HS := Lib.hid hs0
  clear hx0 hx1 hx2 hW0 hs0
  unfold Res.cells
  go_enter Try.func6, Try.ntmps6
  go_wp2_with (go_at_call 8; refine (comparisons_any _).mono ?_; rintro e w' ⟨rfl, rfl⟩)
  go_loopw [4, 5, 7, 8, 11] (fun _ _ _ _ i wr => ∃ (k : Nat), k ≤ 9 ∧ i = .int .i64 k ∧ Below (w.heap.size + 3) W0 wr ∧ Hid (∀ j, j < k → prt a b j < 0)) (fun _ _ _ _ i _ => 9 - (intOf i).toNat)
  case atStart => exact ⟨0, by omega, rfl, HW.out ▸ Below.refl _ _, fun j hj => absurd hj (by omega)⟩
  case round =>
    obtain ⟨k, hk, rfl, hbw, hno⟩ := hrel
    have hsz : w.heap.size + 3 ≤ wr.heap.size := by have := hbw.size; rw [HS.out] at this; exact this
    have hs1 : w.heap.size < wr.heap.size := by omega
    have hs2 : w.heap.size + 1 < wr.heap.size := by omega
    have hbb : Below w.heap.size w wr := hb0.trans (hbw.mono (by omega))
    have K0 := H0.out.below hbw (by omega)
    have K1 := H1.out.below hbw (by omega)
    have K2 := H2.out.below hbw (by omega)
    unfold Res.cells at K0 K1
    unfold table at K2
    have a0 := K0.cell (j := 0) rfl
    have b0 := K1.cell (j := 0) rfl
    have a1 := K0.cell (j := 1) rfl
    have b1 := K1.cell (j := 1) rfl
    have a2 := K0.cell (j := 2) rfl
    have b2 := K1.cell (j := 2) rfl
    have a3 := K0.cell (j := 3) rfl
    have b3 := K1.cell (j := 3) rfl
    have a4 := K0.cell (j := 4) rfl
    have b4 := K1.cell (j := 4) rfl
    have a5 := K0.cell (j := 5) rfl
    have b5 := K1.cell (j := 5) rfl
    have a6 := K0.cell (j := 6) rfl
    have b6 := K1.cell (j := 6) rfl
    have a7 := K0.cell (j := 7) rfl
    have b7 := K1.cell (j := 7) rfl
    have a8 := K0.cell (j := 8) rfl
    have b8 := K1.cell (j := 8) rfl
    clear K0 K1
    have hcase : k = 0 ∨ k = 1 ∨ k = 2 ∨ k = 3 ∨ k = 4 ∨ k = 5 ∨ k = 6 ∨ k = 7 ∨ k = 8 ∨ k = 9 := by omega
    clear hk
    rcases hcase with rfl | rfl | rfl | rfl | rfl | rfl | rfl | rfl | rfl | rfl
    · have t0 := K2.cell (j := 0) rfl
      have t1 := K2.cell (j := 1) rfl
      clear K2
      go_wp2_with fail
      refine (closure_trace a b _ B p q ((HA.out.below (hbb.mono hB)).below ((Below.refl _ _).alloc (by omega) _)) ((HB.out.below (hbb.mono hB)).below ((Below.refl _ _).alloc (by omega) _)) (by simp; omega)).mono ?_
      rintro e w1 ⟨rfl, hw1⟩
      have g0 : w1.cell? ⟨wr.heap.size, 0, none⟩ = some (.string (nm 0)) := (hw1.cell (p := ⟨wr.heap.size, 0, none⟩) (by simp)).trans (by go_simp)
      have hw2 : Below (w.heap.size + 3) W0 w1 := (hbw.alloc (by omega) _).trans (hw1.mono (by simp; omega))
      have hw3 : Below w.heap.size w w1 := hb0.trans (hw2.mono (by omega))
      have hp : prt a b 0 = fd a.trace b.trace := rfl
      have HP := Lib.hid hp
      clear hp hw1 t0 t1 a0 a1 a2 a3 a4 a5 a6 a7 a8 b0 b1 b2 b3 b4 b5 b6 b7 b8
      by_cases hg : 0 ≤ fd a.trace b.trace
      · go_wp2
        go_ret2
        exact ⟨.inl ⟨0, by omega, hno.out, HP.out ▸ hg, by rw [HP.out]; rfl⟩, hw3⟩
      · go_wp2
        go_roundw
        case rel => exact ⟨0 + 1, by omega, by go_num, hw2, no_more hno.out (by rw [HP.out]; omega)⟩
        case measure => simp [intOf]
    · have t0 := K2.cell (j := 2) rfl
      have t1 := K2.cell (j := 3) rfl
      clear K2
      go_wp2_with fail
      refine (closure_end_ a b _ B p q ((HA.out.below (hbb.mono hB)).below ((Below.refl _ _).alloc (by omega) _)) ((HB.out.below (hbb.mono hB)).below ((Below.refl _ _).alloc (by omega) _)) (by simp; omega)).mono ?_
      rintro e w1 ⟨rfl, hw1⟩
      have g0 : w1.cell? ⟨wr.heap.size, 0, none⟩ = some (.string (nm 1)) := (hw1.cell (p := ⟨wr.heap.size, 0, none⟩) (by simp)).trans (by go_simp)
      have hw2 : Below (w.heap.size + 3) W0 w1 := (hbw.alloc (by omega) _).trans (hw1.mono (by simp; omega))
      have hw3 : Below w.heap.size w w1 := hb0.trans (hw2.mono (by omega))
      have hp : prt a b 1 = fd [a.end_] [b.end_] := rfl
      have HP := Lib.hid hp
      clear hp hw1 t0 t1 a0 a1 a2 a3 a4 a5 a6 a7 a8 b0 b1 b2 b3 b4 b5 b6 b7 b8
      by_cases hg : 0 ≤ fd [a.end_] [b.end_]
      · go_wp2
        go_ret2
        exact ⟨.inl ⟨1, by omega, hno.out, HP.out ▸ hg, by rw [HP.out]; rfl⟩, hw3⟩
      · go_wp2
        go_roundw
        case rel => exact ⟨1 + 1, by omega, by go_num, hw2, no_more hno.out (by rw [HP.out]; omega)⟩
        case measure => simp [intOf]
    · have t0 := K2.cell (j := 4) rfl
      have t1 := K2.cell (j := 5) rfl
      clear K2
      go_wp2_with fail
      refine (closure_e a b _ B p q ((HA.out.below (hbb.mono hB)).below ((Below.refl _ _).alloc (by omega) _)) ((HB.out.below (hbb.mono hB)).below ((Below.refl _ _).alloc (by omega) _)) (by simp; omega)).mono ?_
      rintro e w1 ⟨rfl, hw1⟩
      have g0 : w1.cell? ⟨wr.heap.size, 0, none⟩ = some (.string (nm 2)) := (hw1.cell (p := ⟨wr.heap.size, 0, none⟩) (by simp)).trans (by go_simp)
      have hw2 : Below (w.heap.size + 3) W0 w1 := (hbw.alloc (by omega) _).trans (hw1.mono (by simp; omega))
      have hw3 : Below w.heap.size w w1 := hb0.trans (hw2.mono (by omega))
      have hp : prt a b 2 = fd [a.e] [b.e] := rfl
      have HP := Lib.hid hp
      clear hp hw1 t0 t1 a0 a1 a2 a3 a4 a5 a6 a7 a8 b0 b1 b2 b3 b4 b5 b6 b7 b8
      by_cases hg : 0 ≤ fd [a.e] [b.e]
      · go_wp2
        go_ret2
        exact ⟨.inl ⟨2, by omega, hno.out, HP.out ▸ hg, by rw [HP.out]; rfl⟩, hw3⟩
      · go_wp2
        go_roundw
        case rel => exact ⟨2 + 1, by omega, by go_num, hw2, no_more hno.out (by rw [HP.out]; omega)⟩
        case measure => simp [intOf]
    · have t0 := K2.cell (j := 6) rfl
      have t1 := K2.cell (j := 7) rfl
      clear K2
      go_wp2_with fail
      refine (closure_store a b _ B p q ((HA.out.below (hbb.mono hB)).below ((Below.refl _ _).alloc (by omega) _)) ((HB.out.below (hbb.mono hB)).below ((Below.refl _ _).alloc (by omega) _)) (by simp; omega)).mono ?_
      rintro e w1 ⟨rfl, hw1⟩
      have g0 : w1.cell? ⟨wr.heap.size, 0, none⟩ = some (.string (nm 3)) := (hw1.cell (p := ⟨wr.heap.size, 0, none⟩) (by simp)).trans (by go_simp)
      have hw2 : Below (w.heap.size + 3) W0 w1 := (hbw.alloc (by omega) _).trans (hw1.mono (by simp; omega))
      have hw3 : Below w.heap.size w w1 := hb0.trans (hw2.mono (by omega))
      have hp : prt a b 3 = fd a.store b.store := rfl
      have HP := Lib.hid hp
      clear hp hw1 t0 t1 a0 a1 a2 a3 a4 a5 a6 a7 a8 b0 b1 b2 b3 b4 b5 b6 b7 b8
      by_cases hg : 0 ≤ fd a.store b.store
      · go_wp2
        go_ret2
        exact ⟨.inl ⟨3, by omega, hno.out, HP.out ▸ hg, by rw [HP.out]; rfl⟩, hw3⟩
      · go_wp2
        go_roundw
        case rel => exact ⟨3 + 1, by omega, by go_num, hw2, no_more hno.out (by rw [HP.out]; omega)⟩
        case measure => simp [intOf]
    · have t0 := K2.cell (j := 8) rfl
      have t1 := K2.cell (j := 9) rfl
      clear K2
      go_wp2_with fail
      refine (closure_out a b _ B p q ((HA.out.below (hbb.mono hB)).below ((Below.refl _ _).alloc (by omega) _)) ((HB.out.below (hbb.mono hB)).below ((Below.refl _ _).alloc (by omega) _)) (by simp; omega)).mono ?_
      rintro e w1 ⟨rfl, hw1⟩
      have g0 : w1.cell? ⟨wr.heap.size, 0, none⟩ = some (.string (nm 4)) := (hw1.cell (p := ⟨wr.heap.size, 0, none⟩) (by simp)).trans (by go_simp)
      have hw2 : Below (w.heap.size + 3) W0 w1 := (hbw.alloc (by omega) _).trans (hw1.mono (by simp; omega))
      have hw3 : Below w.heap.size w w1 := hb0.trans (hw2.mono (by omega))
      have hp : prt a b 4 = fd a.out b.out := rfl
      have HP := Lib.hid hp
      clear hp hw1 t0 t1 a0 a1 a2 a3 a4 a5 a6 a7 a8 b0 b1 b2 b3 b4 b5 b6 b7 b8
      by_cases hg : 0 ≤ fd a.out b.out
      · go_wp2
        go_ret2
        exact ⟨.inl ⟨4, by omega, hno.out, HP.out ▸ hg, by rw [HP.out]; rfl⟩, hw3⟩
      · go_wp2
        go_roundw
        case rel => exact ⟨4 + 1, by omega, by go_num, hw2, no_more hno.out (by rw [HP.out]; omega)⟩
        case measure => simp [intOf]
    · have t0 := K2.cell (j := 10) rfl
      have t1 := K2.cell (j := 11) rfl
      clear K2
      go_wp2_with fail
      refine (closure_calls a b _ B p q ((HA.out.below (hbb.mono hB)).below ((Below.refl _ _).alloc (by omega) _)) ((HB.out.below (hbb.mono hB)).below ((Below.refl _ _).alloc (by omega) _)) (by simp; omega)).mono ?_
      rintro e w1 ⟨rfl, hw1⟩
      have g0 : w1.cell? ⟨wr.heap.size, 0, none⟩ = some (.string (nm 5)) := (hw1.cell (p := ⟨wr.heap.size, 0, none⟩) (by simp)).trans (by go_simp)
      have hw2 : Below (w.heap.size + 3) W0 w1 := (hbw.alloc (by omega) _).trans (hw1.mono (by simp; omega))
      have hw3 : Below w.heap.size w w1 := hb0.trans (hw2.mono (by omega))
      have hp : prt a b 5 = fd [a.calls] [b.calls] := rfl
      have HP := Lib.hid hp
      clear hp hw1 t0 t1 a0 a1 a2 a3 a4 a5 a6 a7 a8 b0 b1 b2 b3 b4 b5 b6 b7 b8
      by_cases hg : 0 ≤ fd [a.calls] [b.calls]
      · go_wp2
        go_ret2
        exact ⟨.inl ⟨5, by omega, hno.out, HP.out ▸ hg, by rw [HP.out]; rfl⟩, hw3⟩
      · go_wp2
        go_roundw
        case rel => exact ⟨5 + 1, by omega, by go_num, hw2, no_more hno.out (by rw [HP.out]; omega)⟩
        case measure => simp [intOf]
    · have t0 := K2.cell (j := 12) rfl
      have t1 := K2.cell (j := 13) rfl
      clear K2
      go_wp2_with fail
      refine (closure_files a b _ B p q ((HA.out.below (hbb.mono hB)).below ((Below.refl _ _).alloc (by omega) _)) ((HB.out.below (hbb.mono hB)).below ((Below.refl _ _).alloc (by omega) _)) (by simp; omega)).mono ?_
      rintro e w1 ⟨rfl, hw1⟩
      have g0 : w1.cell? ⟨wr.heap.size, 0, none⟩ = some (.string (nm 6)) := (hw1.cell (p := ⟨wr.heap.size, 0, none⟩) (by simp)).trans (by go_simp)
      have hw2 : Below (w.heap.size + 3) W0 w1 := (hbw.alloc (by omega) _).trans (hw1.mono (by simp; omega))
      have hw3 : Below w.heap.size w w1 := hb0.trans (hw2.mono (by omega))
      have hp : prt a b 6 = fd a.files b.files := rfl
      have HP := Lib.hid hp
      clear hp hw1 t0 t1 a0 a1 a2 a3 a4 a5 a6 a7 a8 b0 b1 b2 b3 b4 b5 b6 b7 b8
      by_cases hg : 0 ≤ fd a.files b.files
      · go_wp2
        go_ret2
        exact ⟨.inl ⟨6, by omega, hno.out, HP.out ▸ hg, by rw [HP.out]; rfl⟩, hw3⟩
      · go_wp2
        go_roundw
        case rel => exact ⟨6 + 1, by omega, by go_num, hw2, no_more hno.out (by rw [HP.out]; omega)⟩
        case measure => simp [intOf]
    · have t0 := K2.cell (j := 14) rfl
      have t1 := K2.cell (j := 15) rfl
      clear K2
      go_wp2_with fail
      refine (closure_listings a b _ B p q ((HA.out.below (hbb.mono hB)).below ((Below.refl _ _).alloc (by omega) _)) ((HB.out.below (hbb.mono hB)).below ((Below.refl _ _).alloc (by omega) _)) (by simp; omega)).mono ?_
      rintro e w1 ⟨rfl, hw1⟩
      have g0 : w1.cell? ⟨wr.heap.size, 0, none⟩ = some (.string (nm 7)) := (hw1.cell (p := ⟨wr.heap.size, 0, none⟩) (by simp)).trans (by go_simp)
      have hw2 : Below (w.heap.size + 3) W0 w1 := (hbw.alloc (by omega) _).trans (hw1.mono (by simp; omega))
      have hw3 : Below w.heap.size w w1 := hb0.trans (hw2.mono (by omega))
      have hp : prt a b 7 = fd a.listings b.listings := rfl
      have HP := Lib.hid hp
      clear hp hw1 t0 t1 a0 a1 a2 a3 a4 a5 a6 a7 a8 b0 b1 b2 b3 b4 b5 b6 b7 b8
      by_cases hg : 0 ≤ fd a.listings b.listings
      · go_wp2
        go_ret2
        exact ⟨.inl ⟨7, by omega, hno.out, HP.out ▸ hg, by rw [HP.out]; rfl⟩, hw3⟩
      · go_wp2
        go_roundw
        case rel => exact ⟨7 + 1, by omega, by go_num, hw2, no_more hno.out (by rw [HP.out]; omega)⟩
        case measure => simp [intOf]
    · have t0 := K2.cell (j := 16) rfl
      have t1 := K2.cell (j := 17) rfl
      clear K2
      go_wp2_with fail
      refine (closure_performed a b _ B p q ((HA.out.below (hbb.mono hB)).below ((Below.refl _ _).alloc (by omega) _)) ((HB.out.below (hbb.mono hB)).below ((Below.refl _ _).alloc (by omega) _)) (by simp; omega)).mono ?_
      rintro e w1 ⟨rfl, hw1⟩
      have g0 : w1.cell? ⟨wr.heap.size, 0, none⟩ = some (.string (nm 8)) := (hw1.cell (p := ⟨wr.heap.size, 0, none⟩) (by simp)).trans (by go_simp)
      have hw2 : Below (w.heap.size + 3) W0 w1 := (hbw.alloc (by omega) _).trans (hw1.mono (by simp; omega))
      have hw3 : Below w.heap.size w w1 := hb0.trans (hw2.mono (by omega))
      have hp : prt a b 8 = fd a.performed b.performed := rfl
      have HP := Lib.hid hp
      clear hp hw1 t0 t1 a0 a1 a2 a3 a4 a5 a6 a7 a8 b0 b1 b2 b3 b4 b5 b6 b7 b8
      by_cases hg : 0 ≤ fd a.performed b.performed
      · go_wp2
        go_ret2
        exact ⟨.inl ⟨8, by omega, hno.out, HP.out ▸ hg, by rw [HP.out]; rfl⟩, hw3⟩
      · go_wp2
        go_roundw
        case rel => exact ⟨8 + 1, by omega, by go_num, hw2, no_more hno.out (by rw [HP.out]; omega)⟩
        case measure => simp [intOf]
    · clear K2
      go_wp2
      go_ret2
      exact ⟨.inr ⟨hno.out, rfl⟩, hbb⟩

end Go.Proofs.Ytfcdfacfdlphfaa

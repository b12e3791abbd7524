/- Proved here: the walk of the law's function lives: it returns true; no condition. -/
import Derived.Test.YtfcdfacfdlphfaaT7
import Derived.Deep.DeepCutAuto
namespace Go.Proofs.Ytfcdfacfdlphfaa
open Go.ChangeShapes Go.WideShapes Go.ChangeAt Go.RowKit
set_option linter.unusedVariables false
set_option linter.unusedSimpArgs false

theorem cmp_is {a b : Res} {e : Ending} (h : CmpPost a b e) (k : Nat) (hk : k < 9) (hlt : ∀ j, j < k → prt a b j < 0) (hge : 0 ≤ prt a b k) : e = .returned (.tuple #[.string (nm k), .int .i64 (prt a b k)]) := by
  rcases h with ⟨k', hk', hlt', hge', rfl⟩ | ⟨hall, _⟩
  · obtain rfl : k' = k := by
      rcases Nat.lt_trichotomy k' k with h | h | h
      · have := hlt k' h; omega
      · exact h
      · have := hlt' k h; omega
    rfl
  · have := hall k hk; omega
theorem cmp_none {a b : Res} {e : Ending} (h : CmpPost a b e) (hlt : ∀ j, j < 9 → prt a b j < 0) : e = .returned (.tuple #[.string ⟨#[]⟩, .int .i64 0]) := by
  rcases h with ⟨k', hk', hlt', hge', rfl⟩ | ⟨_, rfl⟩
  · have := hlt k' hk'; omega
  · rfl

theorem lt_of_some {α : Type} {l : List α} {j : Nat} {u : α} (h : l[j]? = some u) : j < l.length := (List.getElem?_eq_some_iff.1 h).1
theorem flatten_at {α : Type} {sz : Nat} : ∀ (xs : List (List α)) (i j : Nat) (x : List α) (u : α), (∀ x ∈ xs, x.length = sz) → xs[i]? = some x → x[j]? = some u → xs.flatten[i * sz + j]? = some u
  | [], i, j, x, u, _, h, _ => by simp at h
  | y :: xs, 0, j, x, u, hall, h, hu => by
    simp at h
    subst h
    rw [List.flatten_cons, Nat.zero_mul, Nat.zero_add, List.getElem?_append_left (lt_of_some hu), hu]
  | y :: xs, i + 1, j, x, u, hall, h, hu => by
    have hy : y.length = sz := hall y (by simp)
    have ih := flatten_at xs i j x u (fun x hx => hall x (by simp [hx])) (by simpa using h) hu
    rw [List.flatten_cons, List.getElem?_append_right (by rw [hy, Nat.succ_mul]; omega), hy, ← ih]
    congr 1
    rw [Nat.succ_mul]
    omega
theorem Row.flat {w : World} {B sz b o : Nat} {xs : List (List Value)} (hall : ∀ x ∈ xs, x.length = sz) (hb : b < B) (hc : ∀ j u, xs.flatten[j]? = some u → w.cell? ⟨b, o + j, none⟩ = some u) : Row w B sz (some ⟨b, o, none⟩) xs := by
  intro _
  refine ⟨b, o, rfl, hb, fun i x hi j u hu => ?_⟩
  rw [Nat.add_assoc]
  exact hc _ _ (flatten_at xs i j x u hall hi hu)
theorem Row.blk {w : World} {B sz g : Nat} {t : TypeId} {cs : Array Value} {xs : List (List Value)} (h : Blk w g t cs) (hB : g < B) (hall : ∀ x ∈ xs, x.length = sz) (hx : xs.flatten = cs.toList) : Row w B sz (some ⟨g, 0, none⟩) xs :=
  Row.flat hall hB fun j u hu => by
    rw [Nat.zero_add]
    exact h.cell (by rw [hx] at hu; simpa using hu)
theorem Row.nil {w : World} {B sz : Nat} {A : Option Addr} : Row w B sz A [] := fun h => absurd rfl h
theorem Row.own {w : World} {base e sz n c : Nat} {A : Option Addr} {xs : List (List Value)} (h : w.ownsRow base e sz (.slice A n c) n xs.flatten) (hn : xs ≠ [] → 0 < n) (hall : ∀ x ∈ xs, x.length = sz) : Row w w.heap.size sz A xs := by
  intro hx
  obtain ⟨g, cap, hv, _, hlt⟩ := h.form (hn hx)
  injection hv with hA
  subst hA
  refine Row.flat (o := 0) hall hlt (fun j u hu => ?_) hx
  have h1 := h.cells (g := g) rfl j u hu
  have hadd : (⟨g, 0, none⟩ : Addr).add j = ⟨g, 0 + j, none⟩ := by unfold Addr.add; split <;> simp_all
  rwa [hadd] at h1
theorem Row.ownMap {α : Type} {w : World} {base e sz c : Nat} {A : Option Addr} {l : List α} {f : α → List Value} (h : w.ownsRow base e sz (.slice A l.length c) l.length (l.flatMap f)) (hf : ∀ x, (f x).length = sz) : Row w w.heap.size sz A (l.map f) := by
  refine Row.own (xs := l.map f) (by rwa [← List.flatMap_def]) (fun hx => ?_) (fun x hx => ?_)
  · cases l with
    | nil => simp at hx
    | cons a l => simp
  · obtain ⟨y, _, rfl⟩ := List.mem_map.1 hx
    exact hf y
theorem ROwn.at_ {w : World} {base : Nat} {r : Res} {p : Lies} (h : ROwn w base r p) (hs : r.trace.length ≤ 1000000 ∧ r.store.length ≤ 1000000 ∧ r.out.length ≤ 1000000 ∧ r.files.length ≤ 1000000 ∧ r.listings.length ≤ 1000000 ∧ r.performed.length ≤ 1000000) : r.At w w.heap.size p :=
  ⟨Row.ownMap h.o1 one_step, Row.ownMap h.o2 (fun _ => rfl), Row.ownMap h.o3 one_str, Row.ownMap h.o4 one_file, Row.ownMap h.o5 one_listing, Row.ownMap h.o6 one_str, hs⟩

def ra : Res := ⟨0, 0, [(1, 0), (2, 0)], [], [⟨#[120]⟩], 0, [], [], []⟩
def rb : Res := ⟨0, 0, [(1, 0)], [], [⟨#[121]⟩], 0, [], [], []⟩
def rc : Res := ⟨0, 15, [(1, 0), (2, 0)], [], [⟨#[120]⟩, ⟨#[121]⟩], 0, [], [], []⟩
def rd : Res := ⟨0, 0, [(1, 0), (2, 0)], [], [⟨#[120]⟩, ⟨#[121]⟩], 0, [], [], []⟩
def li (g1 n1 g3 n3 : Nat) : Lies := ⟨some ⟨g1, 0, none⟩, none, some ⟨g3, 0, none⟩, none, none, none, n1, 0, n3, 0, 0, 0⟩

/-- four boxes with the four results -/
def Four (w : World) (ga gb gc gd : Nat) : Prop := ∃ q, Blk w ga 31 (ra.cells (li q 2 (q + 1) 1)) ∧ Blk w gb 31 (rb.cells (li (q + 3) 1 (q + 4) 1)) ∧ Blk w gc 31 (rc.cells (li q 2 (q + 6) 2)) ∧ Blk w gd 31 (rd.cells (li q 2 (q + 8) 2)) ∧
  ra.At w w.heap.size (li q 2 (q + 1) 1) ∧ rb.At w w.heap.size (li (q + 3) 1 (q + 4) 1) ∧ rc.At w w.heap.size (li q 2 (q + 6) 2) ∧ rd.At w w.heap.size (li q 2 (q + 8) 2)
theorem Four.below {w w' : World} {ga gb gc gd : Nat} (h : Four w ga gb gc gd) (hb : Below w.heap.size w w') : Four w' ga gb gc gd := by
  obtain ⟨q, h1, h2, h3, h4, h5, h6, h7, h8⟩ := h
  exact ⟨q, h1.below hb h1.lt, h2.below hb h2.lt, h3.below hb h3.lt, h4.below hb h4.lt, (h5.below hb).mono hb.size, (h6.below hb).mono hb.size, (h7.below hb).mono hb.size, (h8.below hb).mono hb.size⟩
theorem all_step {l : List (Int × Int)} : ∀ x ∈ l.map enc_step, x.length = 2 := fun x hx => by obtain ⟨y, _, rfl⟩ := List.mem_map.1 hx; rfl
theorem all_str {l : List ByteArray} : ∀ x ∈ l.map enc_str, x.length = 1 := fun x hx => by obtain ⟨y, _, rfl⟩ := List.mem_map.1 hx; rfl

set_option maxHeartbeats 2000000 in
set_option maxRecDepth 100000 in
theorem lives_any (w : World) : Calls Try.prog 4 #[] w fun e w' => e = .returned (.bool true) ∧ Below w.heap.size w w' := by
  go_enter Try.func4, Try.ntmps4
  go_upto_region 4 with fail
  go_cut [1, 2, 3, 4] from 5 to 83 (fun s1 s2 s3 s4 wx => ∃ ga gb gc gd, s1 = .pointer (some ⟨ga, 0, none⟩) ∧ s2 = .pointer (some ⟨gb, 0, none⟩) ∧ s3 = .pointer (some ⟨gc, 0, none⟩) ∧ s4 = .pointer (some ⟨gd, 0, none⟩) ∧ Four wx ga gb gc gd ∧ Below w.heap.size w wx)
  case first =>
    go_wp2_with fail
    go_meet
    refine ⟨_, _, _, _, rfl, rfl, rfl, rfl, ⟨w.heap.size, ?_, ?_, ?_, ?_, ?_, ?_, ?_, ?_⟩, ?_⟩
    · exact (((((((Blk.new' (by simp)).alloc _).alloc _).alloc _).alloc _).alloc _).alloc _).alloc _
    · exact ((((Blk.new' (by simp)).alloc _).alloc _).alloc _).alloc _
    · exact ((Blk.new' (by simp)).alloc _).alloc _
    · exact Blk.new' (by simp)
    · exact ⟨Row.blk (((((((((((Blk.new' (by simp)).alloc _).alloc _).alloc _).alloc _).alloc _).alloc _).alloc _).alloc _).alloc _)) (by simp [li] <;> omega) all_step rfl, Row.nil, Row.blk ((((((((((Blk.new' (by simp)).alloc _).alloc _).alloc _).alloc _).alloc _).alloc _).alloc _).alloc _)) (by simp [li] <;> omega) all_str rfl, Row.nil, Row.nil, Row.nil, by simp [ra]⟩
    · exact ⟨Row.blk ((((((((Blk.new' (by simp)).alloc _).alloc _).alloc _).alloc _).alloc _).alloc _)) (by simp [li] <;> omega) all_step rfl, Row.nil, Row.blk (((((((Blk.new' (by simp)).alloc _).alloc _).alloc _).alloc _).alloc _)) (by simp [li] <;> omega) all_str rfl, Row.nil, Row.nil, Row.nil, by simp [rb]⟩
    · exact ⟨Row.blk (((((((((((Blk.new' (by simp)).alloc _).alloc _).alloc _).alloc _).alloc _).alloc _).alloc _).alloc _).alloc _)) (by simp [li] <;> omega) all_step rfl, Row.nil, Row.blk (((((Blk.new' (by simp)).alloc _).alloc _).alloc _)) (by simp [li] <;> omega) all_str rfl, Row.nil, Row.nil, Row.nil, by simp [rc]⟩
    · exact ⟨Row.blk (((((((((((Blk.new' (by simp)).alloc _).alloc _).alloc _).alloc _).alloc _).alloc _).alloc _).alloc _).alloc _)) (by simp [li] <;> omega) all_step rfl, Row.nil, Row.blk ((Blk.new' (by simp)).alloc _) (by simp [li] <;> omega) all_str rfl, Row.nil, Row.nil, Row.nil, by simp [rd]⟩
    · exact ((((((((((Below.refl _ _).alloc (by simp) _).alloc (by simp <;> omega) _).alloc (by simp <;> omega) _).alloc (by simp <;> omega) _).alloc (by simp <;> omega) _).alloc (by simp <;> omega) _).alloc (by simp <;> omega) _).alloc (by simp <;> omega) _).alloc (by simp <;> omega) _).alloc (by simp <;> omega) _
  case rest =>
    obtain ⟨ga, gb, gc, gd, rfl, rfl, rfl, rfl, HF, hb0⟩ := hcut
    obtain ⟨q, h1, h2, h3, h4, h5, h6, h7, h8⟩ := HF
    have HF : Hid (Four wc ga gb gc gd) := ⟨q, h1, h2, h3, h4, h5, h6, h7, h8⟩
    have KX : Blk wc ga 31 #[.int .u8 0, .int .i64 0, .slice (some ⟨q, 0, none⟩) 2 2, .slice none 0 0, .slice (some ⟨q + 1, 0, none⟩) 1 1, .int .i64 0, .slice none 0 0, .slice none 0 0, .slice none 0 0] := h1
    have KY : Blk wc gb 31 #[.int .u8 0, .int .i64 0, .slice (some ⟨q + 3, 0, none⟩) 1 1, .slice none 0 0, .slice (some ⟨q + 4, 0, none⟩) 1 1, .int .i64 0, .slice none 0 0, .slice none 0 0, .slice none 0 0] := h2
    have AX := Lib.hid h5
    have AY := Lib.hid h6
    clear h1 h2 h3 h4 h5 h6 h7 h8
    have x0 := KX.cell (j := 0) rfl
    have y0 := KY.cell (j := 0) rfl
    have x1 := KX.cell (j := 1) rfl
    have y1 := KY.cell (j := 1) rfl
    have x2 := KX.cell (j := 2) rfl
    have y2 := KY.cell (j := 2) rfl
    have x3 := KX.cell (j := 3) rfl
    have y3 := KY.cell (j := 3) rfl
    have x4 := KX.cell (j := 4) rfl
    have y4 := KY.cell (j := 4) rfl
    have x5 := KX.cell (j := 5) rfl
    have y5 := KY.cell (j := 5) rfl
    have x6 := KX.cell (j := 6) rfl
    have y6 := KY.cell (j := 6) rfl
    have x7 := KX.cell (j := 7) rfl
    have y7 := KY.cell (j := 7) rfl
    have x8 := KX.cell (j := 8) rfl
    have y8 := KY.cell (j := 8) rfl
    clear KX KY
    go_wp2_with fail
    refine (compare_any ra rb wc wc.heap.size (li q 2 (q + 1) 1) (li (q + 3) 1 (q + 4) 1) AX.out AY.out (Nat.le_refl _)).mono ?_
    rintro e w1 ⟨hc, hw⟩
    have hc := cmp_is hc 0 (by decide) (by decide) (by decide)
    replace hc : e = .returned (.tuple #[.string ⟨#[116, 114, 97, 99, 101]⟩, .int .i64 1]) := hc
    subst hc
    have HF := HF.out.below hw
    have hb1 : Below w.heap.size w w1 := hb0.trans (hw.mono hb0.size)
    clear hw AX AY x0 x1 x2 x3 x4 x5 x6 x7 x8 y0 y1 y2 y3 y4 y5 y6 y7 y8
    obtain ⟨q, h1, h2, h3, h4, h5, h6, h7, h8⟩ := HF
    have HF : Hid (Four w1 ga gb gc gd) := ⟨q, h1, h2, h3, h4, h5, h6, h7, h8⟩
    have KX : Blk w1 ga 31 #[.int .u8 0, .int .i64 0, .slice (some ⟨q, 0, none⟩) 2 2, .slice none 0 0, .slice (some ⟨q + 1, 0, none⟩) 1 1, .int .i64 0, .slice none 0 0, .slice none 0 0, .slice none 0 0] := h1
    have KY : Blk w1 gc 31 #[.int .u8 0, .int .i64 15, .slice (some ⟨q, 0, none⟩) 2 2, .slice none 0 0, .slice (some ⟨q + 6, 0, none⟩) 2 2, .int .i64 0, .slice none 0 0, .slice none 0 0, .slice none 0 0] := h3
    have AX := Lib.hid h5
    have AY := Lib.hid h7
    clear h1 h2 h3 h4 h5 h6 h7 h8
    have x0 := KX.cell (j := 0) rfl
    have y0 := KY.cell (j := 0) rfl
    have x1 := KX.cell (j := 1) rfl
    have y1 := KY.cell (j := 1) rfl
    have x2 := KX.cell (j := 2) rfl
    have y2 := KY.cell (j := 2) rfl
    have x3 := KX.cell (j := 3) rfl
    have y3 := KY.cell (j := 3) rfl
    have x4 := KX.cell (j := 4) rfl
    have y4 := KY.cell (j := 4) rfl
    have x5 := KX.cell (j := 5) rfl
    have y5 := KY.cell (j := 5) rfl
    have x6 := KX.cell (j := 6) rfl
    have y6 := KY.cell (j := 6) rfl
    have x7 := KX.cell (j := 7) rfl
    have y7 := KY.cell (j := 7) rfl
    have x8 := KX.cell (j := 8) rfl
    have y8 := KY.cell (j := 8) rfl
    clear KX KY
    go_wp2_with fail
    refine (compare_any ra rc w1 w1.heap.size (li q 2 (q + 1) 1) (li q 2 (q + 6) 2) AX.out AY.out (Nat.le_refl _)).mono ?_
    rintro e w2 ⟨hc, hw⟩
    have hc := cmp_is hc 2 (by decide) (by decide) (by decide)
    replace hc : e = .returned (.tuple #[.string ⟨#[101, 114, 114, 111, 114]⟩, .int .i64 0]) := hc
    subst hc
    have HF := HF.out.below hw
    have hb2 : Below w.heap.size w w2 := hb1.trans (hw.mono hb1.size)
    clear hw AX AY x0 x1 x2 x3 x4 x5 x6 x7 x8 y0 y1 y2 y3 y4 y5 y6 y7 y8
    obtain ⟨q, h1, h2, h3, h4, h5, h6, h7, h8⟩ := HF
    have HF : Hid (Four w2 ga gb gc gd) := ⟨q, h1, h2, h3, h4, h5, h6, h7, h8⟩
    have KX : Blk w2 ga 31 #[.int .u8 0, .int .i64 0, .slice (some ⟨q, 0, none⟩) 2 2, .slice none 0 0, .slice (some ⟨q + 1, 0, none⟩) 1 1, .int .i64 0, .slice none 0 0, .slice none 0 0, .slice none 0 0] := h1
    have KY : Blk w2 gd 31 #[.int .u8 0, .int .i64 0, .slice (some ⟨q, 0, none⟩) 2 2, .slice none 0 0, .slice (some ⟨q + 8, 0, none⟩) 2 2, .int .i64 0, .slice none 0 0, .slice none 0 0, .slice none 0 0] := h4
    have AX := Lib.hid h5
    have AY := Lib.hid h8
    clear h1 h2 h3 h4 h5 h6 h7 h8
    have x0 := KX.cell (j := 0) rfl
    have y0 := KY.cell (j := 0) rfl
    have x1 := KX.cell (j := 1) rfl
    have y1 := KY.cell (j := 1) rfl
    have x2 := KX.cell (j := 2) rfl
    have y2 := KY.cell (j := 2) rfl
    have x3 := KX.cell (j := 3) rfl
    have y3 := KY.cell (j := 3) rfl
    have x4 := KX.cell (j := 4) rfl
    have y4 := KY.cell (j := 4) rfl
    have x5 := KX.cell (j := 5) rfl
    have y5 := KY.cell (j := 5) rfl
    have x6 := KX.cell (j := 6) rfl
    have y6 := KY.cell (j := 6) rfl
    have x7 := KX.cell (j := 7) rfl
    have y7 := KY.cell (j := 7) rfl
    have x8 := KX.cell (j := 8) rfl
    have y8 := KY.cell (j := 8) rfl
    clear KX KY
    go_wp2_with fail
    refine (compare_any ra rd w2 w2.heap.size (li q 2 (q + 1) 1) (li q 2 (q + 8) 2) AX.out AY.out (Nat.le_refl _)).mono ?_
    rintro e w3 ⟨hc, hw⟩
    have hc := cmp_is hc 4 (by decide) (by decide) (by decide)
    replace hc : e = .returned (.tuple #[.string ⟨#[111, 117, 116]⟩, .int .i64 1]) := hc
    subst hc
    have HF := HF.out.below hw
    have hb3 : Below w.heap.size w w3 := hb2.trans (hw.mono hb2.size)
    clear hw AX AY x0 x1 x2 x3 x4 x5 x6 x7 x8 y0 y1 y2 y3 y4 y5 y6 y7 y8
    obtain ⟨q, h1, h2, h3, h4, h5, h6, h7, h8⟩ := HF
    have HF : Hid (Four w3 ga gb gc gd) := ⟨q, h1, h2, h3, h4, h5, h6, h7, h8⟩
    have KX : Blk w3 gd 31 #[.int .u8 0, .int .i64 0, .slice (some ⟨q, 0, none⟩) 2 2, .slice none 0 0, .slice (some ⟨q + 8, 0, none⟩) 2 2, .int .i64 0, .slice none 0 0, .slice none 0 0, .slice none 0 0] := h4
    have KY : Blk w3 gd 31 #[.int .u8 0, .int .i64 0, .slice (some ⟨q, 0, none⟩) 2 2, .slice none 0 0, .slice (some ⟨q + 8, 0, none⟩) 2 2, .int .i64 0, .slice none 0 0, .slice none 0 0, .slice none 0 0] := h4
    have AX := Lib.hid h8
    have AY := Lib.hid h8
    clear h1 h2 h3 h4 h5 h6 h7 h8
    have x0 := KX.cell (j := 0) rfl
    have x1 := KX.cell (j := 1) rfl
    have x2 := KX.cell (j := 2) rfl
    have x3 := KX.cell (j := 3) rfl
    have x4 := KX.cell (j := 4) rfl
    have x5 := KX.cell (j := 5) rfl
    have x6 := KX.cell (j := 6) rfl
    have x7 := KX.cell (j := 7) rfl
    have x8 := KX.cell (j := 8) rfl
    clear KX KY
    go_wp2_with fail
    refine (compare_any rd rd w3 w3.heap.size (li q 2 (q + 8) 2) (li q 2 (q + 8) 2) AX.out AY.out (Nat.le_refl _)).mono ?_
    rintro e w4 ⟨hc, hw⟩
    have hc := cmp_none hc (by decide)
    replace hc : e = .returned (.tuple #[.string ⟨#[]⟩, .int .i64 0]) := hc
    subst hc
    have HF := HF.out.below hw
    have hb4 : Below w.heap.size w w4 := hb3.trans (hw.mono hb3.size)
    clear hw AX AY x0 x1 x2 x3 x4 x5 x6 x7 x8 
    go_wp2
    go_ret
    exact ⟨rfl, hb4⟩
end Go.Proofs.Ytfcdfacfdlphfaa

/- Proved here: the walks of the law's function change: each of its nine cases; lists of at most 100 elements. -/
import Derived.Test.YtfcdfacfdlphfaaT6
namespace Go.Proofs.Ytfcdfacfdlphfaa
open Go.ChangeShapes Go.WideShapes Go.ChangeAt Go.RowKit
set_option linter.unusedVariables false

theorem el40 : Elem Try.prog 26 40 2 16 := Elem.mk Try.underlying26 info40 rfl (by omega) (by omega)
theorem el5 : Elem Try.prog 22 5 1 1 := Elem.mk Try.underlying22 info5 rfl (by omega) (by omega)
theorem el9 : Elem Try.prog 27 9 1 16 := Elem.mk Try.underlying27 info9 rfl (by omega) (by omega)
theorem el42 : Elem Try.prog 28 42 4 56 := Elem.mk Try.underlying28 info42 rfl (by omega) (by omega)
theorem el44 : Elem Try.prog 29 44 3 48 := Elem.mk Try.underlying29 info44 rfl (by omega) (by omega)

/-- a result whose lists the call owns -/
structure ROwn (w : World) (base : Nat) (r : Res) (p : Lies) : Prop where
  o1 : w.ownsRow base 40 2 (.slice p.A1 r.trace.length p.c1) r.trace.length (r.trace.flatMap enc_step)
  o2 : w.ownsRow base 5 1 (.slice p.A2 r.store.length p.c2) r.store.length (r.store.flatMap enc_byte)
  o3 : w.ownsRow base 9 1 (.slice p.A3 r.out.length p.c3) r.out.length (r.out.flatMap enc_str)
  o4 : w.ownsRow base 42 4 (.slice p.A4 r.files.length p.c4) r.files.length (r.files.flatMap enc_file)
  o5 : w.ownsRow base 44 3 (.slice p.A5 r.listings.length p.c5) r.listings.length (r.listings.flatMap enc_listing)
  o6 : w.ownsRow base 9 1 (.slice p.A6 r.performed.length p.c6) r.performed.length (r.performed.flatMap enc_str)

def chg (m i : Nat) (b : Res) : Res :=
  match m with
  | 0 => { b with trace := b.trace.take i ++ [(-1, 0)] }
  | 1 => { b with end_ := 4 }
  | 2 => { b with e := 15 }
  | 3 => { b with store := if h : i < b.store.length then b.store.set i ((b.store[i] + 1) % 256) else b.store ++ [0] }
  | 4 => { b with out := b.out.take i ++ [⟨#[63]⟩] }
  | 5 => { b with calls := -1 }
  | 6 => { b with files := b.files.take i ++ [(⟨#[]⟩, ⟨#[]⟩, ⟨#[57, 57]⟩, 0)] }
  | 7 => { b with listings := b.listings.take i ++ [(⟨#[63]⟩, ⟨#[]⟩, ⟨#[]⟩)] }
  | _ => { b with performed := b.performed.take i ++ [⟨#[63]⟩] }

/-- what 'change' leaves -/
def Changed (w w' : World) (base g : Nat) (b : Res) : Prop :=
  ∃ p, Blk w' g 31 (b.cells p) ∧ ROwn w' base b p ∧ Below base w w' ∧ (∀ g' t cs, g' ≠ g → t ≠ 5 → Blk w g' t cs → Blk w' g' t cs)

theorem flatMap_take {α β : Type} (f : α → List β) (k : Nat) (hf : ∀ x, (f x).length = k) : ∀ (l : List α) (i : Nat), (l.flatMap f).take (i * k) = (l.take i).flatMap f
  | [], i => by simp
  | x :: l, 0 => by simp
  | x :: l, i + 1 => by
    rw [List.flatMap_cons, List.take_succ_cons, List.flatMap_cons, ← flatMap_take f k hf l i, Nat.succ_mul, Nat.add_comm, List.take_append, hf x]
    rw [List.take_of_length_le (by rw [hf x]; omega)]
    congr 2
    omega

theorem one_step : ∀ x : Int × Int, (enc_step x).length = 2 := fun _ => rfl
theorem one_str : ∀ x : ByteArray, (enc_str x).length = 1 := fun _ => rfl
theorem one_file : ∀ x : ByteArray × ByteArray × ByteArray × Int, (enc_file x).length = 4 := fun _ => rfl
theorem one_listing : ∀ x : ByteArray × ByteArray × ByteArray, (enc_listing x).length = 3 := fun _ => rfl
theorem cell_step {l : List (Int × Int)} : ∀ u ∈ l.flatMap enc_step, u.oneCell' = true := by
  intro u hu; simp only [List.mem_flatMap, enc_step, List.mem_cons, List.not_mem_nil, or_false] at hu; obtain ⟨x, _, rfl | rfl⟩ := hu <;> rfl
theorem cell_str {l : List ByteArray} : ∀ u ∈ l.flatMap enc_str, u.oneCell' = true := by
  intro u hu; simp only [List.mem_flatMap, enc_str, List.mem_cons, List.not_mem_nil, or_false] at hu; obtain ⟨x, _, rfl⟩ := hu; rfl
theorem cell_file {l : List (ByteArray × ByteArray × ByteArray × Int)} : ∀ u ∈ l.flatMap enc_file, u.oneCell' = true := by
  intro u hu; simp only [List.mem_flatMap, enc_file, List.mem_cons, List.not_mem_nil, or_false] at hu; obtain ⟨x, _, rfl | rfl | rfl | rfl⟩ := hu <;> rfl
theorem cell_listing {l : List (ByteArray × ByteArray × ByteArray)} : ∀ u ∈ l.flatMap enc_listing, u.oneCell' = true := by
  intro u hu; simp only [List.mem_flatMap, enc_listing, List.mem_cons, List.not_mem_nil, or_false] at hu; obtain ⟨x, _, rfl | rfl | rfl⟩ := hu <;> rfl

theorem own_below {w w' : World} {base e sz n : Nat} {v : Value} {xs : List Value} (h : w.ownsRow base e sz v n xs) (hb : Below w.heap.size w w') : w'.ownsRow base e sz v n xs := by
  refine ⟨h.1, ?_⟩
  rcases h.2 with h | ⟨g', cap, cur, rfl, h1, hg, hr⟩
  · exact .inl h
  · have hlt : g' < w.heap.size := (Array.getElem?_eq_some_iff.1 hg).1
    exact .inr ⟨g', cap, cur, rfl, h1, (hb.block g' hlt).trans hg, hr⟩
theorem Blk.far {w : World} {g : Nat} {t : TypeId} {cs : Array Value} (h : Blk w g t cs) {p : Addr} (hp : g ≠ p.block) (u : Value) : Blk (w.setCell p u) g t cs := (Below.heap_setCell w p u g hp).trans h
theorem own_new {w w1 : World} {base e sz n q : Nat} {v : Value} {xs : List Value} (h : w.ownsRow base e sz v n xs) (hb : v.ownBlock = some q ∨ v.ownBlock = some (q + 1)) : ∀ k, v.ownBlock = some k → q ≤ k := by
  intro k hk
  rcases hb with hb | hb <;> rw [hb] at hk <;> injection hk with hk <;> omega

theorem finish_1 {w w2 : World} {base g : Nat} {b : Res} {p : Lies} {A : Option Addr} {c : Nat} {l : List (Int × Int)} (hK : Blk w g 31 (b.cells p)) (hO : ROwn w base b p) (hb : Below w.heap.size w w2) (hB : base ≤ w.heap.size) (hg : base ≤ g)
    (hnew : w2.ownsRow base 40 2 (.slice A l.length c) l.length (l.flatMap enc_step)) : Changed w (w2.setCell ⟨g, 2, none⟩ (.slice A l.length c)) base g { b with trace := l } := by
  have hK2 := hK.below hb hK.lt
  refine ⟨{ p with A1 := A, c1 := c }, ?_, ⟨own_setCell hnew (own_blk hnew hK2 (by decide)) _, own_setCell (own_below hO.o2 hb) (own_blk (own_below hO.o2 hb) hK2 (by decide)) _, own_setCell (own_below hO.o3 hb) (own_blk (own_below hO.o3 hb) hK2 (by decide)) _, own_setCell (own_below hO.o4 hb) (own_blk (own_below hO.o4 hb) hK2 (by decide)) _, own_setCell (own_below hO.o5 hb) (own_blk (own_below hO.o5 hb) hK2 (by decide)) _, own_setCell (own_below hO.o6 hb) (own_blk (own_below hO.o6 hb) hK2 (by decide)) _⟩, (hb.mono hB).setCell hg _, fun g' t cs hne ht h => ((h.below hb h.lt).far (p := ⟨g, 2, none⟩) hne _)⟩
  simpa [Res.cells] using hK2.set_ 2 (.slice A l.length c)

theorem finish_3 {w w2 : World} {base g : Nat} {b : Res} {p : Lies} {A : Option Addr} {c : Nat} {l : List (ByteArray)} (hK : Blk w g 31 (b.cells p)) (hO : ROwn w base b p) (hb : Below w.heap.size w w2) (hB : base ≤ w.heap.size) (hg : base ≤ g)
    (hnew : w2.ownsRow base 9 1 (.slice A l.length c) l.length (l.flatMap enc_str)) : Changed w (w2.setCell ⟨g, 4, none⟩ (.slice A l.length c)) base g { b with out := l } := by
  have hK2 := hK.below hb hK.lt
  refine ⟨{ p with A3 := A, c3 := c }, ?_, ⟨own_setCell (own_below hO.o1 hb) (own_blk (own_below hO.o1 hb) hK2 (by decide)) _, own_setCell (own_below hO.o2 hb) (own_blk (own_below hO.o2 hb) hK2 (by decide)) _, own_setCell hnew (own_blk hnew hK2 (by decide)) _, own_setCell (own_below hO.o4 hb) (own_blk (own_below hO.o4 hb) hK2 (by decide)) _, own_setCell (own_below hO.o5 hb) (own_blk (own_below hO.o5 hb) hK2 (by decide)) _, own_setCell (own_below hO.o6 hb) (own_blk (own_below hO.o6 hb) hK2 (by decide)) _⟩, (hb.mono hB).setCell hg _, fun g' t cs hne ht h => ((h.below hb h.lt).far (p := ⟨g, 4, none⟩) hne _)⟩
  simpa [Res.cells] using hK2.set_ 4 (.slice A l.length c)

theorem finish_4 {w w2 : World} {base g : Nat} {b : Res} {p : Lies} {A : Option Addr} {c : Nat} {l : List (ByteArray × ByteArray × ByteArray × Int)} (hK : Blk w g 31 (b.cells p)) (hO : ROwn w base b p) (hb : Below w.heap.size w w2) (hB : base ≤ w.heap.size) (hg : base ≤ g)
    (hnew : w2.ownsRow base 42 4 (.slice A l.length c) l.length (l.flatMap enc_file)) : Changed w (w2.setCell ⟨g, 6, none⟩ (.slice A l.length c)) base g { b with files := l } := by
  have hK2 := hK.below hb hK.lt
  refine ⟨{ p with A4 := A, c4 := c }, ?_, ⟨own_setCell (own_below hO.o1 hb) (own_blk (own_below hO.o1 hb) hK2 (by decide)) _, own_setCell (own_below hO.o2 hb) (own_blk (own_below hO.o2 hb) hK2 (by decide)) _, own_setCell (own_below hO.o3 hb) (own_blk (own_below hO.o3 hb) hK2 (by decide)) _, own_setCell hnew (own_blk hnew hK2 (by decide)) _, own_setCell (own_below hO.o5 hb) (own_blk (own_below hO.o5 hb) hK2 (by decide)) _, own_setCell (own_below hO.o6 hb) (own_blk (own_below hO.o6 hb) hK2 (by decide)) _⟩, (hb.mono hB).setCell hg _, fun g' t cs hne ht h => ((h.below hb h.lt).far (p := ⟨g, 6, none⟩) hne _)⟩
  simpa [Res.cells] using hK2.set_ 6 (.slice A l.length c)

theorem finish_5 {w w2 : World} {base g : Nat} {b : Res} {p : Lies} {A : Option Addr} {c : Nat} {l : List (ByteArray × ByteArray × ByteArray)} (hK : Blk w g 31 (b.cells p)) (hO : ROwn w base b p) (hb : Below w.heap.size w w2) (hB : base ≤ w.heap.size) (hg : base ≤ g)
    (hnew : w2.ownsRow base 44 3 (.slice A l.length c) l.length (l.flatMap enc_listing)) : Changed w (w2.setCell ⟨g, 7, none⟩ (.slice A l.length c)) base g { b with listings := l } := by
  have hK2 := hK.below hb hK.lt
  refine ⟨{ p with A5 := A, c5 := c }, ?_, ⟨own_setCell (own_below hO.o1 hb) (own_blk (own_below hO.o1 hb) hK2 (by decide)) _, own_setCell (own_below hO.o2 hb) (own_blk (own_below hO.o2 hb) hK2 (by decide)) _, own_setCell (own_below hO.o3 hb) (own_blk (own_below hO.o3 hb) hK2 (by decide)) _, own_setCell (own_below hO.o4 hb) (own_blk (own_below hO.o4 hb) hK2 (by decide)) _, own_setCell hnew (own_blk hnew hK2 (by decide)) _, own_setCell (own_below hO.o6 hb) (own_blk (own_below hO.o6 hb) hK2 (by decide)) _⟩, (hb.mono hB).setCell hg _, fun g' t cs hne ht h => ((h.below hb h.lt).far (p := ⟨g, 7, none⟩) hne _)⟩
  simpa [Res.cells] using hK2.set_ 7 (.slice A l.length c)

theorem finish_6 {w w2 : World} {base g : Nat} {b : Res} {p : Lies} {A : Option Addr} {c : Nat} {l : List (ByteArray)} (hK : Blk w g 31 (b.cells p)) (hO : ROwn w base b p) (hb : Below w.heap.size w w2) (hB : base ≤ w.heap.size) (hg : base ≤ g)
    (hnew : w2.ownsRow base 9 1 (.slice A l.length c) l.length (l.flatMap enc_str)) : Changed w (w2.setCell ⟨g, 8, none⟩ (.slice A l.length c)) base g { b with performed := l } := by
  have hK2 := hK.below hb hK.lt
  refine ⟨{ p with A6 := A, c6 := c }, ?_, ⟨own_setCell (own_below hO.o1 hb) (own_blk (own_below hO.o1 hb) hK2 (by decide)) _, own_setCell (own_below hO.o2 hb) (own_blk (own_below hO.o2 hb) hK2 (by decide)) _, own_setCell (own_below hO.o3 hb) (own_blk (own_below hO.o3 hb) hK2 (by decide)) _, own_setCell (own_below hO.o4 hb) (own_blk (own_below hO.o4 hb) hK2 (by decide)) _, own_setCell (own_below hO.o5 hb) (own_blk (own_below hO.o5 hb) hK2 (by decide)) _, own_setCell hnew (own_blk hnew hK2 (by decide)) _⟩, (hb.mono hB).setCell hg _, fun g' t cs hne ht h => ((h.below hb h.lt).far (p := ⟨g, 8, none⟩) hne _)⟩
  simpa [Res.cells] using hK2.set_ 8 (.slice A l.length c)

theorem finish_2 {w w2 : World} {base g : Nat} {b : Res} {p : Lies} {A : Option Addr} {c : Nat} {l : List (Int)} (hK : Blk w g 31 (b.cells p)) (hO : ROwn w base b p) (hb : Below w.heap.size w w2) (hB : base ≤ w.heap.size) (hg : base ≤ g)
    (hnew : w2.ownsRow base 5 1 (.slice A l.length c) l.length (l.flatMap enc_byte)) : Changed w (w2.setCell ⟨g, 3, none⟩ (.slice A l.length c)) base g { b with store := l } := by
  have hK2 := hK.below hb hK.lt
  refine ⟨{ p with A2 := A, c2 := c }, ?_, ⟨own_setCell (own_below hO.o1 hb) (own_blk (own_below hO.o1 hb) hK2 (by decide)) _, own_setCell hnew (own_blk hnew hK2 (by decide)) _, own_setCell (own_below hO.o3 hb) (own_blk (own_below hO.o3 hb) hK2 (by decide)) _, own_setCell (own_below hO.o4 hb) (own_blk (own_below hO.o4 hb) hK2 (by decide)) _, own_setCell (own_below hO.o5 hb) (own_blk (own_below hO.o5 hb) hK2 (by decide)) _, own_setCell (own_below hO.o6 hb) (own_blk (own_below hO.o6 hb) hK2 (by decide)) _⟩, (hb.mono hB).setCell hg _, fun g' t cs hne ht h => ((h.below hb h.lt).far (p := ⟨g, 3, none⟩) hne _)⟩
  simpa [Res.cells] using hK2.set_ 3 (.slice A l.length c)

set_option maxHeartbeats 2000000 in
set_option maxRecDepth 100000 in
theorem change_0 (w : World) (base g : Nat) (b : Res) (p : Lies) (i : Nat) (hblk : Blk w g 31 (b.cells p)) (hown : ROwn w base b p) (hB : base ≤ w.heap.size) (hg : base ≤ g) (hi : i ≤ b.trace.length) (hl : b.trace.length ≤ 100) :
    Calls Try.prog 7 #[.pointer (some ⟨g, 0, none⟩), .int .i64 0, .int .i64 i] w fun e w' => e = .returned (.tuple #[]) ∧ Changed w w' base g (chg 0 i b) := by
  have HK := Lib.hid hblk
  have HO := Lib.hid hown
  unfold Res.cells at hblk
  have g3 : w.cell? ⟨g, 3, none⟩ = some (.slice p.A2 b.store.length p.c2) := hblk.cell rfl
  have gx : w.cell? ⟨g, 2, none⟩ = some (.slice p.A1 b.trace.length p.c1) := hblk.cell rfl
  have hgl := hblk.lt
  have hcap : b.trace.length ≤ p.c1 := by
    rcases hown.o1.2 with ⟨h, h0⟩ | ⟨_, _, _, h, _, _, h1, _⟩
    · omega
    · injection h with _ _ h; omega
  have hic : i ≤ p.c1 := by omega
  clear hblk hown
  go_enter Try.func7, Try.ntmps7
  go_wp2_with (first
    | (at_builtin
       refine wpList_app el40 rfl (.tmp 29) (.tmp 35) rfl (v := .slice (some ⟨w.heap.size, 0, none⟩) 0 0) (n := 0) (xs := []) (base := base) rfl (World.ownsRow_made w #[] 0 hB (by unfold maxLen; omega) rfl) (A := p.A1) (m := i) (c := p.c1) (news := (b.trace.take i).flatMap enc_step) rfl
         (by rw [← flatMap_take _ _ one_step]; exact (Src.own HO.out.o1 hi).alloc _) cell_step (by omega) (by simp; omega) ?_
       intro A1' c1' w1 hown1 hgrow1 hat1
       have hb1 : Below w.heap.size w w1 := ((Below.refl _ _).alloc (Nat.le_refl _) _).grown hgrow1 (by simp) (by simp [Value.ownBlock])
       have hn1 : ∀ k, (Value.slice A1' (0 + i) c1').ownBlock = some k → w.heap.size ≤ k := own_new (w1 := w1) hown1 (by simpa [Value.ownBlock] using hat1)
       simp only [Nat.zero_add, List.nil_append] at hown1 hn1
       have hsz1 := hb1.size
       clear hgrow1 hat1)
    | (at_builtin
       refine wpList_app el40 rfl (.tmp 36) (.tmp 38) rfl rfl (hown1.alloc _) rfl (Src.blk (cs := #[.int .i64 (-1), .int .u64 0]) (tt := 40) (Blk.new' rfl) rfl) (by simp [Value.oneCell']) (by omega) (by simp at hsz1 ⊢; omega) ?_
       intro A2' c2' w2 hown2 hgrow2 hat2
       have hb2 : Below w.heap.size w w2 := (hb1.alloc hsz1 _).grown hgrow2 (by simp; omega) hn1
       have gc : w2.cell? ⟨g, 2, none⟩ = some (.slice p.A1 b.trace.length p.c1) := (hb2.cell (p := ⟨g, 2, none⟩) hgl).trans gx
       have gf : w2.frozen? ⟨g, 2, none⟩ = false := (hb2.frozen (p := ⟨g, 2, none⟩) hgl).trans (HK.out.frozen 2)
       have HF := Lib.hid (finish_1 (A := A2') (c := c2') (l := b.trace.take i ++ [(-1, 0)]) HK.out HO.out hb2 hB hg (by simpa [enc_step, List.length_take, Nat.min_eq_left hi] using hown2))
       clear hown1 hn1 hown2 hgrow2 hat2 hb1))
  go_end0
  have h := HF.out
  simp only [List.length_append, List.length_take, Nat.min_eq_left hi, List.length_cons, List.length_nil] at h
  exact ⟨rfl, h⟩

set_option maxHeartbeats 2000000 in
set_option maxRecDepth 100000 in
theorem change_4 (w : World) (base g : Nat) (b : Res) (p : Lies) (i : Nat) (hblk : Blk w g 31 (b.cells p)) (hown : ROwn w base b p) (hB : base ≤ w.heap.size) (hg : base ≤ g) (hi : i ≤ b.out.length) (hl : b.out.length ≤ 100) :
    Calls Try.prog 7 #[.pointer (some ⟨g, 0, none⟩), .int .i64 4, .int .i64 i] w fun e w' => e = .returned (.tuple #[]) ∧ Changed w w' base g (chg 4 i b) := by
  have HK := Lib.hid hblk
  have HO := Lib.hid hown
  unfold Res.cells at hblk
  have g3 : w.cell? ⟨g, 3, none⟩ = some (.slice p.A2 b.store.length p.c2) := hblk.cell rfl
  have gx : w.cell? ⟨g, 4, none⟩ = some (.slice p.A3 b.out.length p.c3) := hblk.cell rfl
  have hgl := hblk.lt
  have hcap : b.out.length ≤ p.c3 := by
    rcases hown.o3.2 with ⟨h, h0⟩ | ⟨_, _, _, h, _, _, h1, _⟩
    · omega
    · injection h with _ _ h; omega
  have hic : i ≤ p.c3 := by omega
  clear hblk hown
  go_enter Try.func7, Try.ntmps7
  go_wp2_with (first
    | (at_builtin
       refine wpList_app el9 rfl (.tmp 78) (.tmp 84) rfl (v := .slice (some ⟨w.heap.size, 0, none⟩) 0 0) (n := 0) (xs := []) (base := base) rfl (World.ownsRow_made w #[] 0 hB (by unfold maxLen; omega) rfl) (A := p.A3) (m := i) (c := p.c3) (news := (b.out.take i).flatMap enc_str) rfl
         (by rw [← flatMap_take _ _ one_str]; exact (Src.own HO.out.o3 hi).alloc _) cell_str (by omega) (by simp; omega) ?_
       intro A1' c1' w1 hown1 hgrow1 hat1
       have hb1 : Below w.heap.size w w1 := ((Below.refl _ _).alloc (Nat.le_refl _) _).grown hgrow1 (by simp) (by simp [Value.ownBlock])
       have hn1 : ∀ k, (Value.slice A1' (0 + i) c1').ownBlock = some k → w.heap.size ≤ k := own_new (w1 := w1) hown1 (by simpa [Value.ownBlock] using hat1)
       simp only [Nat.zero_add, List.nil_append] at hown1 hn1
       have hsz1 := hb1.size
       clear hgrow1 hat1)
    | (at_builtin
       refine wpList_app el9 rfl (.tmp 85) (.tmp 86) rfl rfl (hown1.alloc _) rfl (Src.blk (cs := #[.string ⟨#[63]⟩]) (tt := 9) (Blk.new' rfl) rfl) (by simp [Value.oneCell']) (by omega) (by simp at hsz1 ⊢; omega) ?_
       intro A2' c2' w2 hown2 hgrow2 hat2
       have hb2 : Below w.heap.size w w2 := (hb1.alloc hsz1 _).grown hgrow2 (by simp; omega) hn1
       have gc : w2.cell? ⟨g, 4, none⟩ = some (.slice p.A3 b.out.length p.c3) := (hb2.cell (p := ⟨g, 4, none⟩) hgl).trans gx
       have gf : w2.frozen? ⟨g, 4, none⟩ = false := (hb2.frozen (p := ⟨g, 4, none⟩) hgl).trans (HK.out.frozen 4)
       have HF := Lib.hid (finish_3 (A := A2') (c := c2') (l := b.out.take i ++ [⟨#[63]⟩]) HK.out HO.out hb2 hB hg (by simpa [enc_str, List.length_take, Nat.min_eq_left hi] using hown2))
       clear hown1 hn1 hown2 hgrow2 hat2 hb1))
  go_end0
  have h := HF.out
  simp only [List.length_append, List.length_take, Nat.min_eq_left hi, List.length_cons, List.length_nil] at h
  exact ⟨rfl, h⟩

set_option maxHeartbeats 2000000 in
set_option maxRecDepth 100000 in
theorem change_6 (w : World) (base g : Nat) (b : Res) (p : Lies) (i : Nat) (hblk : Blk w g 31 (b.cells p)) (hown : ROwn w base b p) (hB : base ≤ w.heap.size) (hg : base ≤ g) (hi : i ≤ b.files.length) (hl : b.files.length ≤ 100) :
    Calls Try.prog 7 #[.pointer (some ⟨g, 0, none⟩), .int .i64 6, .int .i64 i] w fun e w' => e = .returned (.tuple #[]) ∧ Changed w w' base g (chg 6 i b) := by
  have HK := Lib.hid hblk
  have HO := Lib.hid hown
  unfold Res.cells at hblk
  have g3 : w.cell? ⟨g, 3, none⟩ = some (.slice p.A2 b.store.length p.c2) := hblk.cell rfl
  have gx : w.cell? ⟨g, 6, none⟩ = some (.slice p.A4 b.files.length p.c4) := hblk.cell rfl
  have hgl := hblk.lt
  have hcap : b.files.length ≤ p.c4 := by
    rcases hown.o4.2 with ⟨h, h0⟩ | ⟨_, _, _, h, _, _, h1, _⟩
    · omega
    · injection h with _ _ h; omega
  have hic : i ≤ p.c4 := by omega
  clear hblk hown
  go_enter Try.func7, Try.ntmps7
  go_wp2_with (first
    | (at_builtin
       refine wpList_app el42 rfl (.tmp 98) (.tmp 104) rfl (v := .slice (some ⟨w.heap.size, 0, none⟩) 0 0) (n := 0) (xs := []) (base := base) rfl (World.ownsRow_made w #[] 0 hB (by unfold maxLen; omega) rfl) (A := p.A4) (m := i) (c := p.c4) (news := (b.files.take i).flatMap enc_file) rfl
         (by rw [← flatMap_take _ _ one_file]; exact (Src.own HO.out.o4 hi).alloc _) cell_file (by omega) (by simp; omega) ?_
       intro A1' c1' w1 hown1 hgrow1 hat1
       have hb1 : Below w.heap.size w w1 := ((Below.refl _ _).alloc (Nat.le_refl _) _).grown hgrow1 (by simp) (by simp [Value.ownBlock])
       have hn1 : ∀ k, (Value.slice A1' (0 + i) c1').ownBlock = some k → w.heap.size ≤ k := own_new (w1 := w1) hown1 (by simpa [Value.ownBlock] using hat1)
       simp only [Nat.zero_add, List.nil_append] at hown1 hn1
       have hsz1 := hb1.size
       clear hgrow1 hat1)
    | (at_builtin
       refine wpList_app el42 rfl (.tmp 105) (.tmp 107) rfl rfl (hown1.alloc _) rfl (Src.blk (cs := #[.string ⟨#[]⟩, .string ⟨#[]⟩, .string ⟨#[57, 57]⟩, .int .i64 0]) (tt := 42) (Blk.new' rfl) rfl) (by simp [Value.oneCell']) (by omega) (by simp at hsz1 ⊢; omega) ?_
       intro A2' c2' w2 hown2 hgrow2 hat2
       have hb2 : Below w.heap.size w w2 := (hb1.alloc hsz1 _).grown hgrow2 (by simp; omega) hn1
       have gc : w2.cell? ⟨g, 6, none⟩ = some (.slice p.A4 b.files.length p.c4) := (hb2.cell (p := ⟨g, 6, none⟩) hgl).trans gx
       have gf : w2.frozen? ⟨g, 6, none⟩ = false := (hb2.frozen (p := ⟨g, 6, none⟩) hgl).trans (HK.out.frozen 6)
       have HF := Lib.hid (finish_4 (A := A2') (c := c2') (l := b.files.take i ++ [(⟨#[]⟩, ⟨#[]⟩, ⟨#[57, 57]⟩, 0)]) HK.out HO.out hb2 hB hg (by simpa [enc_file, List.length_take, Nat.min_eq_left hi] using hown2))
       clear hown1 hn1 hown2 hgrow2 hat2 hb1))
  go_end0
  have h := HF.out
  simp only [List.length_append, List.length_take, Nat.min_eq_left hi, List.length_cons, List.length_nil] at h
  exact ⟨rfl, h⟩

set_option maxHeartbeats 2000000 in
set_option maxRecDepth 100000 in
theorem change_7 (w : World) (base g : Nat) (b : Res) (p : Lies) (i : Nat) (hblk : Blk w g 31 (b.cells p)) (hown : ROwn w base b p) (hB : base ≤ w.heap.size) (hg : base ≤ g) (hi : i ≤ b.listings.length) (hl : b.listings.length ≤ 100) :
    Calls Try.prog 7 #[.pointer (some ⟨g, 0, none⟩), .int .i64 7, .int .i64 i] w fun e w' => e = .returned (.tuple #[]) ∧ Changed w w' base g (chg 7 i b) := by
  have HK := Lib.hid hblk
  have HO := Lib.hid hown
  unfold Res.cells at hblk
  have g3 : w.cell? ⟨g, 3, none⟩ = some (.slice p.A2 b.store.length p.c2) := hblk.cell rfl
  have gx : w.cell? ⟨g, 7, none⟩ = some (.slice p.A5 b.listings.length p.c5) := hblk.cell rfl
  have hgl := hblk.lt
  have hcap : b.listings.length ≤ p.c5 := by
    rcases hown.o5.2 with ⟨h, h0⟩ | ⟨_, _, _, h, _, _, h1, _⟩
    · omega
    · injection h with _ _ h; omega
  have hic : i ≤ p.c5 := by omega
  clear hblk hown
  go_enter Try.func7, Try.ntmps7
  go_wp2_with (first
    | (at_builtin
       refine wpList_app el44 rfl (.tmp 114) (.tmp 120) rfl (v := .slice (some ⟨w.heap.size, 0, none⟩) 0 0) (n := 0) (xs := []) (base := base) rfl (World.ownsRow_made w #[] 0 hB (by unfold maxLen; omega) rfl) (A := p.A5) (m := i) (c := p.c5) (news := (b.listings.take i).flatMap enc_listing) rfl
         (by rw [← flatMap_take _ _ one_listing]; exact (Src.own HO.out.o5 hi).alloc _) cell_listing (by omega) (by simp; omega) ?_
       intro A1' c1' w1 hown1 hgrow1 hat1
       have hb1 : Below w.heap.size w w1 := ((Below.refl _ _).alloc (Nat.le_refl _) _).grown hgrow1 (by simp) (by simp [Value.ownBlock])
       have hn1 : ∀ k, (Value.slice A1' (0 + i) c1').ownBlock = some k → w.heap.size ≤ k := own_new (w1 := w1) hown1 (by simpa [Value.ownBlock] using hat1)
       simp only [Nat.zero_add, List.nil_append] at hown1 hn1
       have hsz1 := hb1.size
       clear hgrow1 hat1)
    | (at_builtin
       refine wpList_app el44 rfl (.tmp 121) (.tmp 123) rfl rfl (hown1.alloc _) rfl (Src.blk (cs := #[.string ⟨#[63]⟩, .string ⟨#[]⟩, .string ⟨#[]⟩]) (tt := 44) (Blk.new' rfl) rfl) (by simp [Value.oneCell']) (by omega) (by simp at hsz1 ⊢; omega) ?_
       intro A2' c2' w2 hown2 hgrow2 hat2
       have hb2 : Below w.heap.size w w2 := (hb1.alloc hsz1 _).grown hgrow2 (by simp; omega) hn1
       have gc : w2.cell? ⟨g, 7, none⟩ = some (.slice p.A5 b.listings.length p.c5) := (hb2.cell (p := ⟨g, 7, none⟩) hgl).trans gx
       have gf : w2.frozen? ⟨g, 7, none⟩ = false := (hb2.frozen (p := ⟨g, 7, none⟩) hgl).trans (HK.out.frozen 7)
       have HF := Lib.hid (finish_5 (A := A2') (c := c2') (l := b.listings.take i ++ [(⟨#[63]⟩, ⟨#[]⟩, ⟨#[]⟩)]) HK.out HO.out hb2 hB hg (by simpa [enc_listing, List.length_take, Nat.min_eq_left hi] using hown2))
       clear hown1 hn1 hown2 hgrow2 hat2 hb1))
  go_end0
  have h := HF.out
  simp only [List.length_append, List.length_take, Nat.min_eq_left hi, List.length_cons, List.length_nil] at h
  exact ⟨rfl, h⟩

set_option maxHeartbeats 2000000 in
set_option maxRecDepth 100000 in
theorem change_8 (w : World) (base g : Nat) (b : Res) (p : Lies) (i : Nat) (hblk : Blk w g 31 (b.cells p)) (hown : ROwn w base b p) (hB : base ≤ w.heap.size) (hg : base ≤ g) (hi : i ≤ b.performed.length) (hl : b.performed.length ≤ 100) :
    Calls Try.prog 7 #[.pointer (some ⟨g, 0, none⟩), .int .i64 8, .int .i64 i] w fun e w' => e = .returned (.tuple #[]) ∧ Changed w w' base g (chg 8 i b) := by
  have HK := Lib.hid hblk
  have HO := Lib.hid hown
  unfold Res.cells at hblk
  have g3 : w.cell? ⟨g, 3, none⟩ = some (.slice p.A2 b.store.length p.c2) := hblk.cell rfl
  have gx : w.cell? ⟨g, 8, none⟩ = some (.slice p.A6 b.performed.length p.c6) := hblk.cell rfl
  have hgl := hblk.lt
  have hcap : b.performed.length ≤ p.c6 := by
    rcases hown.o6.2 with ⟨h, h0⟩ | ⟨_, _, _, h, _, _, h1, _⟩
    · omega
    · injection h with _ _ h; omega
  have hic : i ≤ p.c6 := by omega
  clear hblk hown
  go_enter Try.func7, Try.ntmps7
  go_wp2_with (first
    | (at_builtin
       refine wpList_app el9 rfl (.tmp 14) (.tmp 20) rfl (v := .slice (some ⟨w.heap.size, 0, none⟩) 0 0) (n := 0) (xs := []) (base := base) rfl (World.ownsRow_made w #[] 0 hB (by unfold maxLen; omega) rfl) (A := p.A6) (m := i) (c := p.c6) (news := (b.performed.take i).flatMap enc_str) rfl
         (by rw [← flatMap_take _ _ one_str]; exact (Src.own HO.out.o6 hi).alloc _) cell_str (by omega) (by simp; omega) ?_
       intro A1' c1' w1 hown1 hgrow1 hat1
       have hb1 : Below w.heap.size w w1 := ((Below.refl _ _).alloc (Nat.le_refl _) _).grown hgrow1 (by simp) (by simp [Value.ownBlock])
       have hn1 : ∀ k, (Value.slice A1' (0 + i) c1').ownBlock = some k → w.heap.size ≤ k := own_new (w1 := w1) hown1 (by simpa [Value.ownBlock] using hat1)
       simp only [Nat.zero_add, List.nil_append] at hown1 hn1
       have hsz1 := hb1.size
       clear hgrow1 hat1)
    | (at_builtin
       refine wpList_app el9 rfl (.tmp 21) (.tmp 22) rfl rfl (hown1.alloc _) rfl (Src.blk (cs := #[.string ⟨#[63]⟩]) (tt := 9) (Blk.new' rfl) rfl) (by simp [Value.oneCell']) (by omega) (by simp at hsz1 ⊢; omega) ?_
       intro A2' c2' w2 hown2 hgrow2 hat2
       have hb2 : Below w.heap.size w w2 := (hb1.alloc hsz1 _).grown hgrow2 (by simp; omega) hn1
       have gc : w2.cell? ⟨g, 8, none⟩ = some (.slice p.A6 b.performed.length p.c6) := (hb2.cell (p := ⟨g, 8, none⟩) hgl).trans gx
       have gf : w2.frozen? ⟨g, 8, none⟩ = false := (hb2.frozen (p := ⟨g, 8, none⟩) hgl).trans (HK.out.frozen 8)
       have HF := Lib.hid (finish_6 (A := A2') (c := c2') (l := b.performed.take i ++ [⟨#[63]⟩]) HK.out HO.out hb2 hB hg (by simpa [enc_str, List.length_take, Nat.min_eq_left hi] using hown2))
       clear hown1 hn1 hown2 hgrow2 hat2 hb1))
  go_end0
  have h := HF.out
  simp only [List.length_append, List.length_take, Nat.min_eq_left hi, List.length_cons, List.length_nil] at h
  exact ⟨rfl, h⟩

theorem fin_end_ {w : World} {base g : Nat} {b : Res} {p : Lies} (x : Int) (hK : Blk w g 31 (b.cells p)) (hO : ROwn w base b p) (hg : base ≤ g) : Changed w (w.setCell ⟨g, 0, none⟩ (.int .u8 x)) base g { b with end_ := x } := by
  refine ⟨p, ?_, ⟨own_setCell hO.o1 (own_blk hO.o1 hK (by decide)) _, own_setCell hO.o2 (own_blk hO.o2 hK (by decide)) _, own_setCell hO.o3 (own_blk hO.o3 hK (by decide)) _, own_setCell hO.o4 (own_blk hO.o4 hK (by decide)) _, own_setCell hO.o5 (own_blk hO.o5 hK (by decide)) _, own_setCell hO.o6 (own_blk hO.o6 hK (by decide)) _⟩, (Below.refl _ _).setCell hg _, fun g' t cs hne ht h => h.far (p := ⟨g, 0, none⟩) hne _⟩
  simpa [Res.cells] using hK.set_ 0 (.int .u8 x)
theorem change_1 (w : World) (base g : Nat) (b : Res) (p : Lies) (i : Nat) (hblk : Blk w g 31 (b.cells p)) (hown : ROwn w base b p) (hg : base ≤ g) :
    Calls Try.prog 7 #[.pointer (some ⟨g, 0, none⟩), .int .i64 1, .int .i64 i] w fun e w' => e = .returned (.tuple #[]) ∧ Changed w w' base g (chg 1 i b) := by
  have HK := Lib.hid hblk
  have HO := Lib.hid hown
  unfold Res.cells at hblk
  have g3 : w.cell? ⟨g, 3, none⟩ = some (.slice p.A2 b.store.length p.c2) := hblk.cell rfl
  have gx : w.cell? ⟨g, 0, none⟩ = some (.int .u8 b.end_) := hblk.cell rfl
  have gf : w.frozen? ⟨g, 0, none⟩ = false := hblk.frozen 0
  clear hblk hown
  go_enter Try.func7, Try.ntmps7
  go_wp2
  go_end0
  exact ⟨rfl, fin_end_ 4 HK.out HO.out hg⟩

theorem fin_e {w : World} {base g : Nat} {b : Res} {p : Lies} (x : Int) (hK : Blk w g 31 (b.cells p)) (hO : ROwn w base b p) (hg : base ≤ g) : Changed w (w.setCell ⟨g, 1, none⟩ (.int .i64 x)) base g { b with e := x } := by
  refine ⟨p, ?_, ⟨own_setCell hO.o1 (own_blk hO.o1 hK (by decide)) _, own_setCell hO.o2 (own_blk hO.o2 hK (by decide)) _, own_setCell hO.o3 (own_blk hO.o3 hK (by decide)) _, own_setCell hO.o4 (own_blk hO.o4 hK (by decide)) _, own_setCell hO.o5 (own_blk hO.o5 hK (by decide)) _, own_setCell hO.o6 (own_blk hO.o6 hK (by decide)) _⟩, (Below.refl _ _).setCell hg _, fun g' t cs hne ht h => h.far (p := ⟨g, 1, none⟩) hne _⟩
  simpa [Res.cells] using hK.set_ 1 (.int .i64 x)
theorem change_2 (w : World) (base g : Nat) (b : Res) (p : Lies) (i : Nat) (hblk : Blk w g 31 (b.cells p)) (hown : ROwn w base b p) (hg : base ≤ g) :
    Calls Try.prog 7 #[.pointer (some ⟨g, 0, none⟩), .int .i64 2, .int .i64 i] w fun e w' => e = .returned (.tuple #[]) ∧ Changed w w' base g (chg 2 i b) := by
  have HK := Lib.hid hblk
  have HO := Lib.hid hown
  unfold Res.cells at hblk
  have g3 : w.cell? ⟨g, 3, none⟩ = some (.slice p.A2 b.store.length p.c2) := hblk.cell rfl
  have gx : w.cell? ⟨g, 1, none⟩ = some (.int .i64 b.e) := hblk.cell rfl
  have gf : w.frozen? ⟨g, 1, none⟩ = false := hblk.frozen 1
  clear hblk hown
  go_enter Try.func7, Try.ntmps7
  go_wp2
  go_end0
  exact ⟨rfl, fin_e 15 HK.out HO.out hg⟩

theorem fin_calls {w : World} {base g : Nat} {b : Res} {p : Lies} (x : Int) (hK : Blk w g 31 (b.cells p)) (hO : ROwn w base b p) (hg : base ≤ g) : Changed w (w.setCell ⟨g, 5, none⟩ (.int .i64 x)) base g { b with calls := x } := by
  refine ⟨p, ?_, ⟨own_setCell hO.o1 (own_blk hO.o1 hK (by decide)) _, own_setCell hO.o2 (own_blk hO.o2 hK (by decide)) _, own_setCell hO.o3 (own_blk hO.o3 hK (by decide)) _, own_setCell hO.o4 (own_blk hO.o4 hK (by decide)) _, own_setCell hO.o5 (own_blk hO.o5 hK (by decide)) _, own_setCell hO.o6 (own_blk hO.o6 hK (by decide)) _⟩, (Below.refl _ _).setCell hg _, fun g' t cs hne ht h => h.far (p := ⟨g, 5, none⟩) hne _⟩
  simpa [Res.cells] using hK.set_ 5 (.int .i64 x)
theorem change_5 (w : World) (base g : Nat) (b : Res) (p : Lies) (i : Nat) (hblk : Blk w g 31 (b.cells p)) (hown : ROwn w base b p) (hg : base ≤ g) :
    Calls Try.prog 7 #[.pointer (some ⟨g, 0, none⟩), .int .i64 5, .int .i64 i] w fun e w' => e = .returned (.tuple #[]) ∧ Changed w w' base g (chg 5 i b) := by
  have HK := Lib.hid hblk
  have HO := Lib.hid hown
  unfold Res.cells at hblk
  have g3 : w.cell? ⟨g, 3, none⟩ = some (.slice p.A2 b.store.length p.c2) := hblk.cell rfl
  have gx : w.cell? ⟨g, 5, none⟩ = some (.int .i64 b.calls) := hblk.cell rfl
  have gf : w.frozen? ⟨g, 5, none⟩ = false := hblk.frozen 5
  clear hblk hown
  go_enter Try.func7, Try.ntmps7
  go_wp2
  go_end0
  exact ⟨rfl, fin_calls (-1) HK.out HO.out hg⟩

theorem flatMap_byte (l : List Int) : l.flatMap enc_byte = l.map (Value.int .u8) := by
  induction l with
  | nil => rfl
  | cons x l ih => simp only [List.flatMap_cons, List.map_cons, ih, enc_byte]; rfl
theorem own_set {w : World} {base e n c : Nat} {A : Option Addr} {xs : List Value} {i : Nat} {u : Value} (h : w.ownsRow base e 1 (.slice A n c) n xs) (hi : i < n) : ∃ q, A = some ⟨q, 0, none⟩ ∧ base ≤ q ∧ q < w.heap.size ∧ w.frozen? ⟨q, i, none⟩ = false ∧ (∀ v, xs[i]? = some v → w.cell? ⟨q, i, none⟩ = some v) ∧
    (∀ u, (w.setCell ⟨q, i, none⟩ u).ownsRow base e 1 (.slice A n c) n (xs.set i u)) ∧ (∀ g t cs, Blk w g t cs → e ≠ t → g ≠ q) ∧ (∀ v e' s' n' xs', w.ownsRow base e' s' v n' xs' → e' ≠ e → v.ownBlock ≠ some q) := by
  have h0 := h
  rcases h.2 with ⟨_, h⟩ | ⟨q, cap, cur, hv, hb, hg, hnc, hcm, hcs, htk⟩
  · omega
  · injection hv with h1 _ h3
    subst h1 h3
    have hq : q < w.heap.size := (Array.getElem?_eq_some_iff.1 hg).1
    refine ⟨q, rfl, hb, hq, Blk.frozen hg i, fun v hv => ?_, fun u => ⟨by simpa using h0.1, .inr ⟨q, c, cur.setIfInBounds i u, rfl, hb, Blk.set_ hg i u, hnc, hcm, by simpa using hcs, ?_⟩⟩, ?_, ?_⟩
    · have hx := h0.cells (g := q) rfl i v hv
      have hadd : (⟨q, 0, none⟩ : Addr).add i = ⟨q, i, none⟩ := by unfold Addr.add; split <;> simp_all
      rwa [hadd] at hx
    · rw [Array.toList_setIfInBounds, List.take_set, htk]
    · rintro g t cs hB hne rfl
      unfold Blk at hB
      rw [hg] at hB
      injection hB with hB
      injection hB with _ hB
      exact hne hB
    · intro v e' s' n' xs' h' hne
      exact own_blk h' hg hne

theorem fin_set {w : World} {base g q i : Nat} {b : Res} {p : Lies} (x : Int) (hK : Blk w g 31 (b.cells p)) (hO : ROwn w base b p) (hq : base ≤ q)
    (hset : ∀ u, (w.setCell ⟨q, i, none⟩ u).ownsRow base 5 1 (.slice p.A2 b.store.length p.c2) b.store.length ((b.store.flatMap enc_byte).set i u)) (hne : ∀ g t cs, Blk w g t cs → 5 ≠ t → g ≠ q)
    (hfar : ∀ v e' s' n' xs', w.ownsRow base e' s' v n' xs' → e' ≠ 5 → v.ownBlock ≠ some q) : Changed w (w.setCell ⟨q, i, none⟩ (.int .u8 x)) base g { b with store := b.store.set i x } := by
  refine ⟨p, ?_, ⟨own_setCell hO.o1 (hfar _ _ _ _ _ hO.o1 (by decide)) _, by simpa [flatMap_byte] using hset (.int .u8 x), own_setCell hO.o3 (hfar _ _ _ _ _ hO.o3 (by decide)) _, own_setCell hO.o4 (hfar _ _ _ _ _ hO.o4 (by decide)) _, own_setCell hO.o5 (hfar _ _ _ _ _ hO.o5 (by decide)) _, own_setCell hO.o6 (hfar _ _ _ _ _ hO.o6 (by decide)) _⟩, (Below.refl _ _).setCell hq _, fun g' t cs _ ht h => h.far (p := ⟨q, i, none⟩) (hne _ _ _ h (Ne.symm ht)) _⟩
  have h := hK.far (p := ⟨q, i, none⟩) (hne _ _ _ hK (by decide)) (.int .u8 x)
  simpa [Res.cells] using h

theorem fin_app {w w2 : World} {base g : Nat} {b : Res} {p : Lies} {A : Option Addr} {c : Nat} {l : List Int} (hK : Blk w g 31 (b.cells p)) (hO : ROwn w base b p) (hgrow : w.grownBy w2 (Value.slice p.A2 b.store.length p.c2).ownBlock) (hB : base ≤ w.heap.size) (hg : base ≤ g)
    (hnew : w2.ownsRow base 5 1 (.slice A l.length c) l.length (l.flatMap enc_byte)) : Changed w (w2.setCell ⟨g, 3, none⟩ (.slice A l.length c)) base g { b with store := l } := by
  have hK2 := hK.grown hgrow (own_blk hO.o2 hK (by decide))
  have hb : Below base w w2 := (Below.refl _ _).grown hgrow hB (fun q hq => (hO.o2.lt q hq).1)
  refine ⟨{ p with A2 := A, c2 := c }, ?_, ⟨own_setCell (hO.o1.kept hgrow (own_ne hO.o1 hO.o2 (by decide))) (own_blk (hO.o1.kept hgrow (own_ne hO.o1 hO.o2 (by decide))) hK2 (by decide)) _, own_setCell hnew (own_blk hnew hK2 (by decide)) _, own_setCell (hO.o3.kept hgrow (own_ne hO.o3 hO.o2 (by decide))) (own_blk (hO.o3.kept hgrow (own_ne hO.o3 hO.o2 (by decide))) hK2 (by decide)) _, own_setCell (hO.o4.kept hgrow (own_ne hO.o4 hO.o2 (by decide))) (own_blk (hO.o4.kept hgrow (own_ne hO.o4 hO.o2 (by decide))) hK2 (by decide)) _, own_setCell (hO.o5.kept hgrow (own_ne hO.o5 hO.o2 (by decide))) (own_blk (hO.o5.kept hgrow (own_ne hO.o5 hO.o2 (by decide))) hK2 (by decide)) _, own_setCell (hO.o6.kept hgrow (own_ne hO.o6 hO.o2 (by decide))) (own_blk (hO.o6.kept hgrow (own_ne hO.o6 hO.o2 (by decide))) hK2 (by decide)) _⟩, hb.setCell hg _, fun g' t cs hne ht h => ((h.grown hgrow (own_blk hO.o2 h (Ne.symm ht))).far (p := ⟨g, 3, none⟩) hne _)⟩
  simpa [Res.cells] using hK2.set_ 3 (.slice A l.length c)

set_option maxHeartbeats 2000000 in
set_option maxRecDepth 100000 in
theorem change_3 (w : World) (base g : Nat) (b : Res) (p : Lies) (i : Nat) (hblk : Blk w g 31 (b.cells p)) (hown : ROwn w base b p) (hB : base ≤ w.heap.size) (hg : base ≤ g) (hi : i ≤ b.store.length) (hl : b.store.length ≤ 100)
    (hz : ∀ z ∈ b.store, 0 ≤ z ∧ z ≤ 255) :
    Calls Try.prog 7 #[.pointer (some ⟨g, 0, none⟩), .int .i64 3, .int .i64 i] w fun e w' => e = .returned (.tuple #[]) ∧ Changed w w' base g (chg 3 i b) := by
  have HK := Lib.hid hblk
  have HO := Lib.hid hown
  have HZ := Lib.hid hz
  unfold Res.cells at hblk
  have g3 : w.cell? ⟨g, 3, none⟩ = some (.slice p.A2 b.store.length p.c2) := hblk.cell rfl
  have gf3 : w.frozen? ⟨g, 3, none⟩ = false := hblk.frozen 3
  have hgl := hblk.lt
  clear hblk hown hz
  by_cases hlt : i < b.store.length
  · obtain ⟨q, hA, hq, hqh, hfr, hcell, hset, hne, hfar⟩ := own_set (u := .int .u8 0) HO.out.o2 hlt
    have c0 : w.cell? ⟨q, i, none⟩ = some (.int .u8 b.store[i]) := hcell _ (by simp [flatMap_byte, hlt])
    have hx := HZ.out b.store[i] (List.getElem_mem _)
    have HF := Lib.hid (fin_set (i := i) ((b.store[i] + 1) % 256) HK.out HO.out hq hset hne hfar)
    have hch : chg 3 i b = { b with store := b.store.set i ((b.store[i] + 1) % 256) } := by simp [chg, hlt]
    have HC := Lib.hid hch
    clear hch hset hne hfar hcell
    rw [hA] at g3
    clear hA
    generalize b.store[i] = x at *
    obtain ⟨hx1, hx2⟩ := hx
    go_enter Try.func7, Try.ntmps7
    go_wp2
    go_end0
    rw [HC.out]
    exact ⟨rfl, by simpa using HF.out⟩
  · obtain rfl : i = b.store.length := by omega
    have hch : chg 3 b.store.length b = { b with store := b.store ++ [0] } := by simp [chg]
    have HC := Lib.hid hch
    clear hch
    go_enter Try.func7, Try.ntmps7
    go_wp2_with (at_builtin
                 refine wpList_app el5 rfl (.tmp 70) (.tmp 71) rfl rfl (HO.out.o2.alloc _) rfl (Src.blk (cs := #[.int .u8 0]) (tt := 5) (Blk.new' rfl) rfl) (by simp [Value.oneCell']) (by omega) (by simp; omega) ?_
                 intro A2' c2' w2 hown2 hgrow2 hat2
                 have hgr : w.grownBy w2 (Value.slice p.A2 b.store.length p.c2).ownBlock := (World.grownBy_alloc w (.cells #[.int .u8 0] 5) _).trans hgrow2
                 have hK2 := HK.out.grown hgr (own_blk HO.out.o2 HK.out (by decide))
                 unfold Res.cells at hK2
                 have gc : w2.cell? ⟨g, 3, none⟩ = some (.slice p.A2 b.store.length p.c2) := hK2.cell rfl
                 have gf : w2.frozen? ⟨g, 3, none⟩ = false := hK2.frozen 3
                 have HF := Lib.hid (fin_app (A := A2') (c := c2') (l := b.store ++ [0]) HK.out HO.out hgr hB hg (by simpa [enc_byte] using hown2))
                 clear hown2 hgrow2 hat2 hgr hK2)
    go_end0
    rw [HC.out]
    exact ⟨rfl, by simpa using HF.out⟩
end Go.Proofs.Ytfcdfacfdlphfaa

/- Proved here: the walk of the law JudgesCompare: it returns true; lists of at most 8 bytes, and longer ones. -/
import Derived.Test.YtfcdfacfdlphfaaT9
import Derived.Deep.CutBlock
namespace Go.Proofs.Ytfcdfacfdlphfaa
open Go.ChangeShapes Go.WideShapes Go.ChangeAt Go.RowKit
set_option linter.unusedVariables false
set_option linter.unusedSimpArgs false

theorem change_any (w : World) (base g : Nat) (b : Res) (p : Lies) (i : Nat) (zs : List Int) (hz : ∀ z ∈ zs, 0 ≤ z ∧ z ≤ 255) (hl : zs.length ≤ 8) (hblk : Blk w g 31 (b.cells p)) (hown : ROwn w base b p) (hB : base ≤ w.heap.size) (hg : base ≤ g) (hi : i ≤ zs.length) :
    ∀ m : Nat, m < 9 → SameAt b (resOf zs) m → Calls Try.prog 7 #[.pointer (some ⟨g, 0, none⟩), .int .i64 m, .int .i64 i] w fun e w' => e = .returned (.tuple #[]) ∧ Changed w w' base g (chg m i b) := by
  refine nine ?_ ?_ ?_ ?_ ?_ ?_ ?_ ?_ ?_ <;> (intro h; simp only [SameAt, resOf] at h)
  · exact change_0 w base g b p i hblk hown hB hg (by rw [h]; simpa using hi) (by rw [h]; simp; omega)
  · exact change_1 w base g b p i hblk hown hg
  · exact change_2 w base g b p i hblk hown hg
  · exact change_3 w base g b p i hblk hown hB hg (by rw [h]; simpa using hi) (by rw [h]; omega) (by rw [h]; exact hz)
  · exact change_4 w base g b p i hblk hown hB hg (by rw [h]; simpa using hi) (by rw [h]; simp; omega)
  · exact change_5 w base g b p i hblk hown hg
  · exact change_6 w base g b p i hblk hown hB hg (by rw [h]; simpa using hi) (by rw [h]; simp; omega)
  · exact change_7 w base g b p i hblk hown hB hg (by rw [h]; simpa using hi) (by rw [h]; simp; omega)
  · exact change_8 w base g b p i hblk hown hB hg (by rw [h]; simpa using hi) (by rw [h]; simp; omega)

theorem result_own (w : World) (A : Option Addr) (c : Nat) (zs : List Int) (hz : ∀ z ∈ zs, 0 ≤ z ∧ z ≤ 255) (ha : Row w w.heap.size 1 A (zs.map enc_byte)) (hl : zs.length ≤ 8) :
    Calls Try.prog 5 #[.slice A zs.length c] w fun e w' => ∃ p, e = .returned (.agg ((resOf zs).cells p)) ∧ ROwn w' w.heap.size (resOf zs) p ∧ Below w.heap.size w w' := by
  refine (result_any w A c zs hz ha hl).mono ?_
  rintro e w' ⟨v1, v2, v3, v4, v5, v6, rfl, hs, hb⟩
  obtain ⟨p, h1, h2⟩ := hs.own
  exact ⟨p, by rw [h1], h2, hb⟩

/-- the boxes of the two results; base: the first block of the second result -/
structure Two (w : World) (base ga gb : Nat) (R b : Res) (pa pb : Lies) : Prop where
  xa : Blk w ga 31 (R.cells pa)
  xb : Blk w gb 31 (b.cells pb)
  ne : ga ≠ gb
  at_ : R.At w base pa
  own : ROwn w base b pb
  ha : base ≤ ga
  hb : base ≤ gb
  hw : base ≤ w.heap.size

theorem ROwn.alloc {w : World} {base : Nat} {b : Res} {p : Lies} (h : ROwn w base b p) (o : Obj) : ROwn (w.alloc o) base b p := ⟨h.o1.alloc o, h.o2.alloc o, h.o3.alloc o, h.o4.alloc o, h.o5.alloc o, h.o6.alloc o⟩
theorem Len.at_ {w : World} {base : Nat} {b : Res} {p : Lies} (h : ROwn w base b p) {N : Nat} (hl : Len b N) (hN : N ≤ 1000000) : b.At w w.heap.size p := by
  obtain ⟨h1, h2, h3, h4, h5, h6⟩ := hl
  exact h.at_ ⟨by omega, by omega, by omega, by omega, by omega, by omega⟩
theorem Two.below {w w' : World} {base ga gb : Nat} {R b : Res} {pa pb : Lies} (h : Two w base ga gb R b pa pb) (hb : Below w.heap.size w w') : Two w' base ga gb R b pa pb :=
  ⟨h.xa.below hb h.xa.lt, h.xb.below hb h.xb.lt, h.ne, h.at_.below (hb.mono h.hw), ⟨own_below h.own.o1 hb, own_below h.own.o2 hb, own_below h.own.o3 hb, own_below h.own.o4 hb, own_below h.own.o5 hb, own_below h.own.o6 hb⟩, h.ha, h.hb, Nat.le_trans h.hw hb.size⟩

/-- what holds of b ahead of round m -/
def Inv (zs : List Int) (k m i : Nat) (b : Res) : Prop := (k < m → Good (resOf zs) b k i) ∧ (∀ j, m ≤ j → j < 9 → SameAt b (resOf zs) j) ∧ (m = k → ∀ j, j < 9 → SameAt b (resOf zs) j) ∧ Len b (zs.length + (m - k))
theorem Inv.start {zs : List Int} {k i : Nat} : Inv zs k k i (resOf zs) :=
  ⟨fun h => absurd h (by omega), fun j _ hj => SameAt.refl j hj, fun _ j hj => SameAt.refl j hj, by simpa using len_resOf zs⟩
theorem Inv.step {zs : List Int} {k m i : Nat} {b : Res} (h : Inv zs k m i b) (hz : ∀ z ∈ zs, 0 ≤ z ∧ z ≤ 255) (hi : i ≤ zs.length) (hm : m < 9) (hkm : k ≤ m) : Inv zs k (m + 1) i (chg m i b) := by
  refine ⟨fun _ => ?_, same_later h.2.1 hm, fun h1 => by omega, ?_⟩
  · by_cases hmk : m = k
    · subst hmk
      exact Good.first hz hi hm (h.2.2.1 rfl)
    · exact (h.1 (by omega)).later (by omega) hm
  · rw [show zs.length + (m + 1 - k) = zs.length + (m - k) + 1 by omega]
    exact len_chg h.2.2.2 m hm
theorem Inv.good {zs : List Int} {k m i : Nat} {b : Res} (h : Inv zs k m i b) (hm : k < m) : Good (resOf zs) b k i := h.1 hm
theorem Inv.len {zs : List Int} {k m i : Nat} {b : Res} (h : Inv zs k m i b) (hm : m ≤ 9) (hl : zs.length ≤ 8) : Len b 20 := by
  obtain ⟨h1, h2, h3, h4, h5, h6⟩ := h.2.2.2
  exact ⟨by omega, by omega, by omega, by omega, by omega, by omega⟩
theorem Two.changed {w w' : World} {base ga gb gn : Nat} {R b b' : Res} {pa pb : Lies} {cs : Array Value} (h : Two w base ga gb R b pa pb) (hn : Blk w gn 9 cs) (hne : gb ≠ gn) (hc : Changed w w' base gb b') :
    ∃ p, Two w' base ga gb R b' pa p ∧ Blk w' gn 9 cs ∧ Below base w w' := by
  obtain ⟨p, h1, h2, h3, h4⟩ := hc
  exact ⟨p, ⟨h4 _ _ _ h.ne (by decide) h.xa, h1, h.ne, h.at_.below h3, h2, h.ha, h.hb, Nat.le_trans h.hw h3.size⟩, h4 _ _ _ (Ne.symm hne) (by decide) hn, h3⟩

def names : Array Value := #[.string (nm 0), .string (nm 1), .string (nm 2), .string (nm 3), .string (nm 4), .string (nm 5), .string (nm 6), .string (nm 7), .string (nm 8)]

def isOne (k : Nat) : Bool := decide (k = 1 ∨ k = 2 ∨ k = 5)
theorem names_at : ∀ k, k < 9 → names[k]? = some (.string (nm k)) := by
  refine nine ?_ ?_ ?_ ?_ ?_ ?_ ?_ ?_ ?_ <;> rfl
set_option maxHeartbeats 4000000 in
set_option maxRecDepth 100000 in
theorem law_small (w : World) (A : Option Addr) (c : Nat) (zs : List Int) (what at_ : Nat) (hz : ∀ z ∈ zs, 0 ≤ z ∧ z ≤ 255)
    (ha : Row w w.heap.size 1 A (zs.map enc_byte)) (hl : zs.length ≤ 8) (hw : what ≤ 255) (hat : at_ ≤ 255) :
    Calls Try.prog 3 #[.slice A zs.length c, .int .u8 what, .int .u8 at_] w fun e w' => e = .returned (.bool true) ∧ Below w.heap.size w w' := by
  have HA := Lib.hid ha
  have HZ := Lib.hid hz
  clear ha hz
  go_enter Try.func3, Try.ntmps3
  go_upto_region 3 with fail
  go_cut [7, 8] (fun s7 s8 wx => ∃ base ga gb pa pb, s7 = .pointer (some ⟨ga, 0, none⟩) ∧ s8 = .pointer (some ⟨gb, 0, none⟩) ∧ Hid (Two wx base ga gb (resOf zs) (resOf zs) pa pb) ∧ w.heap.size ≤ base ∧ Below w.heap.size w wx)
  case first =>
    go_wp2_with fail
    refine (result_own w A c zs HZ.out HA.out hl).mono ?_
    rintro e w1 ⟨p, rfl, hown1, hb1⟩
    go_wp2_with fail
    refine (result_own w1 A c zs HZ.out ((HA.out.below hb1).mono hb1.size) hl).mono ?_
    rintro e w2 ⟨q, rfl, hown2, hb2⟩
    have H1 := Lib.hid hown1
    have H2 := Lib.hid hown2
    clear hown1 hown2
    unfold Res.cells
    go_wp2_with fail
    go_meet
    have hs1 := hb1.size
    have hs2 := hb2.size
    have hab : Below w1.heap.size w2 ((w2.alloc (.cells ((resOf zs).cells p) 31)).alloc (.cells ((resOf zs).cells q) 31)) := ((Below.refl _ _).alloc hs2 _).alloc (by simp; omega) _
    exact ⟨w1.heap.size, _, _, p, q, rfl, rfl, ⟨(Blk.new' rfl).alloc _, Blk.new' (by simp), by omega, ((Len.at_ H1.out (len_resOf zs) (by omega)).below hb2).below hab, (H2.out.alloc _).alloc _, by omega, by omega, by simp; omega⟩, hs1, (hb1.trans (hb2.mono hs1)).trans (hab.mono hs1)⟩
  case rest =>
    obtain ⟨base, ga, gb, pa, pb, rfl, rfl, HT, hbase, hbw⟩ := hcut
    have KX := HT.out.xa
    have KY := HT.out.xb
    unfold Res.cells at KX KY
    have x0 := KX.cell (j := 0) rfl
    have y0 := KY.cell (j := 0) rfl
    have x1 := KX.cell (j := 1) rfl
    have y1 := KY.cell (j := 1) rfl
    have x2 := KX.cell (j := 2) rfl
    have y2 := KY.cell (j := 2) rfl
    have x3 := KX.cell (j := 3) rfl
    have y3 := KY.cell (j := 3) rfl
    have x4 := KX.cell (j := 4) rfl
    have y4 := KY.cell (j := 4) rfl
    have x5 := KX.cell (j := 5) rfl
    have y5 := KY.cell (j := 5) rfl
    have x6 := KX.cell (j := 6) rfl
    have y6 := KY.cell (j := 6) rfl
    have x7 := KX.cell (j := 7) rfl
    have y7 := KY.cell (j := 7) rfl
    have x8 := KX.cell (j := 8) rfl
    have y8 := KY.cell (j := 8) rfl
    clear KX KY
    go_upto_region 4 with fail
    go_cut [9, 10] (fun s9 s10 wx => s9 = .string ⟨#[]⟩ ∧ s10 = .int .i64 0 ∧ Hid (Two wx base ga gb (resOf zs) (resOf zs) pa pb) ∧ Below w.heap.size w wx)
    case first =>
      go_wp2_with fail
      refine (compare_any (resOf zs) (resOf zs) wc wc.heap.size pa pb (HT.out.at_.mono HT.out.hw) (Len.at_ HT.out.own (len_resOf zs) (by omega)) (Nat.le_refl _)).mono ?_
      rintro e w3 ⟨hc, hw3⟩
      have hc := cmp_none hc (fun j hj => by rw [prt_same j hj (SameAt.refl j hj)]; omega)
      subst hc
      have HT3 := Lib.hid (HT.out.below hw3)
      have hbw3 : Below w.heap.size w w3 := hbw.trans (hw3.mono hbw.size)
      clear hw3
      go_wp2
      go_meet
      exact ⟨rfl, rfl, HT3, hbw3⟩
    case rest =>
      clear HT hbw x0 x1 x2 x3 x4 x5 x6 x7 x8 y0 y1 y2 y3 y4 y5 y6 y7 y8
      obtain ⟨rfl, rfl, HT, hbw⟩ := hcut
      have hnb : ∀ o, Hid (Two (wc.alloc o) base ga gb (resOf zs) (resOf zs) pa pb) := fun o => HT.out.below ((Below.refl _ _).alloc (Nat.le_refl _) _)
      have HNB := Lib.hid hnb
      clear hnb
      have hne : gb ≠ wc.heap.size := by have := HT.out.xb.lt; omega
      go_upto_region 9 with fail
      go_cut [11, 12, 13] (fun s11 s12 s13 wx => ∃ gn k i : Nat, s11 = .slice (some ⟨gn, 0, none⟩) 9 9 ∧ s12 = .int .i64 k ∧ s13 = .int .i64 i ∧ k < 9 ∧ i ≤ zs.length ∧ Hid (Blk wx gn 9 names) ∧ gb ≠ gn ∧ Hid (Two wx base ga gb (resOf zs) (resOf zs) pa pb) ∧ Below w.heap.size w wx)
      case first =>
        go_wp2_with fail
        go_meet
        exact ⟨wc.heap.size, what % 9, at_ % (zs.length + 1), rfl, by simp, by simp, by omega, by have := Nat.mod_lt at_ (show zs.length + 1 > 0 by omega); omega, Blk.new' rfl, hne, HNB.out _, hbw.alloc hbw.size _⟩
      case rest =>
        clear HT hbw HNB hne
        obtain ⟨gn, k, i, rfl, rfl, rfl, hk9, hin, HN, hgn, HT, hbw⟩ := hcut
        go_upto_block 0 with fail
        go_cut [14] (fun s14 wx => ∃ (b : Res) (pb' : Lies), Hid (Good (resOf zs) b k i) ∧ Hid (Len b 20) ∧ Hid (Blk wx gn 9 names) ∧ Hid (Two wx base ga gb (resOf zs) b pa pb') ∧ Below w.heap.size w wx)
        case first =>
          go_wp2_with fail
          go_loopw [14] (fun s wr => ∃ (m : Nat) (b : Res) (pb' : Lies), k ≤ m ∧ m ≤ 9 ∧ s = .int .i64 m ∧ Hid (Inv zs k m i b) ∧ Hid (Blk wr gn 9 names) ∧ Hid (Two wr base ga gb (resOf zs) b pa pb') ∧ Below w.heap.size w wr) (fun s _ => 9 - (intOf s).toNat)
          case atStart => exact ⟨k, resOf zs, pb, by omega, by omega, rfl, Inv.start, HN, HT, hbw⟩
          case round =>
            clear HN HT hbw
            obtain ⟨m, b, pb', hkm, hm9, rfl, HI, HN, HT, hbw⟩ := hrel
            by_cases hm : m < 9
            · by_cases hmk : m = k
              · by_cases hodd : what / 9 % 2 = 1
                · have q1 : ((m : Int) == (k : Int)) = true := by simp [hmk]
                  have q2 : ((what : Int) / 9 % 2 == 1) = true := by simp; omega
                  have HE := Lib.hid hmk
                  clear hmk hodd
                  go_wp2_with fail
                  refine (change_any wr base gb b pb' i zs HZ.out hl HT.out.xb HT.out.own HT.out.hw HT.out.hb hin m hm (HI.out.2.1 m (Nat.le_refl _) hm)).mono ?_
                  rintro e w4 ⟨rfl, hch⟩
                  obtain ⟨pn, HT4, HN4, hb4⟩ := Two.changed HT.out HN.out hgn hch
                  have H4 := Lib.hid HT4
                  have N4 := Lib.hid HN4
                  have hbw4 : Below w.heap.size w w4 := hbw.trans (hb4.mono hbase)
                  clear hch HT4 HN4 hb4
                  go_wp2_with fail
                  go_meet
                  exact ⟨_, pn, (HI.out.step HZ.out hin hm hkm).good (by omega), (HI.out.step HZ.out hin hm hkm).len (by omega) hl, N4, H4, hbw4⟩
                · have q1 : ((m : Int) == (k : Int)) = true := by simp [hmk]
                  have q2 : ((what : Int) / 9 % 2 == 1) = false := by simp; omega
                  have HE := Lib.hid hmk
                  clear hmk hodd
                  go_wp2_with fail
                  refine (change_any wr base gb b pb' i zs HZ.out hl HT.out.xb HT.out.own HT.out.hw HT.out.hb hin m hm (HI.out.2.1 m (Nat.le_refl _) hm)).mono ?_
                  rintro e w4 ⟨rfl, hch⟩
                  obtain ⟨pn, HT4, HN4, hb4⟩ := Two.changed HT.out HN.out hgn hch
                  have H4 := Lib.hid HT4
                  have N4 := Lib.hid HN4
                  have hbw4 : Below w.heap.size w w4 := hbw.trans (hb4.mono hbase)
                  clear hch HT4 HN4 hb4
                  go_wp2_with fail
                  go_roundw
                  case rel => exact ⟨m + 1, _, pn, by omega, by omega, by go_num, HI.out.step HZ.out hin hm hkm, N4, H4, hbw4⟩
                  case measure => simp [intOf]; omega
              · have q1 : ((m : Int) == (k : Int)) = false := by simp; omega
                have HE := Lib.hid hmk
                clear hmk
                go_wp2_with fail
                refine (change_any wr base gb b pb' i zs HZ.out hl HT.out.xb HT.out.own HT.out.hw HT.out.hb hin m hm (HI.out.2.1 m (Nat.le_refl _) hm)).mono ?_
                rintro e w4 ⟨rfl, hch⟩
                obtain ⟨pn, HT4, HN4, hb4⟩ := Two.changed HT.out HN.out hgn hch
                have H4 := Lib.hid HT4
                have N4 := Lib.hid HN4
                have hbw4 : Below w.heap.size w w4 := hbw.trans (hb4.mono hbase)
                clear hch HT4 HN4 hb4
                go_wp2_with fail
                go_roundw
                case rel => exact ⟨m + 1, _, pn, by omega, by omega, by go_num, HI.out.step HZ.out hin hm hkm, N4, H4, hbw4⟩
                case measure => simp [intOf]; omega
            · obtain rfl : m = 9 := by omega
              go_wp2_with fail
              go_meet
              exact ⟨b, pb', HI.out.good (by omega), HI.out.len (by omega) hl, HN, HT, hbw⟩
        case rest =>
          clear HT hbw HN
          obtain ⟨b, pb', HG, HL, HN, HT, hbw⟩ := hcut
          go_upto_region 15 with fail
          go_cut [75] (fun s75 wx => s75 = .bool (isOne k) ∧ Hid (Blk wx gn 9 names) ∧ Hid (Two wx base ga gb (resOf zs) b pa pb') ∧ Below w.heap.size w wx)
          case first =>
            by_cases k1 : k = 1
            · have q1 : ((k : Int) == 1) = true := by simp; omega
              have e1 : isOne k = true := by simp [isOne, k1]
              have E1 := Lib.hid e1
              clear k1 e1
              go_wp2
              go_meet
              exact ⟨by rw [E1.out], HN, HT, hbw⟩
            · have q1 : ((k : Int) == 1) = false := by simp; omega
              by_cases k2 : k = 2
              · have q2 : ((k : Int) == 2) = true := by simp; omega
                have e1 : isOne k = true := by simp [isOne, k2]
                have E1 := Lib.hid e1
                clear k1 k2 e1
                go_wp2
                go_meet
                exact ⟨by rw [E1.out], HN, HT, hbw⟩
              · have q2 : ((k : Int) == 2) = false := by simp; omega
                by_cases k5 : k = 5
                · have q5 : ((k : Int) == 5) = true := by simp; omega
                  have e1 : isOne k = true := by simp [isOne, k5]
                  have E1 := Lib.hid e1
                  clear k1 k2 k5 e1
                  go_wp2
                  go_meet
                  exact ⟨by rw [E1.out], HN, HT, hbw⟩
                · have q5 : ((k : Int) == 5) = false := by simp; omega
                  have e1 : isOne k = false := by simp [isOne, k1, k2, k5]
                  have E1 := Lib.hid e1
                  clear k1 k2 k5 e1
                  go_wp2
                  go_meet
                  exact ⟨by rw [E1.out], HN, HT, hbw⟩
          case rest =>
            clear HN HT hbw
            obtain ⟨rfl, HN, HT, hbw⟩ := hcut
            go_upto_if 75 with fail
            go_cut [13] (fun s13 wx => s13 = .int .i64 (idx k i : Nat) ∧ Hid (Blk wx gn 9 names) ∧ Hid (Two wx base ga gb (resOf zs) b pa pb') ∧ Below w.heap.size w wx)
            case first =>
              cases e1 : isOne k
              · have e2 : idx k i = i := by simp only [isOne, decide_eq_false_iff_not] at e1; simp [idx, e1]
                have E2 := Lib.hid e2
                clear e1 e2
                go_wp2
                go_meet
                exact ⟨by rw [E2.out], HN, HT, hbw⟩
              · have e2 : idx k i = 0 := by simp only [isOne, decide_eq_true_eq] at e1; simp [idx, e1]
                have E2 := Lib.hid e2
                clear e1 e2
                go_wp2
                go_meet
                exact ⟨by rw [E2.out]; rfl, HN, HT, hbw⟩
            case rest =>
              clear HN HT hbw
              obtain ⟨rfl, HN, HT, hbw⟩ := hcut
              have KX := HT.out.xa
              have KY := HT.out.xb
              unfold Res.cells at KX KY
              have x0 := KX.cell (j := 0) rfl
              have y0 := KY.cell (j := 0) rfl
              have x1 := KX.cell (j := 1) rfl
              have y1 := KY.cell (j := 1) rfl
              have x2 := KX.cell (j := 2) rfl
              have y2 := KY.cell (j := 2) rfl
              have x3 := KX.cell (j := 3) rfl
              have y3 := KY.cell (j := 3) rfl
              have x4 := KX.cell (j := 4) rfl
              have y4 := KY.cell (j := 4) rfl
              have x5 := KX.cell (j := 5) rfl
              have y5 := KY.cell (j := 5) rfl
              have x6 := KX.cell (j := 6) rfl
              have y6 := KY.cell (j := 6) rfl
              have x7 := KX.cell (j := 7) rfl
              have y7 := KY.cell (j := 7) rfl
              have x8 := KX.cell (j := 8) rfl
              have y8 := KY.cell (j := 8) rfl
              clear KX KY
              go_upto_region 17 with fail
              go_cut [15, 16] (fun s15 s16 wx => s15 = .string (nm k) ∧ s16 = .int .i64 (idx k i : Nat) ∧ Hid (Blk wx gn 9 names) ∧ Hid (Two wx base ga gb (resOf zs) b pa pb') ∧ Below w.heap.size w wx)
              case first =>
                go_wp2_with fail
                refine (compare_any (resOf zs) b wc wc.heap.size pa pb' (HT.out.at_.mono HT.out.hw) (Len.at_ HT.out.own HL.out (by omega)) (Nat.le_refl _)).mono ?_
                rintro e w3 ⟨hc, hw3⟩
                have hc := cmp_is hc k hk9 (fun j hj => (HG.out.1 j hj).1) (by rw [HG.out.2.1]; omega)
                rw [HG.out.2.1] at hc
                subst hc
                have HT3 := Lib.hid (HT.out.below hw3)
                have HN3 := Lib.hid (HN.out.below hw3 HN.out.lt)
                have hbw3 : Below w.heap.size w w3 := hbw.trans (hw3.mono hbw.size)
                clear hw3
                go_wp2
                go_meet
                exact ⟨rfl, rfl, HN3, HT3, hbw3⟩
              case rest =>
                clear HN HT hbw
                clear x0 y0 x1 y1 x2 y2 x3 y3 x4 y4 x5 y5 x6 y6 x7 y7 x8 y8
                obtain ⟨rfl, rfl, HN, HT, hbw⟩ := hcut
                have KX := HT.out.xa
                have KY := HT.out.xb
                unfold Res.cells at KX KY
                have x0 := KX.cell (j := 0) rfl
                have y0 := KY.cell (j := 0) rfl
                have x1 := KX.cell (j := 1) rfl
                have y1 := KY.cell (j := 1) rfl
                have x2 := KX.cell (j := 2) rfl
                have y2 := KY.cell (j := 2) rfl
                have x3 := KX.cell (j := 3) rfl
                have y3 := KY.cell (j := 3) rfl
                have x4 := KX.cell (j := 4) rfl
                have y4 := KY.cell (j := 4) rfl
                have x5 := KX.cell (j := 5) rfl
                have y5 := KY.cell (j := 5) rfl
                have x6 := KX.cell (j := 6) rfl
                have y6 := KY.cell (j := 6) rfl
                have x7 := KX.cell (j := 7) rfl
                have y7 := KY.cell (j := 7) rfl
                have x8 := KX.cell (j := 8) rfl
                have y8 := KY.cell (j := 8) rfl
                clear KX KY
                go_upto_region 18 with fail
                go_cut [17, 18] (fun s17 s18 wx => s17 = .string (nm k) ∧ s18 = .int .i64 (idx k i : Nat) ∧ Hid (Blk wx gn 9 names) ∧ Below w.heap.size w wx)
                case first =>
                  go_wp2_with fail
                  refine (compare_any b (resOf zs) wc wc.heap.size pb' pa (Len.at_ HT.out.own HL.out (by omega)) (HT.out.at_.mono HT.out.hw) (Nat.le_refl _)).mono ?_
                  rintro e w3 ⟨hc, hw3⟩
                  have hc := cmp_is hc k hk9 (fun j hj => (HG.out.1 j hj).2) (by rw [HG.out.2.2]; omega)
                  rw [HG.out.2.2] at hc
                  subst hc
                  have HN3 := Lib.hid (HN.out.below hw3 HN.out.lt)
                  have hbw3 : Below w.heap.size w w3 := hbw.trans (hw3.mono hbw.size)
                  clear hw3
                  go_wp2
                  go_meet
                  exact ⟨rfl, rfl, HN3, hbw3⟩
                case rest =>
                  clear HN HT hbw
                  clear x0 y0 x1 y1 x2 y2 x3 y3 x4 y4 x5 y5 x6 y6 x7 y7 x8 y8
                  obtain ⟨rfl, rfl, HN, hbw⟩ := hcut
                  have hcn : wc.cell? ⟨gn, k, none⟩ = some (.string (nm k)) := HN.out.cell (names_at k hk9)
                  go_wp2_with fail
                  refine (lives_any wc).mono ?_
                  rintro e w5 ⟨rfl, hw5⟩
                  have hbw5 : Below w.heap.size w w5 := hbw.trans (hw5.mono hbw.size)
                  clear hw5
                  go_wp2
                  go_ret
                  exact ⟨rfl, hbw5⟩

theorem law_big (w : World) (A : Option Addr) (n c : Nat) (what at_ : Int) (hl : 8 < n) :
    Calls Try.prog 3 #[.slice A n c, .int .u8 what, .int .u8 at_] w fun e w' => e = .returned (.bool true) ∧ Below w.heap.size w w' := by
  go_enter Try.func3, Try.ntmps3
  go_wp2_with fail
  refine (lives_any w).mono ?_
  rintro e w5 ⟨rfl, hw5⟩
  go_wp2
  go_ret
  exact ⟨rfl, hw5⟩
end Go.Proofs.Ytfcdfacfdlphfaa

/- Proved here: the walk of the law's function result: it builds the result that a list of at most 8 bytes tells. -/
import Derived.Test.YtfcdfacfdlphfaaT4
import Derived.Deep.CutRange
namespace Go.Proofs.Ytfcdfacfdlphfaa
open Go.ChangeShapes Go.WideShapes Go.ChangeAt Go.RowKit
set_option linter.unusedVariables false

theorem Blk.drew {w : World} {g : Nat} {t : TypeId} {cs : Array Value} (h : Blk w g t cs) : Blk w.drew g t cs := h
theorem own_form {w : World} {base e sz n : Nat} {v : Value} {xs : List Value} (h : w.ownsRow base e sz v n xs) : ∃ A c, v = .slice A n c := by
  rcases h.2 with ⟨rfl, rfl⟩ | ⟨g, cap, cur, rfl, _⟩
  · exact ⟨_, _, rfl⟩
  · exact ⟨_, _, rfl⟩
set_option maxHeartbeats 4000000 in
set_option maxRecDepth 100000 in
theorem result_any (w : World) (A : Option Addr) (c : Nat) (zs : List Int) (hz : ∀ z ∈ zs, 0 ≤ z ∧ z ≤ 255)
    (ha : Row w w.heap.size 1 A (zs.map enc_byte)) (hl : zs.length ≤ 8) :
    Calls Try.prog 5 #[.slice A zs.length c] w
      fun e w' => ∃ v1 v2 v3 v4 v5 v6, e = .returned (.agg #[.int .u8 0, .int .i64 0, v1, v2, v3, .int .i64 3, v4, v5, v6]) ∧ SixL w' w.heap.size zs v1 v2 v3 v4 v5 v6 ∧ Below w.heap.size w w' := by
  have HA := Lib.hid ha
  have HZ := Lib.hid hz
  clear ha hz
  obtain ⟨i1, hi1, hz10, hz11, hz12⟩ := info_parts info40
  obtain ⟨i2, hi2, hz20, hz21, hz22⟩ := info_parts info5
  obtain ⟨i3, hi3, hz30, hz31, hz32⟩ := info_parts info9
  obtain ⟨i4, hi4, hz40, hz41, hz42⟩ := info_parts info42
  obtain ⟨i5, hi5, hz50, hz51, hz52⟩ := info_parts info44
  go_enter Try.func5, Try.ntmps5
  go_wp2
  go_loopw [4, 5] (fun i _ wr => ∃ (k : Nat) (v1 v2 v3 v4 v5 v6 : Value), k ≤ zs.length ∧ i = .int .i64 k ∧ Six wr w.heap.size (w.heap.size + 1) w.heap.size (zs.take k) (zs.take k) (zs.take k) (zs.take k) (zs.take k) (zs.take k) v1 v2 v3 v4 v5 v6 ∧ Below w.heap.size w wr) (fun i _ _ => 8 - (intOf i).toNat)
  case atStart =>
    refine ⟨0, .slice none 0 0, .slice none 0 0, .slice none 0 0, .slice none 0 0, .slice none 0 0, .slice none 0 0, by omega, rfl, ?_, ((Below.refl _ _).alloc (Nat.le_refl _) _).alloc (by simp) _⟩
    exact ⟨Blk.new' (by simp), (Blk.new _ _ _).alloc _, World.ownsRow_nil _ _ _ _, World.ownsRow_nil _ _ _ _, World.ownsRow_nil _ _ _ _, World.ownsRow_nil _ _ _ _, World.ownsRow_nil _ _ _ _, World.ownsRow_nil _ _ _ _, .inl rfl, .inl rfl, by omega⟩
  case round =>
    obtain ⟨k, v1, v2, v3, v4, v5, v6, hk, rfl, S0, hb0⟩ := hrel
    have HS := Lib.hid S0
    clear S0
    by_cases hlt : k < zs.length
    · obtain ⟨b, o, rfl, hbl, hc⟩ := HA.out (by intro h; simp at h; subst h; simp at hlt)
      have e0 := hc k (enc_byte zs[k]) (by simp [hlt]) 0 _ rfl
      simp only [Nat.mul_one, Nat.add_zero] at e0
      clear hc
      have e1 : wr.cell? ⟨b, o + k, none⟩ = some (.int .u8 zs[k]) := (hb0.cell (p := ⟨b, o + k, none⟩) hbl).trans e0
      have hzk := HZ.out zs[k] (List.getElem_mem _)
      have htk : zs.take (k + 1) = zs.take k ++ [zs[k]] := List.take_succ_eq_append_getElem hlt
      have HTK := Lib.hid htk
      clear htk
      have hsz := hb0.size
      generalize zs[k] = z at *
      obtain ⟨hz1, hz2⟩ := hzk
      have f2 : wr.cell? ⟨w.heap.size + 1, 2, none⟩ = some v1 := HS.out.blk.cell rfl
      have hcv : (convert 22 9 (.slice (some ⟨wr.heap.size, 0, none⟩) 1 1)).run Try.prog (wr.alloc (.cells #[.int .u8 (97 + z % 26)] 5)) = .ok (.string (ch z)) (wr.alloc (.cells #[.int .u8 (97 + z % 26)] 5)) :=
        run_convert_bytes_arg _ 22 5 Try.underlying22 Try.underlying5 wr.heap.size 0 1 1 [97 + z % 26] rfl (fun i hi => by obtain rfl : i = 0 := by omega
                                                                                                                           go_simp) 9 Try.underlying9
      have hgl := HS.out.blk.lt
      have hbl' : b < wr.heap.size := by omega
      have hgl2 : w.heap.size + 1 < wr.heap.size + 1 := by omega
      have hbl2 : b < wr.heap.size + 1 := by omega
      have hlk : (zs.take k).length = k := by simp; omega
      have HLK := Lib.hid hlk
      clear hlk
      have hwz : IntKind.i64.wrap z = z := IntWalk.i64_in _ (by omega)
      have hi0 : (0 : Int) ≤ (k : Int) := Int.natCast_nonneg _
      have hi1' : (k : Int) < (zs.length : Int) := by omega
      go_upto_region 6 with fail
      go_cut [5] from 7 to 66 (fun s wx => s = .string (ch z) ∧ ∃ v1', Hid (Six wx w.heap.size (w.heap.size + 1) w.heap.size (zs.take k ++ [z]) (zs.take k) (zs.take k) (zs.take k) (zs.take k) (zs.take k) v1' v2 v3 v4 v5 v6) ∧ Below w.heap.size w wx)
      case first =>
        go_region_law (first
          | (refine step_append_lies _ (by rfl) _ _ _ (by rfl) w.heap.size 40 i1 _ 2 16 Try.underlying26 hi1 hz10 hz11 hz12 rfl (by omega) v1 (zs.take k).length _ (by rfl) (((HS.out.o1.alloc _).alloc _).drew)
              ⟨wr.heap.size + 1, 0, none⟩ 1 1 [.int .i64 z, .int .u64 0] (by rfl) (by rfl) (World.news_of_block (cs := #[.int .i64 z, .int .u64 0]) (t := 40) (fr := (0, 0)) (Blk.drew (Blk.new' (by simp)))) (by simp [Value.oneCell'])
              (by omega) (by rw [HLK.out]; unfold maxLen; omega) (by rw [HLK.out]; omega) (by simp; omega) (wr.heap.size + 2) (by simp) ?_
             intro gg cap w1 hown1 hgrow hat hlt1
             have T1 := ((HS.out.alloc (.cells #[.int .u8 (97 + z % 26)] 5)).alloc (.cells #[.int .i64 z, .int .u64 0] 40)).drew
             have gb := T1.blk.grown hgrow (own_blk T1.o1 T1.blk (by decide))
             have gc : w1.cell? ⟨w.heap.size + 1, 2, none⟩ = some v1 := gb.cell rfl
             have gf : w1.frozen? ⟨w.heap.size + 1, 2, none⟩ = false := gb.frozen 2
             have S1 := Lib.hid (T1.add1 (z := z) hown1 hgrow (by simpa using hat))
             have hb1 : Below w.heap.size w w1 := (((hb0.alloc hsz _).alloc (by simp; omega) _).drew).grown hgrow (by simp; omega) (fun q hq => (T1.o1.lt q hq).1)
             clear T1 gb hown1 hgrow hat HS))
        all_goals
          rw [HLK.out] at S1
          go_wp2_with fail
          go_meet
          exact ⟨rfl, _, S1, hb1.setCell (by simp) _⟩
      case rest =>
        clear HS f2 hcv hwz e1 hgl hgl2 hbl2 hbl' hsz hb0
        obtain ⟨rfl, v1', HS, hb0⟩ := hcut
        have e1 : wc.cell? ⟨b, o + k, none⟩ = some (.int .u8 z) := (hb0.cell (p := ⟨b, o + k, none⟩) hbl).trans e0
        have hsz := hb0.size
        have hgl := HS.out.blk.lt
        have hbl' : b < wc.heap.size := by omega
        have f3 : wc.cell? ⟨w.heap.size + 1, 3, none⟩ = some v2 := HS.out.blk.cell rfl
        go_upto_region 7 with fail
        go_cut [5] from 7 to 66 (fun s wx => s = .string (ch z) ∧ ∃ v2', Hid (Six wx w.heap.size (w.heap.size + 1) w.heap.size (zs.take k ++ [z]) (zs.take k ++ [z]) (zs.take k) (zs.take k) (zs.take k) (zs.take k) v1' v2' v3 v4 v5 v6) ∧ Below w.heap.size w wx)
        case first =>
          go_region_law (first
            | (refine step_append_lies _ (by rfl) _ _ _ (by rfl) w.heap.size 5 i2 _ 1 1 Try.underlying22 hi2 hz20 hz21 hz22 rfl (by omega) v2 (zs.take k).length _ (by rfl) ((HS.out.o2.alloc _).drew)
                ⟨wc.heap.size, 0, none⟩ 1 1 [.int .u8 z] (by rfl) (by rfl) (World.news_of_block (cs := #[.int .u8 z]) (t := 5) (fr := (0, 0)) (Blk.drew (Blk.new' rfl))) (by simp [Value.oneCell'])
                (by omega) (by rw [HLK.out]; unfold maxLen; omega) (by rw [HLK.out]; omega) (by simp; omega) (wc.heap.size + 1) (by simp) ?_
               intro gg cap w1 hown1 hgrow hat hlt1
               have T1 := (HS.out.alloc (.cells #[.int .u8 z] 5)).drew
               have gb := T1.blk.grown hgrow (own_blk T1.o2 T1.blk (by decide))
               have gc : w1.cell? ⟨w.heap.size + 1, 3, none⟩ = some v2 := gb.cell rfl
               have gf : w1.frozen? ⟨w.heap.size + 1, 3, none⟩ = false := gb.frozen 3
               have S1 := Lib.hid (T1.add2 (z := z) hown1 hgrow (by simpa using hat))
               have hb1 : Below w.heap.size w w1 := ((hb0.alloc hsz _).drew).grown hgrow (by simp; omega) (fun q hq => (T1.o2.lt q hq).1)
               clear T1 gb hown1 hgrow hat HS))
          all_goals
            rw [HLK.out] at S1
            go_wp2_with fail
            go_meet
            exact ⟨rfl, _, S1, hb1.setCell (by simp) _⟩
        case rest =>
          clear HS f3 e1 hgl hbl' hsz hb0
          obtain ⟨rfl, v2', HS, hb0⟩ := hcut
          have hsz := hb0.size
          have hgl := HS.out.blk.lt
          have f4 : wc.cell? ⟨w.heap.size + 1, 4, none⟩ = some v3 := HS.out.blk.cell rfl
          go_upto_region 8 with fail
          go_cut [5] from 7 to 66 (fun s wx => s = .string (ch z) ∧ ∃ v3', Hid (Six wx w.heap.size (w.heap.size + 1) w.heap.size (zs.take k ++ [z]) (zs.take k ++ [z]) (zs.take k ++ [z]) (zs.take k) (zs.take k) (zs.take k) v1' v2' v3' v4 v5 v6) ∧ Below w.heap.size w wx)
          case first =>
            go_wp2_with (first
              | (at_builtin
                 refine wpList_append_lies _ rfl (.tmp 42) (.tmp 44) _ rfl w.heap.size 9 i3 _ 1 16 Try.underlying27 hi3 hz30 hz31 hz32 rfl (by omega) v3 (zs.take k).length _ rfl (HS.out.o3.alloc _)
                   ⟨wc.heap.size, 0, none⟩ 1 1 [.string (ch z)] rfl rfl (World.news_of_block (cs := #[.string (ch z)]) (t := 9) (fr := (0, 0)) (Blk.new' rfl)) (by simp [Value.oneCell'])
                   (by omega) (by rw [HLK.out]; unfold maxLen; omega) (by rw [HLK.out]; omega) (by simp; omega) (wc.heap.size + 1) (by simp) ?_
                 intro gg cap w1 hown1 hgrow hat hlt1
                 have T1 := HS.out.alloc (.cells #[.string (ch z)] 9)
                 have gb := T1.blk.grown hgrow (own_blk T1.o3 T1.blk (by decide))
                 have gc : w1.cell? ⟨w.heap.size + 1, 4, none⟩ = some v3 := gb.cell rfl
                 have gf : w1.frozen? ⟨w.heap.size + 1, 4, none⟩ = false := gb.frozen 4
                 have S1 := Lib.hid (T1.add3 (z := z) hown1 hgrow (by simpa using hat))
                 have hb1 : Below w.heap.size w w1 := ((hb0.alloc hsz _)).grown hgrow (by simp; omega) (fun q hq => (T1.o3.lt q hq).1)
                 clear T1 gb hown1 hgrow hat HS f4))
            rw [HLK.out] at S1
            go_meet
            exact ⟨rfl, _, S1, hb1.setCell (by simp) _⟩
          case rest =>
            clear HS f4 hgl hsz hb0
            obtain ⟨rfl, v3', HS, hb0⟩ := hcut
            have hsz := hb0.size
            have hgl := HS.out.blk.lt
            have f6 : wc.cell? ⟨w.heap.size + 1, 6, none⟩ = some v4 := HS.out.blk.cell rfl
            go_upto_region 9 with fail
            go_cut [5] from 7 to 66 (fun s wx => s = .string (ch z) ∧ ∃ v4', Hid (Six wx w.heap.size (w.heap.size + 1) w.heap.size (zs.take k ++ [z]) (zs.take k ++ [z]) (zs.take k ++ [z]) (zs.take k ++ [z]) (zs.take k) (zs.take k) v1' v2' v3' v4' v5 v6) ∧ Below w.heap.size w wx)
            case first =>
              go_wp2_with (first
                | (at_builtin
                   refine wpList_append_lies _ rfl (.tmp 48) (.tmp 51) _ rfl w.heap.size 42 i4 _ 4 56 Try.underlying28 hi4 hz40 hz41 hz42 rfl (by omega) v4 (zs.take k).length _ rfl (HS.out.o4.alloc _)
                     ⟨wc.heap.size, 0, none⟩ 1 1 [.string ⟨#[]⟩, .string (ch z), .string ⟨#[]⟩, .int .i64 0] rfl rfl (World.news_of_block (cs := #[.string ⟨#[]⟩, .string (ch z), .string ⟨#[]⟩, .int .i64 0]) (t := 42) (fr := (0, 0)) (Blk.new' rfl)) (by simp [Value.oneCell'])
                     (by omega) (by rw [HLK.out]; unfold maxLen; omega) (by rw [HLK.out]; omega) (by simp; omega) (wc.heap.size + 1) (by simp) ?_
                   intro gg cap w1 hown1 hgrow hat hlt1
                   have T1 := HS.out.alloc (.cells #[.string ⟨#[]⟩, .string (ch z), .string ⟨#[]⟩, .int .i64 0] 42)
                   have gb := T1.blk.grown hgrow (own_blk T1.o4 T1.blk (by decide))
                   have gc : w1.cell? ⟨w.heap.size + 1, 6, none⟩ = some v4 := gb.cell rfl
                   have gf : w1.frozen? ⟨w.heap.size + 1, 6, none⟩ = false := gb.frozen 6
                   have S1 := Lib.hid (T1.add4 (z := z) hown1 hgrow (by simpa using hat))
                   have hb1 : Below w.heap.size w w1 := ((hb0.alloc hsz _)).grown hgrow (by simp; omega) (fun q hq => (T1.o4.lt q hq).1)
                   clear T1 gb hown1 hgrow hat HS f6))
              rw [HLK.out] at S1
              go_meet
              exact ⟨rfl, _, S1, hb1.setCell (by simp) _⟩
            case rest =>
              clear HS f6 hgl hsz hb0
              obtain ⟨rfl, v4', HS, hb0⟩ := hcut
              have hsz := hb0.size
              have hgl := HS.out.blk.lt
              have f7 : wc.cell? ⟨w.heap.size + 1, 7, none⟩ = some v5 := HS.out.blk.cell rfl
              go_upto_region 10 with fail
              go_cut [5] from 7 to 66 (fun s wx => s = .string (ch z) ∧ ∃ v5', Hid (Six wx w.heap.size (w.heap.size + 1) w.heap.size (zs.take k ++ [z]) (zs.take k ++ [z]) (zs.take k ++ [z]) (zs.take k ++ [z]) (zs.take k ++ [z]) (zs.take k) v1' v2' v3' v4' v5' v6) ∧ Below w.heap.size w wx)
              case first =>
                go_wp2_with (first
                  | (at_builtin
                     refine wpList_append_lies _ rfl (.tmp 55) (.tmp 58) _ rfl w.heap.size 44 i5 _ 3 48 Try.underlying29 hi5 hz50 hz51 hz52 rfl (by omega) v5 (zs.take k).length _ rfl (HS.out.o5.alloc _)
                       ⟨wc.heap.size, 0, none⟩ 1 1 [.string ⟨#[]⟩, .string ⟨#[]⟩, .string (ch z)] rfl rfl (World.news_of_block (cs := #[.string ⟨#[]⟩, .string ⟨#[]⟩, .string (ch z)]) (t := 44) (fr := (0, 0)) (Blk.new' rfl)) (by simp [Value.oneCell'])
                       (by omega) (by rw [HLK.out]; unfold maxLen; omega) (by rw [HLK.out]; omega) (by simp; omega) (wc.heap.size + 1) (by simp) ?_
                     intro gg cap w1 hown1 hgrow hat hlt1
                     have T1 := HS.out.alloc (.cells #[.string ⟨#[]⟩, .string ⟨#[]⟩, .string (ch z)] 44)
                     have gb := T1.blk.grown hgrow (own_blk T1.o5 T1.blk (by decide))
                     have gc : w1.cell? ⟨w.heap.size + 1, 7, none⟩ = some v5 := gb.cell rfl
                     have gf : w1.frozen? ⟨w.heap.size + 1, 7, none⟩ = false := gb.frozen 7
                     have S1 := Lib.hid (T1.add5 (z := z) hown1 hgrow (by simpa using hat))
                     have hb1 : Below w.heap.size w w1 := ((hb0.alloc hsz _)).grown hgrow (by simp; omega) (fun q hq => (T1.o5.lt q hq).1)
                     clear T1 gb hown1 hgrow hat HS f7))
                rw [HLK.out] at S1
                go_meet
                exact ⟨rfl, _, S1, hb1.setCell (by simp) _⟩
              case rest =>
                clear HS f7 hgl hsz hb0
                obtain ⟨rfl, v5', HS, hb0⟩ := hcut
                have hsz := hb0.size
                have hgl := HS.out.blk.lt
                have f8 : wc.cell? ⟨w.heap.size + 1, 8, none⟩ = some v6 := HS.out.blk.cell rfl
                go_wp2_with (first
                  | (at_builtin
                     refine wpList_append_lies _ rfl (.tmp 62) (.tmp 64) _ rfl w.heap.size 9 i3 _ 1 16 Try.underlying27 hi3 hz30 hz31 hz32 rfl (by omega) v6 (zs.take k).length _ rfl (HS.out.o6.alloc _)
                       ⟨wc.heap.size, 0, none⟩ 1 1 [.string (ch z)] rfl rfl (World.news_of_block (cs := #[.string (ch z)]) (t := 9) (fr := (0, 0)) (Blk.new' rfl)) (by simp [Value.oneCell'])
                       (by omega) (by rw [HLK.out]; unfold maxLen; omega) (by rw [HLK.out]; omega) (by simp; omega) (wc.heap.size + 1) (by simp) ?_
                     intro gg cap w1 hown1 hgrow hat hlt1
                     have T1 := HS.out.alloc (.cells #[.string (ch z)] 9)
                     have gb := T1.blk.grown hgrow (own_blk T1.o6 T1.blk (by decide))
                     have gc : w1.cell? ⟨w.heap.size + 1, 8, none⟩ = some v6 := gb.cell rfl
                     have gf : w1.frozen? ⟨w.heap.size + 1, 8, none⟩ = false := gb.frozen 8
                     have S1 := Lib.hid (T1.add6 (z := z) hown1 hgrow (by simpa using hat))
                     have hb1 : Below w.heap.size w w1 := ((hb0.alloc hsz _)).grown hgrow (by simp; omega) (fun q hq => (T1.o6.lt q hq).1)
                     clear T1 gb hown1 hgrow hat HS f8))
                rw [HLK.out] at S1
                go_roundw
                case rel => exact ⟨k + 1, _, _, _, _, _, _, hlt, by go_num, by rw [HTK.out]; exact S1.out, hb1.setCell (by simp) _⟩
                case measure => simp [intOf]; omega
    · obtain rfl : k = zs.length := by omega
      have hfull : zs.take zs.length = zs := List.take_length
      rw [hfull] at HS
      clear hfull
      have S0 := HS.out
      obtain ⟨A1, c1, rfl⟩ := own_form S0.o1
      obtain ⟨A2, c2, rfl⟩ := own_form S0.o2
      obtain ⟨A3, c3, rfl⟩ := own_form S0.o3
      obtain ⟨A4, c4, rfl⟩ := own_form S0.o4
      obtain ⟨A5, c5, rfl⟩ := own_form S0.o5
      obtain ⟨A6, c6, rfl⟩ := own_form S0.o6
      have x0 : wr.cell? ⟨w.heap.size + 1, 0, none⟩ = some (.int .u8 0) := S0.blk.cell rfl
      have y0 : wr.cell? ⟨w.heap.size, 0, none⟩ = some (.int .u8 0) := S0.res.cell rfl
      have z0 : wr.frozen? ⟨w.heap.size, 0, none⟩ = false := S0.res.frozen 0
      have x1 : wr.cell? ⟨w.heap.size + 1, 1, none⟩ = some (.int .i64 0) := S0.blk.cell rfl
      have y1 : wr.cell? ⟨w.heap.size, 1, none⟩ = some (.int .i64 0) := S0.res.cell rfl
      have z1 : wr.frozen? ⟨w.heap.size, 1, none⟩ = false := S0.res.frozen 1
      have x2 : wr.cell? ⟨w.heap.size + 1, 2, none⟩ = some (.slice A1 zs.length c1) := S0.blk.cell rfl
      have y2 : wr.cell? ⟨w.heap.size, 2, none⟩ = some (.slice none 0 0) := S0.res.cell rfl
      have z2 : wr.frozen? ⟨w.heap.size, 2, none⟩ = false := S0.res.frozen 2
      have x3 : wr.cell? ⟨w.heap.size + 1, 3, none⟩ = some (.slice A2 zs.length c2) := S0.blk.cell rfl
      have y3 : wr.cell? ⟨w.heap.size, 3, none⟩ = some (.slice none 0 0) := S0.res.cell rfl
      have z3 : wr.frozen? ⟨w.heap.size, 3, none⟩ = false := S0.res.frozen 3
      have x4 : wr.cell? ⟨w.heap.size + 1, 4, none⟩ = some (.slice A3 zs.length c3) := S0.blk.cell rfl
      have y4 : wr.cell? ⟨w.heap.size, 4, none⟩ = some (.slice none 0 0) := S0.res.cell rfl
      have z4 : wr.frozen? ⟨w.heap.size, 4, none⟩ = false := S0.res.frozen 4
      have x5 : wr.cell? ⟨w.heap.size + 1, 5, none⟩ = some (.int .i64 3) := S0.blk.cell rfl
      have y5 : wr.cell? ⟨w.heap.size, 5, none⟩ = some (.int .i64 0) := S0.res.cell rfl
      have z5 : wr.frozen? ⟨w.heap.size, 5, none⟩ = false := S0.res.frozen 5
      have x6 : wr.cell? ⟨w.heap.size + 1, 6, none⟩ = some (.slice A4 zs.length c4) := S0.blk.cell rfl
      have y6 : wr.cell? ⟨w.heap.size, 6, none⟩ = some (.slice none 0 0) := S0.res.cell rfl
      have z6 : wr.frozen? ⟨w.heap.size, 6, none⟩ = false := S0.res.frozen 6
      have x7 : wr.cell? ⟨w.heap.size + 1, 7, none⟩ = some (.slice A5 zs.length c5) := S0.blk.cell rfl
      have y7 : wr.cell? ⟨w.heap.size, 7, none⟩ = some (.slice none 0 0) := S0.res.cell rfl
      have z7 : wr.frozen? ⟨w.heap.size, 7, none⟩ = false := S0.res.frozen 7
      have x8 : wr.cell? ⟨w.heap.size + 1, 8, none⟩ = some (.slice A6 zs.length c6) := S0.blk.cell rfl
      have y8 : wr.cell? ⟨w.heap.size, 8, none⟩ = some (.slice none 0 0) := S0.res.cell rfl
      have z8 : wr.frozen? ⟨w.heap.size, 8, none⟩ = false := S0.res.frozen 8
      have B9 : Blk (((((((((wr.setCell ⟨w.heap.size, 0, none⟩ (.int .u8 0)).setCell ⟨w.heap.size, 1, none⟩ (.int .i64 0)).setCell ⟨w.heap.size, 2, none⟩ (.slice A1 zs.length c1)).setCell ⟨w.heap.size, 3, none⟩ (.slice A2 zs.length c2)).setCell ⟨w.heap.size, 4, none⟩ (.slice A3 zs.length c3)).setCell ⟨w.heap.size, 5, none⟩ (.int .i64 3)).setCell ⟨w.heap.size, 6, none⟩ (.slice A4 zs.length c4)).setCell ⟨w.heap.size, 7, none⟩ (.slice A5 zs.length c5)).setCell ⟨w.heap.size, 8, none⟩ (.slice A6 zs.length c6)) w.heap.size 31 #[.int .u8 0, .int .i64 0, .slice A1 zs.length c1, .slice A2 zs.length c2, .slice A3 zs.length c3, .int .i64 3, .slice A4 zs.length c4, .slice A5 zs.length c5, .slice A6 zs.length c6] := by simpa using (((((((((S0.res.set_ 0 (.int .u8 0)).set_ 1 (.int .i64 0)).set_ 2 (.slice A1 zs.length c1)).set_ 3 (.slice A2 zs.length c2)).set_ 4 (.slice A3 zs.length c3)).set_ 5 (.int .i64 3)).set_ 6 (.slice A4 zs.length c4)).set_ 7 (.slice A5 zs.length c5)).set_ 8 (.slice A6 zs.length c6))
      have hS : SixL (((((((((wr.setCell ⟨w.heap.size, 0, none⟩ (.int .u8 0)).setCell ⟨w.heap.size, 1, none⟩ (.int .i64 0)).setCell ⟨w.heap.size, 2, none⟩ (.slice A1 zs.length c1)).setCell ⟨w.heap.size, 3, none⟩ (.slice A2 zs.length c2)).setCell ⟨w.heap.size, 4, none⟩ (.slice A3 zs.length c3)).setCell ⟨w.heap.size, 5, none⟩ (.int .i64 3)).setCell ⟨w.heap.size, 6, none⟩ (.slice A4 zs.length c4)).setCell ⟨w.heap.size, 7, none⟩ (.slice A5 zs.length c5)).setCell ⟨w.heap.size, 8, none⟩ (.slice A6 zs.length c6)) w.heap.size zs (.slice A1 zs.length c1) (.slice A2 zs.length c2) (.slice A3 zs.length c3) (.slice A4 zs.length c4) (.slice A5 zs.length c5) (.slice A6 zs.length c6) := by
        have n1 := own_blk S0.o1 S0.res (by decide)
        have n2 := own_blk S0.o2 S0.res (by decide)
        have n3 := own_blk S0.o3 S0.res (by decide)
        have n4 := own_blk S0.o4 S0.res (by decide)
        have n5 := own_blk S0.o5 S0.res (by decide)
        have n6 := own_blk S0.o6 S0.res (by decide)
        exact ⟨(own_setCell (own_setCell (own_setCell (own_setCell (own_setCell (own_setCell (own_setCell (own_setCell (own_setCell S0.o1 n1 _) n1 _) n1 _) n1 _) n1 _) n1 _) n1 _) n1 _) n1 _), (own_setCell (own_setCell (own_setCell (own_setCell (own_setCell (own_setCell (own_setCell (own_setCell (own_setCell S0.o2 n2 _) n2 _) n2 _) n2 _) n2 _) n2 _) n2 _) n2 _) n2 _), (own_setCell (own_setCell (own_setCell (own_setCell (own_setCell (own_setCell (own_setCell (own_setCell (own_setCell S0.o3 n3 _) n3 _) n3 _) n3 _) n3 _) n3 _) n3 _) n3 _) n3 _), (own_setCell (own_setCell (own_setCell (own_setCell (own_setCell (own_setCell (own_setCell (own_setCell (own_setCell S0.o4 n4 _) n4 _) n4 _) n4 _) n4 _) n4 _) n4 _) n4 _) n4 _), (own_setCell (own_setCell (own_setCell (own_setCell (own_setCell (own_setCell (own_setCell (own_setCell (own_setCell S0.o5 n5 _) n5 _) n5 _) n5 _) n5 _) n5 _) n5 _) n5 _) n5 _), (own_setCell (own_setCell (own_setCell (own_setCell (own_setCell (own_setCell (own_setCell (own_setCell (own_setCell S0.o6 n6 _) n6 _) n6 _) n6 _) n6 _) n6 _) n6 _) n6 _) n6 _), S0.ap, S0.ap'⟩
      have hB : Below w.heap.size w (((((((((wr.setCell ⟨w.heap.size, 0, none⟩ (.int .u8 0)).setCell ⟨w.heap.size, 1, none⟩ (.int .i64 0)).setCell ⟨w.heap.size, 2, none⟩ (.slice A1 zs.length c1)).setCell ⟨w.heap.size, 3, none⟩ (.slice A2 zs.length c2)).setCell ⟨w.heap.size, 4, none⟩ (.slice A3 zs.length c3)).setCell ⟨w.heap.size, 5, none⟩ (.int .i64 3)).setCell ⟨w.heap.size, 6, none⟩ (.slice A4 zs.length c4)).setCell ⟨w.heap.size, 7, none⟩ (.slice A5 zs.length c5)).setCell ⟨w.heap.size, 8, none⟩ (.slice A6 zs.length c6)) := (((((((((hb0.setCell (Nat.le_refl _) _).setCell (Nat.le_refl _) _).setCell (Nat.le_refl _) _).setCell (Nat.le_refl _) _).setCell (Nat.le_refl _) _).setCell (Nat.le_refl _) _).setCell (Nat.le_refl _) _).setCell (Nat.le_refl _) _).setCell (Nat.le_refl _) _)
      have BH := Lib.hid B9
      have SH := Lib.hid hS
      clear S0 B9 hS
      go_wp2
      have B9 := BH.out
      have t0 := B9.cell (j := 0) (u := .int .u8 0) rfl
      have t1 := B9.cell (j := 1) (u := .int .i64 0) rfl
      have t2 := B9.cell (j := 2) (u := .slice A1 zs.length c1) rfl
      have t3 := B9.cell (j := 3) (u := .slice A2 zs.length c2) rfl
      have t4 := B9.cell (j := 4) (u := .slice A3 zs.length c3) rfl
      have t5 := B9.cell (j := 5) (u := .int .i64 3) rfl
      have t6 := B9.cell (j := 6) (u := .slice A4 zs.length c4) rfl
      have t7 := B9.cell (j := 7) (u := .slice A5 zs.length c5) rfl
      have t8 := B9.cell (j := 8) (u := .slice A6 zs.length c6) rfl
      clear B9
      generalize (((((((((wr.setCell ⟨w.heap.size, 0, none⟩ (.int .u8 0)).setCell ⟨w.heap.size, 1, none⟩ (.int .i64 0)).setCell ⟨w.heap.size, 2, none⟩ (.slice A1 zs.length c1)).setCell ⟨w.heap.size, 3, none⟩ (.slice A2 zs.length c2)).setCell ⟨w.heap.size, 4, none⟩ (.slice A3 zs.length c3)).setCell ⟨w.heap.size, 5, none⟩ (.int .i64 3)).setCell ⟨w.heap.size, 6, none⟩ (.slice A4 zs.length c4)).setCell ⟨w.heap.size, 7, none⟩ (.slice A5 zs.length c5)).setCell ⟨w.heap.size, 8, none⟩ (.slice A6 zs.length c6)) = W9 at *
      refine bodyPost_ret (v := .agg #[.int .u8 0, .int .i64 0, .slice A1 zs.length c1, .slice A2 zs.length c2, .slice A3 zs.length c3, .int .i64 3, .slice A4 zs.length c4, .slice A5 zs.length c5, .slice A6 zs.length c6]) (by simp [results, Try.results5, go_sem, t0, t1, t2, t3, t4, t5, t6, t7, t8]) rfl ?_
      exact ⟨_, _, _, _, _, _, rfl, SH.out, hB⟩
end Go.Proofs.Ytfcdfacfdlphfaa

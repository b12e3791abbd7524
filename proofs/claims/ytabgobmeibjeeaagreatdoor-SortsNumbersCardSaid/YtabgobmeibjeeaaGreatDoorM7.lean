/- Proved here: parts of the proof, joined (S44): an abstract machine, its soundness, what functions of the program compute in it; no condition. -/
import Derived.Test.YtabgobmeibjeeaaGreatDoorM6
namespace Go.Proofs.YtabgobmeibjeeaaGreatDoor
set_option linter.unusedSimpArgs false
set_option linter.unusedVariables false
set_option maxRecDepth 10000
set_option maxHeartbeats 4000000

theorem i16_conv {a : Int} (h : -32768 ≤ a ∧ a ≤ 32767) : IntKind.i64.wrap a = a := by rw [IntKind.wrap_i64]; omega
theorem tmod_range (a : Int) : -999 ≤ a.tmod 1000 ∧ a.tmod 1000 ≤ 999 := by
 have h1 := Int.tmod_lt_of_pos a (show (0 : Int) < 1000 by decide)
 have h2 := Int.lt_tmod_of_pos a (show (0 : Int) < 1000 by decide)
 omega
theorem parse3_run {d : Nat} (hd : 12 ≤ d) (S : St) : runF LP NN d 18 [.str ⟨#[83, 57, 57, 57]⟩] S = some (.tup [.agg [.int .u8 4, .int .u8 0, .str ⟨#[83, 57, 57, 57]⟩, .int .i64 3, .int .i64 0, .bool true, .bool false, .bool false, .bool false, .bool false, .int .i64 3], .int .i64 0], S, false) := by
 obtain ⟨d, rfl⟩ : ∃ d', d = d' + 12 := ⟨d - 12, by omega⟩
 exact parse3 d S
theorem b_hi {x : Int} (h : -999 ≤ x ∧ x ≤ 999) : IntKind.u8.wrap (x.fdiv (2 ^ (min 8 IntKind.i64.bits))) = (((UInt8.ofNat (bN x / 256)).toNat : Nat) : Int) := by
 rw [u8_of _ (by unfold bN; split <;> omega), show min 8 IntKind.i64.bits = 8 from rfl, Int.fdiv_eq_ediv_of_nonneg _ (by decide)]
 simp only [IntKind.wrap, IntKind.signed, IntKind.bits, Bool.false_and, Bool.false_eq_true, if_false]
 unfold bN
 split <;> omega
theorem b_lo {x : Int} (h : -999 ≤ x ∧ x ≤ 999) : IntKind.u8.wrap x = (((UInt8.ofNat (bN x % 256)).toNat : Nat) : Int) := by
 rw [u8_of _ (by omega)]
 simp only [IntKind.wrap, IntKind.signed, IntKind.bits, Bool.false_and, Bool.false_eq_true, if_false]
 unfold bN
 split <;> omega

theorem lawNumbers_run {d : Nat} (hd : 32 ≤ d) (S : St) (a b z : Int) (ha : -32768 ≤ a ∧ a ≤ 32767) (hb : -32768 ≤ b ∧ b ≤ 32767) (hz : 0 ≤ z ∧ z ≤ 255) : runF LP NN d 5 [.int .i16 a, .int .i16 b, .int .u8 z] S = some (.bool true, S, false) := by
 obtain ⟨x, hx0⟩ : ∃ x, x = a.tmod 1000 := ⟨_, rfl⟩
 obtain ⟨y, hy0⟩ : ∃ y, y = b.tmod 1000 := ⟨_, rfl⟩
 have hx := tmod_range a
 have hy := tmod_range b
 rw [← hx0] at hx
 rw [← hy0] at hy
 have ca := i16_conv ha
 have cb := i16_conv hb
 have tx : a.tmod 1000 = x := hx0.symm
 have ty : b.tmod 1000 = y := hy0.symm
 obtain ⟨dn, hdn⟩ : ∃ dn, ((IntKind.u8.wrap (z.tdiv 3)).tmod 2 == 1) = dn := ⟨_, rfl⟩
 have h1 := b_hi hx
 have h2 := b_lo hx
 have h3 := b_hi hy
 have h4 := b_lo hy
 refine run_pure (F := F5) rfl (by simp only [LP, fnOf, snapVs, snaps, zs, Bool.false_eq_true, if_false, Option.map_some, List.map_cons, List.map_nil] <;> exact rfl) rfl (by simp only [LP, zf, List.all_cons, List.all_nil, Bool.and_true, Bool.true_and]; try rfl) (by simp only [F5, zv] <;> exact rfl) (by omega) ?_
 rintro d rfl
 refine cw_seq (cw_region ?_)
 refine ow_mc ?_
 refine ow_nil ?_
 refine sk_n (by simp only [ze] <;> exact rfl) ?_
 refine cw_seq (cw_region ?_)
 refine ow_me rfl ?_
 refine ow_op (by simp only [zo, ca, cb, tx, ty, hdn, h1, h2, h3, h4] <;> exact rfl) ?_
 refine ow_op (by simp only [zo, binD, zb, Int.reduceEq, Int.reduceToNat, Int.reduceLT, ca, cb, tx, ty, hdn, h1, h2, h3, h4] <;> exact rfl) ?_
 refine ow_me rfl ?_
 refine ow_op (by simp only [zo, ca, cb, tx, ty, hdn, h1, h2, h3, h4] <;> exact rfl) ?_
 refine ow_op (by simp only [zo, binD, zb, Int.reduceEq, Int.reduceToNat, Int.reduceLT, ca, cb, tx, ty, hdn, h1, h2, h3, h4] <;> exact rfl) ?_
 refine ow_ml rfl ?_
 refine ow_ml rfl ?_
 refine ow_nil ?_
 refine sk_n (by simp only [ze] <;> exact rfl) ?_
 refine cw_seq (cw_region ?_)
 refine ow_op (by simp only [zo, ca, cb, tx, ty, hdn, h1, h2, h3, h4]; exact parse3_run (by omega) _) ?_
 refine ow_ml rfl ?_
 refine ow_op (by simp only [zo, List.getElem?_cons_zero, List.getElem?_cons_succ, ca, cb, tx, ty, hdn, h1, h2, h3, h4] <;> exact rfl) ?_
 refine ow_op (by simp only [zo, List.getElem?_cons_zero, List.getElem?_cons_succ, ca, cb, tx, ty, hdn, h1, h2, h3, h4] <;> exact rfl) ?_
 refine ow_op (by simp only [zl, zm, ca, cb, tx, ty, hdn, h1, h2, h3, h4] <;> exact rfl) ?_
 refine ow_op (by simp only [zl, zm, storeD, overlay, snapVs, snaps, zs, zc, zf, List.take, List.drop, ca, cb, tx, ty, hdn, h1, h2, h3, h4] <;> exact rfl) ?_
 refine ow_ml rfl ?_
 refine ow_nil ?_
 refine sk_n (by simp only [ze] <;> exact rfl) ?_
 refine cw_seq (cw_region ?_)
 refine ow_me rfl ?_
 first
  | refine ow_op (by simp only [zo, ca, cb, tx, ty, hdn, h1, h2, h3, h4]; exact zonedX (by omega) _ x hx) ?_
  | refine ow_op (by simp only [zo, ca, cb, tx, ty, hdn, h1, h2, h3, h4]; exact zonedX (by omega) _ y hy) ?_
 refine ow_me rfl ?_
 first
  | refine ow_op (by simp only [zo, ca, cb, tx, ty, hdn, h1, h2, h3, h4]; exact zonedX (by omega) _ x hx) ?_
  | refine ow_op (by simp only [zo, ca, cb, tx, ty, hdn, h1, h2, h3, h4]; exact zonedX (by omega) _ y hy) ?_
 refine ow_ml rfl ?_
 refine ow_ml rfl ?_
 refine ow_nil ?_
 refine sk_n (by simp only [ze] <;> exact rfl) ?_
 refine cw_seq (cw_seq (cw_region ?_))
 refine ow_me rfl ?_
 refine ow_op (by simp only [zo, binD, zb, Int.reduceEq, Int.reduceToNat, Int.reduceLT, ca, cb, tx, ty, hdn, h1, h2, h3, h4] <;> exact rfl) ?_
 refine ow_nil ?_
 refine sk_n (by simp only [ze] <;> exact rfl) ?_
 refine cw_block (cw_seq (cw_region ?_))
 refine ow_op (by simp only [zo, binD, zb, Int.reduceEq, Int.reduceToNat, Int.reduceLT, ca, cb, tx, ty, hdn, h1, h2, h3, h4] <;> exact rfl) ?_
 refine ow_ml rfl ?_
 refine ow_nil ?_
 refine sk_n (by simp only [ze] <;> exact rfl) ?_
 refine cw_cond (by simp only [opd, zv, ca, cb, tx, ty, hdn, h1, h2, h3, h4] <;> exact rfl) (fun hc => ?_) (fun hc => ?_)
 ·
  refine cw_seq (cw_region ?_)
  refine ow_op (by simp only [zo, faddrD_ptr, faddrD_cptr, zm, ca, cb, tx, ty, hdn, h1, h2, h3, h4] <;> exact rfl) ?_
  refine ow_op (by simp only [zl, zm, storeD, overlay, snapVs, snaps, zs, zc, zf, List.take, List.drop, ca, cb, tx, ty, hdn, h1, h2, h3, h4] <;> exact rfl) ?_
  refine ow_nil ?_
  refine sk_n (by simp only [ze] <;> exact rfl) ?_
  refine cw_seq (cw_region ?_)
  refine ow_op (by simp only [zo, faddrD_ptr, faddrD_cptr, zm, ca, cb, tx, ty, hdn, h1, h2, h3, h4] <;> exact rfl) ?_
  refine ow_op (by simp only [zl, zm, storeD, overlay, snapVs, snaps, zs, zc, zf, List.take, List.drop, ca, cb, tx, ty, hdn, h1, h2, h3, h4] <;> exact rfl) ?_
  refine ow_nil ?_
  refine sk_n (by simp only [ze] <;> exact rfl) ?_
  refine cw_region ?_
  refine ow_me rfl ?_
  first
   | refine ow_op (by simp only [zo, ca, cb, tx, ty, hdn, h1, h2, h3, h4]; exact packedX (by omega) _ x hx) ?_
   | refine ow_op (by simp only [zo, ca, cb, tx, ty, hdn, h1, h2, h3, h4]; exact packedX (by omega) _ y hy) ?_
  refine ow_me rfl ?_
  first
   | refine ow_op (by simp only [zo, ca, cb, tx, ty, hdn, h1, h2, h3, h4]; exact packedX (by omega) _ x hx) ?_
   | refine ow_op (by simp only [zo, ca, cb, tx, ty, hdn, h1, h2, h3, h4]; exact packedX (by omega) _ y hy) ?_
  refine ow_ml rfl ?_
  refine ow_ml rfl ?_
  refine ow_nil (bk_n ?_)
  refine sk_n (by simp only [ze] <;> exact rfl) ?_
  refine cw_seq (cw_region ?_)
  refine ow_me rfl ?_
  refine ow_op (by simp only [zo, binD, zb, Int.reduceEq, Int.reduceToNat, Int.reduceLT, ca, cb, tx, ty, hdn, h1, h2, h3, h4] <;> exact rfl) ?_
  refine ow_op (by simp only [zo, binD, zb, Int.reduceEq, Int.reduceToNat, Int.reduceLT, ca, cb, tx, ty, hdn, h1, h2, h3, h4] <;> exact rfl) ?_
  refine ow_op (by simp only [zo, binD, zb, Int.reduceEq, Int.reduceToNat, Int.reduceLT, ca, cb, tx, ty, hdn, h1, h2, h3, h4] <;> exact rfl) ?_
  refine ow_ml rfl ?_
  refine ow_nil ?_
  refine sk_n (by simp only [ze] <;> exact rfl) ?_
  refine cw_seq (cw_region ?_)
  refine ow_op (by simp only [zo, faddrD_ptr, faddrD_cptr, zm, ca, cb, tx, ty, hdn, h1, h2, h3, h4] <;> exact rfl) ?_
  refine ow_op (by simp only [zl, zm, zd, partD, List.take, List.drop, ca, cb, tx, ty, hdn, h1, h2, h3, h4] <;> exact rfl) ?_
  refine ow_op (by simp only [zo, fillD, overlay, zc, List.take, List.drop, Nat.reduceAdd, Nat.reduceLeDiff, Nat.reduceBEq, zm, ca, cb, tx, ty, hdn, h1, h2, h3, h4] <;> exact rfl) ?_
  refine ow_op (by simp only [zl, zm, zd, partD, List.take, List.drop, ca, cb, tx, ty, hdn, h1, h2, h3, h4] <;> exact rfl) ?_
  refine ow_me rfl ?_
  refine ow_op (by simp only [zo, fillD, overlay, zc, List.take, List.drop, Nat.reduceAdd, Nat.reduceLeDiff, Nat.reduceBEq, zm, ca, cb, tx, ty, hdn, h1, h2, h3, h4] <;> exact rfl) ?_
  refine ow_op (by simp only [zl, zm, fillRows, List.replicate, snapVs, snaps, zs, zc, zf, ca, cb, tx, ty, hdn, h1, h2, h3, h4] <;> exact rfl) ?_
  refine ow_ml rfl ?_
  refine ow_nil ?_
  refine sk_n (by simp only [ze] <;> exact rfl) ?_
  refine cw_seq (cw_region ?_)
  refine ow_me rfl ?_
  refine ow_op (by simp only [zo, faddrD_ptr, faddrD_cptr, zm, ca, cb, tx, ty, hdn, h1, h2, h3, h4] <;> exact rfl) ?_
  refine ow_op (by simp only [zl, zm, zd, partD, List.take, List.drop, ca, cb, tx, ty, hdn, h1, h2, h3, h4] <;> exact rfl) ?_
  refine ow_me rfl ?_
  refine ow_me rfl ?_
  refine ow_op (by simp only [zo, ca, cb, tx, ty, hdn, h1, h2, h3, h4]; exact us1.cmp hx hy dn (.of 14 (keRows [kS 1 2 dn]) (some 1)) _ _ (by omega) _) ?_
  refine ow_ml rfl ?_
  refine ow_op (by simp only [zo, List.getElem?_cons_zero, List.getElem?_cons_succ, ca, cb, tx, ty, hdn, h1, h2, h3, h4] <;> exact rfl) ?_
  refine ow_op (by simp only [zo, List.getElem?_cons_zero, List.getElem?_cons_succ, ca, cb, tx, ty, hdn, h1, h2, h3, h4] <;> exact rfl) ?_
  refine ow_ml rfl ?_
  refine ow_ml rfl ?_
  refine ow_nil ?_
  refine sk_n (by simp only [ze] <;> exact rfl) ?_
  refine cw_seq (cw_region ?_)
  refine ow_mc ?_
  refine ow_nil ?_
  refine sk_n (by simp only [ze] <;> exact rfl) ?_
  refine cw_seq (cw_seq (cw_region ?_))
  refine ow_me rfl ?_
  refine ow_me rfl ?_
  refine ow_op (by simp only [zo, binD, zb, Int.reduceEq, Int.reduceToNat, Int.reduceLT, ca, cb, tx, ty, hdn, h1, h2, h3, h4] <;> exact rfl) ?_
  refine ow_nil ?_
  refine sk_n (by simp only [ze] <;> exact rfl) ?_
  refine cw_cond (by simp only [opd, zv, ca, cb, tx, ty, hdn, h1, h2, h3, h4] <;> exact rfl) (fun hcT => ?_) (fun hcT => ?_)
  ·
   have hlt : x < y := of_decide_eq_true hcT
   have hcv := cmpI_lt hlt
   refine cw_region ?_
   refine ow_mc ?_
   refine ow_nil ?_
   refine sk_n (by simp only [ze] <;> exact rfl) ?_
   refine cw_seq (cw_seq (cw_region ?_))
   refine ow_me rfl ?_
   refine ow_nil ?_
   refine sk_n (by simp only [ze] <;> exact rfl) ?_
   refine cw_cond (by simp only [opd, zv, ca, cb, tx, ty, hdn, h1, h2, h3, h4] <;> exact rfl) (fun hcTT => ?_) (fun hcTT => ?_)
   ·
    have hd2 : dn = true := hcTT
    have hf : (firstC [(cmpI x y, dn)] == 1) = true := by rw [hcv, hd2]; rfl
    have hw : IntKind.i64.wrap (0 - (-1)) = 1 := by rfl
    have e0 : ((0 : Int) == 0) = true := rfl
    refine cw_region ?_
    refine ow_me rfl ?_
    refine ow_op (by simp only [zo, unD, ca, cb, tx, ty, hdn, h1, h2, h3, h4, hw, hf, e0] <;> exact rfl) ?_
    refine ow_ml rfl ?_
    refine ow_nil ?_
    refine sk_n (by simp only [ze] <;> exact rfl) ?_
    refine cw_seq (cw_region ?_)
    refine ow_me rfl ?_
    refine ow_op (by simp only [zo, binD, zb, Int.reduceEq, Int.reduceToNat, Int.reduceLT, ca, cb, tx, ty, hdn, h1, h2, h3, h4, hw, hf, e0] <;> exact rfl) ?_
    refine ow_ml rfl ?_
    refine ow_know 0 (b := true) (by simp only [opd, zv, ca, cb, tx, ty, hdn, h1, h2, h3, h4, hw, hf, e0] <;> rfl) (by simp only [zn] <;> exact rfl) ?_
    refine ow_on (by simp only [opd, zv]) ?_
    refine ow_me rfl ?_
    refine ow_on (by simp only [opd, zv]) ?_
    refine ow_me rfl ?_
    refine ow_on (by simp only [opd, zv]) ?_
    refine ow_op (by simp only [zo, binD, zb, Int.reduceEq, Int.reduceToNat, Int.reduceLT, ca, cb, tx, ty, hdn, h1, h2, h3, h4, hw, hf, e0] <;> exact rfl) ?_
    refine ow_op (by simp only [zo, ca, cb, tx, ty, hdn, h1, h2, h3, h4, hw, hf, e0] <;> exact rfl) ?_
    refine ow_ml rfl ?_
    refine ow_know 0 (b := true) (by simp only [opd, zv, ca, cb, tx, ty, hdn, h1, h2, h3, h4, hw, hf, e0] <;> rfl) (by simp only [zn] <;> exact rfl) ?_
    refine ow_on (by simp only [opd, zv]) ?_
    refine ow_op (by simp only [zo, ca, cb, tx, ty, hdn, h1, h2, h3, h4, hw, hf, e0]; exact livesD (by omega) _) ?_
    refine ow_op (by simp only [zo, ca, cb, tx, ty, hdn, h1, h2, h3, h4, hw, hf, e0] <;> exact rfl) ?_
    refine ow_ml rfl ?_
    refine ow_nil ?_
    refine sk_n (by simp only [ze] <;> exact rfl) ?_
    refine cw_ret ?_
    refine ⟨_, by simp only [F5, resultD, resDs, resD, List.getD_cons_zero, List.getD_cons_succ, zd, rowsOf, partD, List.getElem?_cons_zero, List.getElem?_cons_succ, if_true, if_false, Bool.false_eq_true, List.take, List.drop, zm] <;> exact rfl, ?_⟩
    simp only [leaveP, leave, snapVs, snaps, zs, zf, zk]
   ·
    have hd2 : dn = false := hcTT
    have hf : (firstC [(cmpI x y, dn)] == -1) = true := by rw [hcv, hd2]; rfl
    have hw : IntKind.i64.wrap (0 - (-1)) = 1 := by rfl
    have e0 : ((0 : Int) == 0) = true := rfl
    refine cw_skip (sk_n rfl (cw_seq (cw_region ?_)))
    refine ow_me rfl ?_
    refine ow_op (by simp only [zo, binD, zb, Int.reduceEq, Int.reduceToNat, Int.reduceLT, ca, cb, tx, ty, hdn, h1, h2, h3, h4, hw, hf, e0] <;> exact rfl) ?_
    refine ow_ml rfl ?_
    refine ow_know 0 (b := true) (by simp only [opd, zv, ca, cb, tx, ty, hdn, h1, h2, h3, h4, hw, hf, e0] <;> rfl) (by simp only [zn] <;> exact rfl) ?_
    refine ow_on (by simp only [opd, zv]) ?_
    refine ow_me rfl ?_
    refine ow_on (by simp only [opd, zv]) ?_
    refine ow_me rfl ?_
    refine ow_on (by simp only [opd, zv]) ?_
    refine ow_op (by simp only [zo, binD, zb, Int.reduceEq, Int.reduceToNat, Int.reduceLT, ca, cb, tx, ty, hdn, h1, h2, h3, h4, hw, hf, e0] <;> exact rfl) ?_
    refine ow_op (by simp only [zo, ca, cb, tx, ty, hdn, h1, h2, h3, h4, hw, hf, e0] <;> exact rfl) ?_
    refine ow_ml rfl ?_
    refine ow_know 0 (b := true) (by simp only [opd, zv, ca, cb, tx, ty, hdn, h1, h2, h3, h4, hw, hf, e0] <;> rfl) (by simp only [zn] <;> exact rfl) ?_
    refine ow_on (by simp only [opd, zv]) ?_
    refine ow_op (by simp only [zo, ca, cb, tx, ty, hdn, h1, h2, h3, h4, hw, hf, e0]; exact livesD (by omega) _) ?_
    refine ow_op (by simp only [zo, ca, cb, tx, ty, hdn, h1, h2, h3, h4, hw, hf, e0] <;> exact rfl) ?_
    refine ow_ml rfl ?_
    refine ow_nil ?_
    refine sk_n (by simp only [ze] <;> exact rfl) ?_
    refine cw_ret ?_
    refine ⟨_, by simp only [F5, resultD, resDs, resD, List.getD_cons_zero, List.getD_cons_succ, zd, rowsOf, partD, List.getElem?_cons_zero, List.getElem?_cons_succ, if_true, if_false, Bool.false_eq_true, List.take, List.drop, zm] <;> exact rfl, ?_⟩
    simp only [leaveP, leave, snapVs, snaps, zs, zf, zk]
  ·
   have hge : ¬ x < y := of_decide_eq_false hcT
   refine cw_seq (cw_region ?_)
   refine ow_me rfl ?_
   refine ow_me rfl ?_
   refine ow_op (by simp only [zo, binD, zb, Int.reduceEq, Int.reduceToNat, Int.reduceLT, ca, cb, tx, ty, hdn, h1, h2, h3, h4] <;> exact rfl) ?_
   refine ow_nil ?_
   refine sk_n (by simp only [ze] <;> exact rfl) ?_
   refine cw_cond (by simp only [opd, zv, ca, cb, tx, ty, hdn, h1, h2, h3, h4] <;> exact rfl) (fun hcTF => ?_) (fun hcTF => ?_)
   ·
    have hgt : y < x := of_decide_eq_true hcTF
    have hcv := cmpI_gt hgt
    refine cw_region ?_
    refine ow_mc ?_
    refine ow_nil ?_
    refine sk_n (by simp only [ze] <;> exact rfl) ?_
    refine cw_seq (cw_seq (cw_region ?_))
    refine ow_me rfl ?_
    refine ow_nil ?_
    refine sk_n (by simp only [ze] <;> exact rfl) ?_
    refine cw_cond (by simp only [opd, zv, ca, cb, tx, ty, hdn, h1, h2, h3, h4] <;> exact rfl) (fun hcTFT => ?_) (fun hcTFT => ?_)
    ·
     have hd2 : dn = true := hcTFT
     have hf : (firstC [(cmpI x y, dn)] == -1) = true := by rw [hcv, hd2]; rfl
     have hw : IntKind.i64.wrap (0 - (1)) = -1 := by rfl
     have e0 : ((0 : Int) == 0) = true := rfl
     refine cw_region ?_
     refine ow_me rfl ?_
     refine ow_op (by simp only [zo, unD, ca, cb, tx, ty, hdn, h1, h2, h3, h4, hw, hf, e0] <;> exact rfl) ?_
     refine ow_ml rfl ?_
     refine ow_nil ?_
     refine sk_n (by simp only [ze] <;> exact rfl) ?_
     refine cw_seq (cw_region ?_)
     refine ow_me rfl ?_
     refine ow_op (by simp only [zo, binD, zb, Int.reduceEq, Int.reduceToNat, Int.reduceLT, ca, cb, tx, ty, hdn, h1, h2, h3, h4, hw, hf, e0] <;> exact rfl) ?_
     refine ow_ml rfl ?_
     refine ow_know 0 (b := true) (by simp only [opd, zv, ca, cb, tx, ty, hdn, h1, h2, h3, h4, hw, hf, e0] <;> rfl) (by simp only [zn] <;> exact rfl) ?_
     refine ow_on (by simp only [opd, zv]) ?_
     refine ow_me rfl ?_
     refine ow_on (by simp only [opd, zv]) ?_
     refine ow_me rfl ?_
     refine ow_on (by simp only [opd, zv]) ?_
     refine ow_op (by simp only [zo, binD, zb, Int.reduceEq, Int.reduceToNat, Int.reduceLT, ca, cb, tx, ty, hdn, h1, h2, h3, h4, hw, hf, e0] <;> exact rfl) ?_
     refine ow_op (by simp only [zo, ca, cb, tx, ty, hdn, h1, h2, h3, h4, hw, hf, e0] <;> exact rfl) ?_
     refine ow_ml rfl ?_
     refine ow_know 0 (b := true) (by simp only [opd, zv, ca, cb, tx, ty, hdn, h1, h2, h3, h4, hw, hf, e0] <;> rfl) (by simp only [zn] <;> exact rfl) ?_
     refine ow_on (by simp only [opd, zv]) ?_
     refine ow_op (by simp only [zo, ca, cb, tx, ty, hdn, h1, h2, h3, h4, hw, hf, e0]; exact livesD (by omega) _) ?_
     refine ow_op (by simp only [zo, ca, cb, tx, ty, hdn, h1, h2, h3, h4, hw, hf, e0] <;> exact rfl) ?_
     refine ow_ml rfl ?_
     refine ow_nil ?_
     refine sk_n (by simp only [ze] <;> exact rfl) ?_
     refine cw_ret ?_
     refine ⟨_, by simp only [F5, resultD, resDs, resD, List.getD_cons_zero, List.getD_cons_succ, zd, rowsOf, partD, List.getElem?_cons_zero, List.getElem?_cons_succ, if_true, if_false, Bool.false_eq_true, List.take, List.drop, zm] <;> exact rfl, ?_⟩
     simp only [leaveP, leave, snapVs, snaps, zs, zf, zk]
    ·
     have hd2 : dn = false := hcTFT
     have hf : (firstC [(cmpI x y, dn)] == 1) = true := by rw [hcv, hd2]; rfl
     have hw : IntKind.i64.wrap (0 - (1)) = -1 := by rfl
     have e0 : ((0 : Int) == 0) = true := rfl
     refine cw_skip (sk_n rfl (cw_seq (cw_region ?_)))
     refine ow_me rfl ?_
     refine ow_op (by simp only [zo, binD, zb, Int.reduceEq, Int.reduceToNat, Int.reduceLT, ca, cb, tx, ty, hdn, h1, h2, h3, h4, hw, hf, e0] <;> exact rfl) ?_
     refine ow_ml rfl ?_
     refine ow_know 0 (b := true) (by simp only [opd, zv, ca, cb, tx, ty, hdn, h1, h2, h3, h4, hw, hf, e0] <;> rfl) (by simp only [zn] <;> exact rfl) ?_
     refine ow_on (by simp only [opd, zv]) ?_
     refine ow_me rfl ?_
     refine ow_on (by simp only [opd, zv]) ?_
     refine ow_me rfl ?_
     refine ow_on (by simp only [opd, zv]) ?_
     refine ow_op (by simp only [zo, binD, zb, Int.reduceEq, Int.reduceToNat, Int.reduceLT, ca, cb, tx, ty, hdn, h1, h2, h3, h4, hw, hf, e0] <;> exact rfl) ?_
     refine ow_op (by simp only [zo, ca, cb, tx, ty, hdn, h1, h2, h3, h4, hw, hf, e0] <;> exact rfl) ?_
     refine ow_ml rfl ?_
     refine ow_know 0 (b := true) (by simp only [opd, zv, ca, cb, tx, ty, hdn, h1, h2, h3, h4, hw, hf, e0] <;> rfl) (by simp only [zn] <;> exact rfl) ?_
     refine ow_on (by simp only [opd, zv]) ?_
     refine ow_op (by simp only [zo, ca, cb, tx, ty, hdn, h1, h2, h3, h4, hw, hf, e0]; exact livesD (by omega) _) ?_
     refine ow_op (by simp only [zo, ca, cb, tx, ty, hdn, h1, h2, h3, h4, hw, hf, e0] <;> exact rfl) ?_
     refine ow_ml rfl ?_
     refine ow_nil ?_
     refine sk_n (by simp only [ze] <;> exact rfl) ?_
     refine cw_ret ?_
     refine ⟨_, by simp only [F5, resultD, resDs, resD, List.getD_cons_zero, List.getD_cons_succ, zd, rowsOf, partD, List.getElem?_cons_zero, List.getElem?_cons_succ, if_true, if_false, Bool.false_eq_true, List.take, List.drop, zm] <;> exact rfl, ?_⟩
     simp only [leaveP, leave, snapVs, snaps, zs, zf, zk]
   ·
    have hcv : cmpI x y = 0 := cmpI_eq (by have := of_decide_eq_false hcTF; omega)
    refine cw_skip (sk_n rfl (cw_seq (cw_seq (cw_region ?_))))
    refine ow_me rfl ?_
    refine ow_nil ?_
    refine sk_n (by simp only [ze] <;> exact rfl) ?_
    refine cw_cond (by simp only [opd, zv, ca, cb, tx, ty, hdn, h1, h2, h3, h4] <;> exact rfl) (fun hcTFF => ?_) (fun hcTFF => ?_)
    ·
     have hd2 : dn = true := hcTFF
     have hf : (firstC [(cmpI x y, dn)] == 0) = true := by rw [hcv, hd2]; rfl
     have hw : IntKind.i64.wrap (0 - (0)) = 0 := by rfl
     have e0 : ((0 : Int) == 0) = true := rfl
     refine cw_region ?_
     refine ow_me rfl ?_
     refine ow_op (by simp only [zo, unD, ca, cb, tx, ty, hdn, h1, h2, h3, h4, hw, hf, e0] <;> exact rfl) ?_
     refine ow_ml rfl ?_
     refine ow_nil ?_
     refine sk_n (by simp only [ze] <;> exact rfl) ?_
     refine cw_seq (cw_region ?_)
     refine ow_me rfl ?_
     refine ow_op (by simp only [zo, binD, zb, Int.reduceEq, Int.reduceToNat, Int.reduceLT, ca, cb, tx, ty, hdn, h1, h2, h3, h4, hw, hf, e0] <;> exact rfl) ?_
     refine ow_ml rfl ?_
     refine ow_know 0 (b := true) (by simp only [opd, zv, ca, cb, tx, ty, hdn, h1, h2, h3, h4, hw, hf, e0] <;> rfl) (by simp only [zn] <;> exact rfl) ?_
     refine ow_on (by simp only [opd, zv]) ?_
     refine ow_me rfl ?_
     refine ow_on (by simp only [opd, zv]) ?_
     refine ow_me rfl ?_
     refine ow_on (by simp only [opd, zv]) ?_
     refine ow_op (by simp only [zo, binD, zb, Int.reduceEq, Int.reduceToNat, Int.reduceLT, ca, cb, tx, ty, hdn, h1, h2, h3, h4, hw, hf, e0] <;> exact rfl) ?_
     refine ow_op (by simp only [zo, ca, cb, tx, ty, hdn, h1, h2, h3, h4, hw, hf, e0] <;> exact rfl) ?_
     refine ow_ml rfl ?_
     refine ow_know 0 (b := true) (by simp only [opd, zv, ca, cb, tx, ty, hdn, h1, h2, h3, h4, hw, hf, e0] <;> rfl) (by simp only [zn] <;> exact rfl) ?_
     refine ow_on (by simp only [opd, zv]) ?_
     refine ow_op (by simp only [zo, ca, cb, tx, ty, hdn, h1, h2, h3, h4, hw, hf, e0]; exact livesD (by omega) _) ?_
     refine ow_op (by simp only [zo, ca, cb, tx, ty, hdn, h1, h2, h3, h4, hw, hf, e0] <;> exact rfl) ?_
     refine ow_ml rfl ?_
     refine ow_nil ?_
     refine sk_n (by simp only [ze] <;> exact rfl) ?_
     refine cw_ret ?_
     refine ⟨_, by simp only [F5, resultD, resDs, resD, List.getD_cons_zero, List.getD_cons_succ, zd, rowsOf, partD, List.getElem?_cons_zero, List.getElem?_cons_succ, if_true, if_false, Bool.false_eq_true, List.take, List.drop, zm] <;> exact rfl, ?_⟩
     simp only [leaveP, leave, snapVs, snaps, zs, zf, zk]
    ·
     have hd2 : dn = false := hcTFF
     have hf : (firstC [(cmpI x y, dn)] == 0) = true := by rw [hcv, hd2]; rfl
     have hw : IntKind.i64.wrap (0 - (0)) = 0 := by rfl
     have e0 : ((0 : Int) == 0) = true := rfl
     refine cw_skip (sk_n rfl (cw_seq (cw_region ?_)))
     refine ow_me rfl ?_
     refine ow_op (by simp only [zo, binD, zb, Int.reduceEq, Int.reduceToNat, Int.reduceLT, ca, cb, tx, ty, hdn, h1, h2, h3, h4, hw, hf, e0] <;> exact rfl) ?_
     refine ow_ml rfl ?_
     refine ow_know 0 (b := true) (by simp only [opd, zv, ca, cb, tx, ty, hdn, h1, h2, h3, h4, hw, hf, e0] <;> rfl) (by simp only [zn] <;> exact rfl) ?_
     refine ow_on (by simp only [opd, zv]) ?_
     refine ow_me rfl ?_
     refine ow_on (by simp only [opd, zv]) ?_
     refine ow_me rfl ?_
     refine ow_on (by simp only [opd, zv]) ?_
     refine ow_op (by simp only [zo, binD, zb, Int.reduceEq, Int.reduceToNat, Int.reduceLT, ca, cb, tx, ty, hdn, h1, h2, h3, h4, hw, hf, e0] <;> exact rfl) ?_
     refine ow_op (by simp only [zo, ca, cb, tx, ty, hdn, h1, h2, h3, h4, hw, hf, e0] <;> exact rfl) ?_
     refine ow_ml rfl ?_
     refine ow_know 0 (b := true) (by simp only [opd, zv, ca, cb, tx, ty, hdn, h1, h2, h3, h4, hw, hf, e0] <;> rfl) (by simp only [zn] <;> exact rfl) ?_
     refine ow_on (by simp only [opd, zv]) ?_
     refine ow_op (by simp only [zo, ca, cb, tx, ty, hdn, h1, h2, h3, h4, hw, hf, e0]; exact livesD (by omega) _) ?_
     refine ow_op (by simp only [zo, ca, cb, tx, ty, hdn, h1, h2, h3, h4, hw, hf, e0] <;> exact rfl) ?_
     refine ow_ml rfl ?_
     refine ow_nil ?_
     refine sk_n (by simp only [ze] <;> exact rfl) ?_
     refine cw_ret ?_
     refine ⟨_, by simp only [F5, resultD, resDs, resD, List.getD_cons_zero, List.getD_cons_succ, zd, rowsOf, partD, List.getElem?_cons_zero, List.getElem?_cons_succ, if_true, if_false, Bool.false_eq_true, List.take, List.drop, zm] <;> exact rfl, ?_⟩
     simp only [leaveP, leave, snapVs, snaps, zs, zf, zk]
 ·
  refine cw_seq (cw_region ?_)
  refine ow_op (by simp only [zo, binD, zb, Int.reduceEq, Int.reduceToNat, Int.reduceLT, ca, cb, tx, ty, hdn, h1, h2, h3, h4] <;> exact rfl) ?_
  refine ow_ml rfl ?_
  refine ow_nil ?_
  refine sk_n (by simp only [ze] <;> exact rfl) ?_
  refine cw_cond (by simp only [opd, zv, ca, cb, tx, ty, hdn, h1, h2, h3, h4] <;> exact rfl) (fun hcF => ?_) (fun hcF => ?_)
  ·
   refine cw_seq (cw_region ?_)
   refine ow_op (by simp only [zo, faddrD_ptr, faddrD_cptr, zm, ca, cb, tx, ty, hdn, h1, h2, h3, h4] <;> exact rfl) ?_
   refine ow_op (by simp only [zl, zm, storeD, overlay, snapVs, snaps, zs, zc, zf, List.take, List.drop, ca, cb, tx, ty, hdn, h1, h2, h3, h4] <;> exact rfl) ?_
   refine ow_nil ?_
   refine sk_n (by simp only [ze] <;> exact rfl) ?_
   refine cw_seq (cw_region ?_)
   refine ow_op (by simp only [zo, faddrD_ptr, faddrD_cptr, zm, ca, cb, tx, ty, hdn, h1, h2, h3, h4] <;> exact rfl) ?_
   refine ow_op (by simp only [zl, zm, storeD, overlay, snapVs, snaps, zs, zc, zf, List.take, List.drop, ca, cb, tx, ty, hdn, h1, h2, h3, h4] <;> exact rfl) ?_
   refine ow_nil ?_
   refine sk_n (by simp only [ze] <;> exact rfl) ?_
   refine cw_region ?_
   refine ow_me rfl ?_
   refine ow_op (by simp only [zo, binD, zb, Int.reduceEq, Int.reduceToNat, Int.reduceLT, ca, cb, tx, ty, hdn, h1, h2, h3, h4] <;> exact rfl) ?_
   refine ow_op (by simp only [zo, ca, cb, tx, ty, hdn, h1, h2, h3, h4] <;> exact rfl) ?_
   refine ow_me rfl ?_
   refine ow_op (by simp only [zo, ca, cb, tx, ty, hdn, h1, h2, h3, h4] <;> exact rfl) ?_
   refine ow_op (by simp only [zl, zm, fillRows, List.replicate, snapVs, snaps, zs, zc, zf, ca, cb, tx, ty, hdn, h1, h2, h3, h4] <;> exact rfl) ?_
   refine ow_me rfl ?_
   refine ow_op (by simp only [zo, binD, zb, Int.reduceEq, Int.reduceToNat, Int.reduceLT, ca, cb, tx, ty, hdn, h1, h2, h3, h4] <;> exact rfl) ?_
   refine ow_op (by simp only [zo, ca, cb, tx, ty, hdn, h1, h2, h3, h4] <;> exact rfl) ?_
   refine ow_me rfl ?_
   refine ow_op (by simp only [zo, ca, cb, tx, ty, hdn, h1, h2, h3, h4] <;> exact rfl) ?_
   refine ow_op (by simp only [zl, zm, fillRows, List.replicate, snapVs, snaps, zs, zc, zf, ca, cb, tx, ty, hdn, h1, h2, h3, h4] <;> exact rfl) ?_
   refine ow_ml rfl ?_
   refine ow_ml rfl ?_
   refine ow_nil (bk_n ?_)
   refine sk_n (by simp only [ze] <;> exact rfl) ?_
   refine cw_seq (cw_region ?_)
   refine ow_me rfl ?_
   refine ow_op (by simp only [zo, binD, zb, Int.reduceEq, Int.reduceToNat, Int.reduceLT, ca, cb, tx, ty, hdn, h1, h2, h3, h4] <;> exact rfl) ?_
   refine ow_op (by simp only [zo, binD, zb, Int.reduceEq, Int.reduceToNat, Int.reduceLT, ca, cb, tx, ty, hdn, h1, h2, h3, h4] <;> exact rfl) ?_
   refine ow_op (by simp only [zo, binD, zb, Int.reduceEq, Int.reduceToNat, Int.reduceLT, ca, cb, tx, ty, hdn, h1, h2, h3, h4] <;> exact rfl) ?_
   refine ow_ml rfl ?_
   refine ow_nil ?_
   refine sk_n (by simp only [ze] <;> exact rfl) ?_
   refine cw_seq (cw_region ?_)
   refine ow_op (by simp only [zo, faddrD_ptr, faddrD_cptr, zm, ca, cb, tx, ty, hdn, h1, h2, h3, h4] <;> exact rfl) ?_
   refine ow_op (by simp only [zl, zm, zd, partD, List.take, List.drop, ca, cb, tx, ty, hdn, h1, h2, h3, h4] <;> exact rfl) ?_
   refine ow_op (by simp only [zo, fillD, overlay, zc, List.take, List.drop, Nat.reduceAdd, Nat.reduceLeDiff, Nat.reduceBEq, zm, ca, cb, tx, ty, hdn, h1, h2, h3, h4] <;> exact rfl) ?_
   refine ow_op (by simp only [zl, zm, zd, partD, List.take, List.drop, ca, cb, tx, ty, hdn, h1, h2, h3, h4] <;> exact rfl) ?_
   refine ow_me rfl ?_
   refine ow_op (by simp only [zo, fillD, overlay, zc, List.take, List.drop, Nat.reduceAdd, Nat.reduceLeDiff, Nat.reduceBEq, zm, ca, cb, tx, ty, hdn, h1, h2, h3, h4] <;> exact rfl) ?_
   refine ow_op (by simp only [zl, zm, fillRows, List.replicate, snapVs, snaps, zs, zc, zf, ca, cb, tx, ty, hdn, h1, h2, h3, h4] <;> exact rfl) ?_
   refine ow_ml rfl ?_
   refine ow_nil ?_
   refine sk_n (by simp only [ze] <;> exact rfl) ?_
   refine cw_seq (cw_region ?_)
   refine ow_me rfl ?_
   refine ow_op (by simp only [zo, faddrD_ptr, faddrD_cptr, zm, ca, cb, tx, ty, hdn, h1, h2, h3, h4] <;> exact rfl) ?_
   refine ow_op (by simp only [zl, zm, zd, partD, List.take, List.drop, ca, cb, tx, ty, hdn, h1, h2, h3, h4] <;> exact rfl) ?_
   refine ow_me rfl ?_
   refine ow_me rfl ?_
   refine ow_op (by simp only [zo, ca, cb, tx, ty, hdn, h1, h2, h3, h4]; exact us2.cmp hx hy dn (.of 14 (keRows [kS 2 2 dn]) (some 1)) _ _ (by omega) _) ?_
   refine ow_ml rfl ?_
   refine ow_op (by simp only [zo, List.getElem?_cons_zero, List.getElem?_cons_succ, ca, cb, tx, ty, hdn, h1, h2, h3, h4] <;> exact rfl) ?_
   refine ow_op (by simp only [zo, List.getElem?_cons_zero, List.getElem?_cons_succ, ca, cb, tx, ty, hdn, h1, h2, h3, h4] <;> exact rfl) ?_
   refine ow_ml rfl ?_
   refine ow_ml rfl ?_
   refine ow_nil ?_
   refine sk_n (by simp only [ze] <;> exact rfl) ?_
   refine cw_seq (cw_region ?_)
   refine ow_mc ?_
   refine ow_nil ?_
   refine sk_n (by simp only [ze] <;> exact rfl) ?_
   refine cw_seq (cw_seq (cw_region ?_))
   refine ow_me rfl ?_
   refine ow_me rfl ?_
   refine ow_op (by simp only [zo, binD, zb, Int.reduceEq, Int.reduceToNat, Int.reduceLT, ca, cb, tx, ty, hdn, h1, h2, h3, h4] <;> exact rfl) ?_
   refine ow_nil ?_
   refine sk_n (by simp only [ze] <;> exact rfl) ?_
   refine cw_cond (by simp only [opd, zv, ca, cb, tx, ty, hdn, h1, h2, h3, h4] <;> exact rfl) (fun hcFT => ?_) (fun hcFT => ?_)
   ·
    have hlt : x < y := of_decide_eq_true hcFT
    have hcv := cmpI_lt hlt
    refine cw_region ?_
    refine ow_mc ?_
    refine ow_nil ?_
    refine sk_n (by simp only [ze] <;> exact rfl) ?_
    refine cw_seq (cw_seq (cw_region ?_))
    refine ow_me rfl ?_
    refine ow_nil ?_
    refine sk_n (by simp only [ze] <;> exact rfl) ?_
    refine cw_cond (by simp only [opd, zv, ca, cb, tx, ty, hdn, h1, h2, h3, h4] <;> exact rfl) (fun hcFTT => ?_) (fun hcFTT => ?_)
    ·
     have hd2 : dn = true := hcFTT
     have hf : (firstC [(cmpI x y, dn)] == 1) = true := by rw [hcv, hd2]; rfl
     have hw : IntKind.i64.wrap (0 - (-1)) = 1 := by rfl
     have e0 : ((0 : Int) == 0) = true := rfl
     refine cw_region ?_
     refine ow_me rfl ?_
     refine ow_op (by simp only [zo, unD, ca, cb, tx, ty, hdn, h1, h2, h3, h4, hw, hf, e0] <;> exact rfl) ?_
     refine ow_ml rfl ?_
     refine ow_nil ?_
     refine sk_n (by simp only [ze] <;> exact rfl) ?_
     refine cw_seq (cw_region ?_)
     refine ow_me rfl ?_
     refine ow_op (by simp only [zo, binD, zb, Int.reduceEq, Int.reduceToNat, Int.reduceLT, ca, cb, tx, ty, hdn, h1, h2, h3, h4, hw, hf, e0] <;> exact rfl) ?_
     refine ow_ml rfl ?_
     refine ow_know 0 (b := true) (by simp only [opd, zv, ca, cb, tx, ty, hdn, h1, h2, h3, h4, hw, hf, e0] <;> rfl) (by simp only [zn] <;> exact rfl) ?_
     refine ow_on (by simp only [opd, zv]) ?_
     refine ow_me rfl ?_
     refine ow_on (by simp only [opd, zv]) ?_
     refine ow_me rfl ?_
     refine ow_on (by simp only [opd, zv]) ?_
     refine ow_op (by simp only [zo, binD, zb, Int.reduceEq, Int.reduceToNat, Int.reduceLT, ca, cb, tx, ty, hdn, h1, h2, h3, h4, hw, hf, e0] <;> exact rfl) ?_
     refine ow_op (by simp only [zo, ca, cb, tx, ty, hdn, h1, h2, h3, h4, hw, hf, e0] <;> exact rfl) ?_
     refine ow_ml rfl ?_
     refine ow_know 0 (b := true) (by simp only [opd, zv, ca, cb, tx, ty, hdn, h1, h2, h3, h4, hw, hf, e0] <;> rfl) (by simp only [zn] <;> exact rfl) ?_
     refine ow_on (by simp only [opd, zv]) ?_
     refine ow_op (by simp only [zo, ca, cb, tx, ty, hdn, h1, h2, h3, h4, hw, hf, e0]; exact livesD (by omega) _) ?_
     refine ow_op (by simp only [zo, ca, cb, tx, ty, hdn, h1, h2, h3, h4, hw, hf, e0] <;> exact rfl) ?_
     refine ow_ml rfl ?_
     refine ow_nil ?_
     refine sk_n (by simp only [ze] <;> exact rfl) ?_
     refine cw_ret ?_
     refine ⟨_, by simp only [F5, resultD, resDs, resD, List.getD_cons_zero, List.getD_cons_succ, zd, rowsOf, partD, List.getElem?_cons_zero, List.getElem?_cons_succ, if_true, if_false, Bool.false_eq_true, List.take, List.drop, zm] <;> exact rfl, ?_⟩
     simp only [leaveP, leave, snapVs, snaps, zs, zf, zk]
    ·
     have hd2 : dn = false := hcFTT
     have hf : (firstC [(cmpI x y, dn)] == -1) = true := by rw [hcv, hd2]; rfl
     have hw : IntKind.i64.wrap (0 - (-1)) = 1 := by rfl
     have e0 : ((0 : Int) == 0) = true := rfl
     refine cw_skip (sk_n rfl (cw_seq (cw_region ?_)))
     refine ow_me rfl ?_
     refine ow_op (by simp only [zo, binD, zb, Int.reduceEq, Int.reduceToNat, Int.reduceLT, ca, cb, tx, ty, hdn, h1, h2, h3, h4, hw, hf, e0] <;> exact rfl) ?_
     refine ow_ml rfl ?_
     refine ow_know 0 (b := true) (by simp only [opd, zv, ca, cb, tx, ty, hdn, h1, h2, h3, h4, hw, hf, e0] <;> rfl) (by simp only [zn] <;> exact rfl) ?_
     refine ow_on (by simp only [opd, zv]) ?_
     refine ow_me rfl ?_
     refine ow_on (by simp only [opd, zv]) ?_
     refine ow_me rfl ?_
     refine ow_on (by simp only [opd, zv]) ?_
     refine ow_op (by simp only [zo, binD, zb, Int.reduceEq, Int.reduceToNat, Int.reduceLT, ca, cb, tx, ty, hdn, h1, h2, h3, h4, hw, hf, e0] <;> exact rfl) ?_
     refine ow_op (by simp only [zo, ca, cb, tx, ty, hdn, h1, h2, h3, h4, hw, hf, e0] <;> exact rfl) ?_
     refine ow_ml rfl ?_
     refine ow_know 0 (b := true) (by simp only [opd, zv, ca, cb, tx, ty, hdn, h1, h2, h3, h4, hw, hf, e0] <;> rfl) (by simp only [zn] <;> exact rfl) ?_
     refine ow_on (by simp only [opd, zv]) ?_
     refine ow_op (by simp only [zo, ca, cb, tx, ty, hdn, h1, h2, h3, h4, hw, hf, e0]; exact livesD (by omega) _) ?_
     refine ow_op (by simp only [zo, ca, cb, tx, ty, hdn, h1, h2, h3, h4, hw, hf, e0] <;> exact rfl) ?_
     refine ow_ml rfl ?_
     refine ow_nil ?_
     refine sk_n (by simp only [ze] <;> exact rfl) ?_
     refine cw_ret ?_
     refine ⟨_, by simp only [F5, resultD, resDs, resD, List.getD_cons_zero, List.getD_cons_succ, zd, rowsOf, partD, List.getElem?_cons_zero, List.getElem?_cons_succ, if_true, if_false, Bool.false_eq_true, List.take, List.drop, zm] <;> exact rfl, ?_⟩
     simp only [leaveP, leave, snapVs, snaps, zs, zf, zk]
   ·
    have hge : ¬ x < y := of_decide_eq_false hcFT
    refine cw_seq (cw_region ?_)
    refine ow_me rfl ?_
    refine ow_me rfl ?_
    refine ow_op (by simp only [zo, binD, zb, Int.reduceEq, Int.reduceToNat, Int.reduceLT, ca, cb, tx, ty, hdn, h1, h2, h3, h4] <;> exact rfl) ?_
    refine ow_nil ?_
    refine sk_n (by simp only [ze] <;> exact rfl) ?_
    refine cw_cond (by simp only [opd, zv, ca, cb, tx, ty, hdn, h1, h2, h3, h4] <;> exact rfl) (fun hcFTF => ?_) (fun hcFTF => ?_)
    ·
     have hgt : y < x := of_decide_eq_true hcFTF
     have hcv := cmpI_gt hgt
     refine cw_region ?_
     refine ow_mc ?_
     refine ow_nil ?_
     refine sk_n (by simp only [ze] <;> exact rfl) ?_
     refine cw_seq (cw_seq (cw_region ?_))
     refine ow_me rfl ?_
     refine ow_nil ?_
     refine sk_n (by simp only [ze] <;> exact rfl) ?_
     refine cw_cond (by simp only [opd, zv, ca, cb, tx, ty, hdn, h1, h2, h3, h4] <;> exact rfl) (fun hcFTFT => ?_) (fun hcFTFT => ?_)
     ·
      have hd2 : dn = true := hcFTFT
      have hf : (firstC [(cmpI x y, dn)] == -1) = true := by rw [hcv, hd2]; rfl
      have hw : IntKind.i64.wrap (0 - (1)) = -1 := by rfl
      have e0 : ((0 : Int) == 0) = true := rfl
      refine cw_region ?_
      refine ow_me rfl ?_
      refine ow_op (by simp only [zo, unD, ca, cb, tx, ty, hdn, h1, h2, h3, h4, hw, hf, e0] <;> exact rfl) ?_
      refine ow_ml rfl ?_
      refine ow_nil ?_
      refine sk_n (by simp only [ze] <;> exact rfl) ?_
      refine cw_seq (cw_region ?_)
      refine ow_me rfl ?_
      refine ow_op (by simp only [zo, binD, zb, Int.reduceEq, Int.reduceToNat, Int.reduceLT, ca, cb, tx, ty, hdn, h1, h2, h3, h4, hw, hf, e0] <;> exact rfl) ?_
      refine ow_ml rfl ?_
      refine ow_know 0 (b := true) (by simp only [opd, zv, ca, cb, tx, ty, hdn, h1, h2, h3, h4, hw, hf, e0] <;> rfl) (by simp only [zn] <;> exact rfl) ?_
      refine ow_on (by simp only [opd, zv]) ?_
      refine ow_me rfl ?_
      refine ow_on (by simp only [opd, zv]) ?_
      refine ow_me rfl ?_
      refine ow_on (by simp only [opd, zv]) ?_
      refine ow_op (by simp only [zo, binD, zb, Int.reduceEq, Int.reduceToNat, Int.reduceLT, ca, cb, tx, ty, hdn, h1, h2, h3, h4, hw, hf, e0] <;> exact rfl) ?_
      refine ow_op (by simp only [zo, ca, cb, tx, ty, hdn, h1, h2, h3, h4, hw, hf, e0] <;> exact rfl) ?_
      refine ow_ml rfl ?_
      refine ow_know 0 (b := true) (by simp only [opd, zv, ca, cb, tx, ty, hdn, h1, h2, h3, h4, hw, hf, e0] <;> rfl) (by simp only [zn] <;> exact rfl) ?_
      refine ow_on (by simp only [opd, zv]) ?_
      refine ow_op (by simp only [zo, ca, cb, tx, ty, hdn, h1, h2, h3, h4, hw, hf, e0]; exact livesD (by omega) _) ?_
      refine ow_op (by simp only [zo, ca, cb, tx, ty, hdn, h1, h2, h3, h4, hw, hf, e0] <;> exact rfl) ?_
      refine ow_ml rfl ?_
      refine ow_nil ?_
      refine sk_n (by simp only [ze] <;> exact rfl) ?_
      refine cw_ret ?_
      refine ⟨_, by simp only [F5, resultD, resDs, resD, List.getD_cons_zero, List.getD_cons_succ, zd, rowsOf, partD, List.getElem?_cons_zero, List.getElem?_cons_succ, if_true, if_false, Bool.false_eq_true, List.take, List.drop, zm] <;> exact rfl, ?_⟩
      simp only [leaveP, leave, snapVs, snaps, zs, zf, zk]
     ·
      have hd2 : dn = false := hcFTFT
      have hf : (firstC [(cmpI x y, dn)] == 1) = true := by rw [hcv, hd2]; rfl
      have hw : IntKind.i64.wrap (0 - (1)) = -1 := by rfl
      have e0 : ((0 : Int) == 0) = true := rfl
      refine cw_skip (sk_n rfl (cw_seq (cw_region ?_)))
      refine ow_me rfl ?_
      refine ow_op (by simp only [zo, binD, zb, Int.reduceEq, Int.reduceToNat, Int.reduceLT, ca, cb, tx, ty, hdn, h1, h2, h3, h4, hw, hf, e0] <;> exact rfl) ?_
      refine ow_ml rfl ?_
      refine ow_know 0 (b := true) (by simp only [opd, zv, ca, cb, tx, ty, hdn, h1, h2, h3, h4, hw, hf, e0] <;> rfl) (by simp only [zn] <;> exact rfl) ?_
      refine ow_on (by simp only [opd, zv]) ?_
      refine ow_me rfl ?_
      refine ow_on (by simp only [opd, zv]) ?_
      refine ow_me rfl ?_
      refine ow_on (by simp only [opd, zv]) ?_
      refine ow_op (by simp only [zo, binD, zb, Int.reduceEq, Int.reduceToNat, Int.reduceLT, ca, cb, tx, ty, hdn, h1, h2, h3, h4, hw, hf, e0] <;> exact rfl) ?_
      refine ow_op (by simp only [zo, ca, cb, tx, ty, hdn, h1, h2, h3, h4, hw, hf, e0] <;> exact rfl) ?_
      refine ow_ml rfl ?_
      refine ow_know 0 (b := true) (by simp only [opd, zv, ca, cb, tx, ty, hdn, h1, h2, h3, h4, hw, hf, e0] <;> rfl) (by simp only [zn] <;> exact rfl) ?_
      refine ow_on (by simp only [opd, zv]) ?_
      refine ow_op (by simp only [zo, ca, cb, tx, ty, hdn, h1, h2, h3, h4, hw, hf, e0]; exact livesD (by omega) _) ?_
      refine ow_op (by simp only [zo, ca, cb, tx, ty, hdn, h1, h2, h3, h4, hw, hf, e0] <;> exact rfl) ?_
      refine ow_ml rfl ?_
      refine ow_nil ?_
      refine sk_n (by simp only [ze] <;> exact rfl) ?_
      refine cw_ret ?_
      refine ⟨_, by simp only [F5, resultD, resDs, resD, List.getD_cons_zero, List.getD_cons_succ, zd, rowsOf, partD, List.getElem?_cons_zero, List.getElem?_cons_succ, if_true, if_false, Bool.false_eq_true, List.take, List.drop, zm] <;> exact rfl, ?_⟩
      simp only [leaveP, leave, snapVs, snaps, zs, zf, zk]
    ·
     have hcv : cmpI x y = 0 := cmpI_eq (by have := of_decide_eq_false hcFTF; omega)
     refine cw_skip (sk_n rfl (cw_seq (cw_seq (cw_region ?_))))
     refine ow_me rfl ?_
     refine ow_nil ?_
     refine sk_n (by simp only [ze] <;> exact rfl) ?_
     refine cw_cond (by simp only [opd, zv, ca, cb, tx, ty, hdn, h1, h2, h3, h4] <;> exact rfl) (fun hcFTFF => ?_) (fun hcFTFF => ?_)
     ·
      have hd2 : dn = true := hcFTFF
      have hf : (firstC [(cmpI x y, dn)] == 0) = true := by rw [hcv, hd2]; rfl
      have hw : IntKind.i64.wrap (0 - (0)) = 0 := by rfl
      have e0 : ((0 : Int) == 0) = true := rfl
      refine cw_region ?_
      refine ow_me rfl ?_
      refine ow_op (by simp only [zo, unD, ca, cb, tx, ty, hdn, h1, h2, h3, h4, hw, hf, e0] <;> exact rfl) ?_
      refine ow_ml rfl ?_
      refine ow_nil ?_
      refine sk_n (by simp only [ze] <;> exact rfl) ?_
      refine cw_seq (cw_region ?_)
      refine ow_me rfl ?_
      refine ow_op (by simp only [zo, binD, zb, Int.reduceEq, Int.reduceToNat, Int.reduceLT, ca, cb, tx, ty, hdn, h1, h2, h3, h4, hw, hf, e0] <;> exact rfl) ?_
      refine ow_ml rfl ?_
      refine ow_know 0 (b := true) (by simp only [opd, zv, ca, cb, tx, ty, hdn, h1, h2, h3, h4, hw, hf, e0] <;> rfl) (by simp only [zn] <;> exact rfl) ?_
      refine ow_on (by simp only [opd, zv]) ?_
      refine ow_me rfl ?_
      refine ow_on (by simp only [opd, zv]) ?_
      refine ow_me rfl ?_
      refine ow_on (by simp only [opd, zv]) ?_
      refine ow_op (by simp only [zo, binD, zb, Int.reduceEq, Int.reduceToNat, Int.reduceLT, ca, cb, tx, ty, hdn, h1, h2, h3, h4, hw, hf, e0] <;> exact rfl) ?_
      refine ow_op (by simp only [zo, ca, cb, tx, ty, hdn, h1, h2, h3, h4, hw, hf, e0] <;> exact rfl) ?_
      refine ow_ml rfl ?_
      refine ow_know 0 (b := true) (by simp only [opd, zv, ca, cb, tx, ty, hdn, h1, h2, h3, h4, hw, hf, e0] <;> rfl) (by simp only [zn] <;> exact rfl) ?_
      refine ow_on (by simp only [opd, zv]) ?_
      refine ow_op (by simp only [zo, ca, cb, tx, ty, hdn, h1, h2, h3, h4, hw, hf, e0]; exact livesD (by omega) _) ?_
      refine ow_op (by simp only [zo, ca, cb, tx, ty, hdn, h1, h2, h3, h4, hw, hf, e0] <;> exact rfl) ?_
      refine ow_ml rfl ?_
      refine ow_nil ?_
      refine sk_n (by simp only [ze] <;> exact rfl) ?_
      refine cw_ret ?_
      refine ⟨_, by simp only [F5, resultD, resDs, resD, List.getD_cons_zero, List.getD_cons_succ, zd, rowsOf, partD, List.getElem?_cons_zero, List.getElem?_cons_succ, if_true, if_false, Bool.false_eq_true, List.take, List.drop, zm] <;> exact rfl, ?_⟩
      simp only [leaveP, leave, snapVs, snaps, zs, zf, zk]
     ·
      have hd2 : dn = false := hcFTFF
      have hf : (firstC [(cmpI x y, dn)] == 0) = true := by rw [hcv, hd2]; rfl
      have hw : IntKind.i64.wrap (0 - (0)) = 0 := by rfl
      have e0 : ((0 : Int) == 0) = true := rfl
      refine cw_skip (sk_n rfl (cw_seq (cw_region ?_)))
      refine ow_me rfl ?_
      refine ow_op (by simp only [zo, binD, zb, Int.reduceEq, Int.reduceToNat, Int.reduceLT, ca, cb, tx, ty, hdn, h1, h2, h3, h4, hw, hf, e0] <;> exact rfl) ?_
      refine ow_ml rfl ?_
      refine ow_know 0 (b := true) (by simp only [opd, zv, ca, cb, tx, ty, hdn, h1, h2, h3, h4, hw, hf, e0] <;> rfl) (by simp only [zn] <;> exact rfl) ?_
      refine ow_on (by simp only [opd, zv]) ?_
      refine ow_me rfl ?_
      refine ow_on (by simp only [opd, zv]) ?_
      refine ow_me rfl ?_
      refine ow_on (by simp only [opd, zv]) ?_
      refine ow_op (by simp only [zo, binD, zb, Int.reduceEq, Int.reduceToNat, Int.reduceLT, ca, cb, tx, ty, hdn, h1, h2, h3, h4, hw, hf, e0] <;> exact rfl) ?_
      refine ow_op (by simp only [zo, ca, cb, tx, ty, hdn, h1, h2, h3, h4, hw, hf, e0] <;> exact rfl) ?_
      refine ow_ml rfl ?_
      refine ow_know 0 (b := true) (by simp only [opd, zv, ca, cb, tx, ty, hdn, h1, h2, h3, h4, hw, hf, e0] <;> rfl) (by simp only [zn] <;> exact rfl) ?_
      refine ow_on (by simp only [opd, zv]) ?_
      refine ow_op (by simp only [zo, ca, cb, tx, ty, hdn, h1, h2, h3, h4, hw, hf, e0]; exact livesD (by omega) _) ?_
      refine ow_op (by simp only [zo, ca, cb, tx, ty, hdn, h1, h2, h3, h4, hw, hf, e0] <;> exact rfl) ?_
      refine ow_ml rfl ?_
      refine ow_nil ?_
      refine sk_n (by simp only [ze] <;> exact rfl) ?_
      refine cw_ret ?_
      refine ⟨_, by simp only [F5, resultD, resDs, resD, List.getD_cons_zero, List.getD_cons_succ, zd, rowsOf, partD, List.getElem?_cons_zero, List.getElem?_cons_succ, if_true, if_false, Bool.false_eq_true, List.take, List.drop, zm] <;> exact rfl, ?_⟩
      simp only [leaveP, leave, snapVs, snaps, zs, zf, zk]
  ·
   refine cw_skip (bk_n (sk_n rfl (cw_seq (cw_region ?_))))
   refine ow_me rfl ?_
   refine ow_op (by simp only [zo, binD, zb, Int.reduceEq, Int.reduceToNat, Int.reduceLT, ca, cb, tx, ty, hdn, h1, h2, h3, h4] <;> exact rfl) ?_
   refine ow_op (by simp only [zo, binD, zb, Int.reduceEq, Int.reduceToNat, Int.reduceLT, ca, cb, tx, ty, hdn, h1, h2, h3, h4] <;> exact rfl) ?_
   refine ow_op (by simp only [zo, binD, zb, Int.reduceEq, Int.reduceToNat, Int.reduceLT, ca, cb, tx, ty, hdn, h1, h2, h3, h4] <;> exact rfl) ?_
   refine ow_ml rfl ?_
   refine ow_nil ?_
   refine sk_n (by simp only [ze] <;> exact rfl) ?_
   refine cw_seq (cw_region ?_)
   refine ow_op (by simp only [zo, faddrD_ptr, faddrD_cptr, zm, ca, cb, tx, ty, hdn, h1, h2, h3, h4] <;> exact rfl) ?_
   refine ow_op (by simp only [zl, zm, zd, partD, List.take, List.drop, ca, cb, tx, ty, hdn, h1, h2, h3, h4] <;> exact rfl) ?_
   refine ow_op (by simp only [zo, fillD, overlay, zc, List.take, List.drop, Nat.reduceAdd, Nat.reduceLeDiff, Nat.reduceBEq, zm, ca, cb, tx, ty, hdn, h1, h2, h3, h4] <;> exact rfl) ?_
   refine ow_op (by simp only [zl, zm, zd, partD, List.take, List.drop, ca, cb, tx, ty, hdn, h1, h2, h3, h4] <;> exact rfl) ?_
   refine ow_me rfl ?_
   refine ow_op (by simp only [zo, fillD, overlay, zc, List.take, List.drop, Nat.reduceAdd, Nat.reduceLeDiff, Nat.reduceBEq, zm, ca, cb, tx, ty, hdn, h1, h2, h3, h4] <;> exact rfl) ?_
   refine ow_op (by simp only [zl, zm, fillRows, List.replicate, snapVs, snaps, zs, zc, zf, ca, cb, tx, ty, hdn, h1, h2, h3, h4] <;> exact rfl) ?_
   refine ow_ml rfl ?_
   refine ow_nil ?_
   refine sk_n (by simp only [ze] <;> exact rfl) ?_
   refine cw_seq (cw_region ?_)
   refine ow_me rfl ?_
   refine ow_op (by simp only [zo, faddrD_ptr, faddrD_cptr, zm, ca, cb, tx, ty, hdn, h1, h2, h3, h4] <;> exact rfl) ?_
   refine ow_op (by simp only [zl, zm, zd, partD, List.take, List.drop, ca, cb, tx, ty, hdn, h1, h2, h3, h4] <;> exact rfl) ?_
   refine ow_me rfl ?_
   refine ow_me rfl ?_
   refine ow_op (by simp only [zo, ca, cb, tx, ty, hdn, h1, h2, h3, h4]; exact us0.cmp hx hy dn (.of 14 (keRows [kS 0 3 dn]) (some 1)) _ _ (by omega) _) ?_
   refine ow_ml rfl ?_
   refine ow_op (by simp only [zo, List.getElem?_cons_zero, List.getElem?_cons_succ, ca, cb, tx, ty, hdn, h1, h2, h3, h4] <;> exact rfl) ?_
   refine ow_op (by simp only [zo, List.getElem?_cons_zero, List.getElem?_cons_succ, ca, cb, tx, ty, hdn, h1, h2, h3, h4] <;> exact rfl) ?_
   refine ow_ml rfl ?_
   refine ow_ml rfl ?_
   refine ow_nil ?_
   refine sk_n (by simp only [ze] <;> exact rfl) ?_
   refine cw_seq (cw_region ?_)
   refine ow_mc ?_
   refine ow_nil ?_
   refine sk_n (by simp only [ze] <;> exact rfl) ?_
   refine cw_seq (cw_seq (cw_region ?_))
   refine ow_me rfl ?_
   refine ow_me rfl ?_
   refine ow_op (by simp only [zo, binD, zb, Int.reduceEq, Int.reduceToNat, Int.reduceLT, ca, cb, tx, ty, hdn, h1, h2, h3, h4] <;> exact rfl) ?_
   refine ow_nil ?_
   refine sk_n (by simp only [ze] <;> exact rfl) ?_
   refine cw_cond (by simp only [opd, zv, ca, cb, tx, ty, hdn, h1, h2, h3, h4] <;> exact rfl) (fun hcFF => ?_) (fun hcFF => ?_)
   ·
    have hlt : x < y := of_decide_eq_true hcFF
    have hcv := cmpI_lt hlt
    refine cw_region ?_
    refine ow_mc ?_
    refine ow_nil ?_
    refine sk_n (by simp only [ze] <;> exact rfl) ?_
    refine cw_seq (cw_seq (cw_region ?_))
    refine ow_me rfl ?_
    refine ow_nil ?_
    refine sk_n (by simp only [ze] <;> exact rfl) ?_
    refine cw_cond (by simp only [opd, zv, ca, cb, tx, ty, hdn, h1, h2, h3, h4] <;> exact rfl) (fun hcFFT => ?_) (fun hcFFT => ?_)
    ·
     have hd2 : dn = true := hcFFT
     have hf : (firstC [(cmpI x y, dn)] == 1) = true := by rw [hcv, hd2]; rfl
     have hw : IntKind.i64.wrap (0 - (-1)) = 1 := by rfl
     have e0 : ((0 : Int) == 0) = true := rfl
     refine cw_region ?_
     refine ow_me rfl ?_
     refine ow_op (by simp only [zo, unD, ca, cb, tx, ty, hdn, h1, h2, h3, h4, hw, hf, e0] <;> exact rfl) ?_
     refine ow_ml rfl ?_
     refine ow_nil ?_
     refine sk_n (by simp only [ze] <;> exact rfl) ?_
     refine cw_seq (cw_region ?_)
     refine ow_me rfl ?_
     refine ow_op (by simp only [zo, binD, zb, Int.reduceEq, Int.reduceToNat, Int.reduceLT, ca, cb, tx, ty, hdn, h1, h2, h3, h4, hw, hf, e0] <;> exact rfl) ?_
     refine ow_ml rfl ?_
     refine ow_know 0 (b := true) (by simp only [opd, zv, ca, cb, tx, ty, hdn, h1, h2, h3, h4, hw, hf, e0] <;> rfl) (by simp only [zn] <;> exact rfl) ?_
     refine ow_on (by simp only [opd, zv]) ?_
     refine ow_me rfl ?_
     refine ow_on (by simp only [opd, zv]) ?_
     refine ow_me rfl ?_
     refine ow_on (by simp only [opd, zv]) ?_
     refine ow_op (by simp only [zo, binD, zb, Int.reduceEq, Int.reduceToNat, Int.reduceLT, ca, cb, tx, ty, hdn, h1, h2, h3, h4, hw, hf, e0] <;> exact rfl) ?_
     refine ow_op (by simp only [zo, ca, cb, tx, ty, hdn, h1, h2, h3, h4, hw, hf, e0] <;> exact rfl) ?_
     refine ow_ml rfl ?_
     refine ow_know 0 (b := true) (by simp only [opd, zv, ca, cb, tx, ty, hdn, h1, h2, h3, h4, hw, hf, e0] <;> rfl) (by simp only [zn] <;> exact rfl) ?_
     refine ow_on (by simp only [opd, zv]) ?_
     refine ow_op (by simp only [zo, ca, cb, tx, ty, hdn, h1, h2, h3, h4, hw, hf, e0]; exact livesD (by omega) _) ?_
     refine ow_op (by simp only [zo, ca, cb, tx, ty, hdn, h1, h2, h3, h4, hw, hf, e0] <;> exact rfl) ?_
     refine ow_ml rfl ?_
     refine ow_nil ?_
     refine sk_n (by simp only [ze] <;> exact rfl) ?_
     refine cw_ret ?_
     refine ⟨_, by simp only [F5, resultD, resDs, resD, List.getD_cons_zero, List.getD_cons_succ, zd, rowsOf, partD, List.getElem?_cons_zero, List.getElem?_cons_succ, if_true, if_false, Bool.false_eq_true, List.take, List.drop, zm] <;> exact rfl, ?_⟩
     simp only [leaveP, leave, snapVs, snaps, zs, zf, zk]
    ·
     have hd2 : dn = false := hcFFT
     have hf : (firstC [(cmpI x y, dn)] == -1) = true := by rw [hcv, hd2]; rfl
     have hw : IntKind.i64.wrap (0 - (-1)) = 1 := by rfl
     have e0 : ((0 : Int) == 0) = true := rfl
     refine cw_skip (sk_n rfl (cw_seq (cw_region ?_)))
     refine ow_me rfl ?_
     refine ow_op (by simp only [zo, binD, zb, Int.reduceEq, Int.reduceToNat, Int.reduceLT, ca, cb, tx, ty, hdn, h1, h2, h3, h4, hw, hf, e0] <;> exact rfl) ?_
     refine ow_ml rfl ?_
     refine ow_know 0 (b := true) (by simp only [opd, zv, ca, cb, tx, ty, hdn, h1, h2, h3, h4, hw, hf, e0] <;> rfl) (by simp only [zn] <;> exact rfl) ?_
     refine ow_on (by simp only [opd, zv]) ?_
     refine ow_me rfl ?_
     refine ow_on (by simp only [opd, zv]) ?_
     refine ow_me rfl ?_
     refine ow_on (by simp only [opd, zv]) ?_
     refine ow_op (by simp only [zo, binD, zb, Int.reduceEq, Int.reduceToNat, Int.reduceLT, ca, cb, tx, ty, hdn, h1, h2, h3, h4, hw, hf, e0] <;> exact rfl) ?_
     refine ow_op (by simp only [zo, ca, cb, tx, ty, hdn, h1, h2, h3, h4, hw, hf, e0] <;> exact rfl) ?_
     refine ow_ml rfl ?_
     refine ow_know 0 (b := true) (by simp only [opd, zv, ca, cb, tx, ty, hdn, h1, h2, h3, h4, hw, hf, e0] <;> rfl) (by simp only [zn] <;> exact rfl) ?_
     refine ow_on (by simp only [opd, zv]) ?_
     refine ow_op (by simp only [zo, ca, cb, tx, ty, hdn, h1, h2, h3, h4, hw, hf, e0]; exact livesD (by omega) _) ?_
     refine ow_op (by simp only [zo, ca, cb, tx, ty, hdn, h1, h2, h3, h4, hw, hf, e0] <;> exact rfl) ?_
     refine ow_ml rfl ?_
     refine ow_nil ?_
     refine sk_n (by simp only [ze] <;> exact rfl) ?_
     refine cw_ret ?_
     refine ⟨_, by simp only [F5, resultD, resDs, resD, List.getD_cons_zero, List.getD_cons_succ, zd, rowsOf, partD, List.getElem?_cons_zero, List.getElem?_cons_succ, if_true, if_false, Bool.false_eq_true, List.take, List.drop, zm] <;> exact rfl, ?_⟩
     simp only [leaveP, leave, snapVs, snaps, zs, zf, zk]
   ·
    have hge : ¬ x < y := of_decide_eq_false hcFF
    refine cw_seq (cw_region ?_)
    refine ow_me rfl ?_
    refine ow_me rfl ?_
    refine ow_op (by simp only [zo, binD, zb, Int.reduceEq, Int.reduceToNat, Int.reduceLT, ca, cb, tx, ty, hdn, h1, h2, h3, h4] <;> exact rfl) ?_
    refine ow_nil ?_
    refine sk_n (by simp only [ze] <;> exact rfl) ?_
    refine cw_cond (by simp only [opd, zv, ca, cb, tx, ty, hdn, h1, h2, h3, h4] <;> exact rfl) (fun hcFFF => ?_) (fun hcFFF => ?_)
    ·
     have hgt : y < x := of_decide_eq_true hcFFF
     have hcv := cmpI_gt hgt
     refine cw_region ?_
     refine ow_mc ?_
     refine ow_nil ?_
     refine sk_n (by simp only [ze] <;> exact rfl) ?_
     refine cw_seq (cw_seq (cw_region ?_))
     refine ow_me rfl ?_
     refine ow_nil ?_
     refine sk_n (by simp only [ze] <;> exact rfl) ?_
     refine cw_cond (by simp only [opd, zv, ca, cb, tx, ty, hdn, h1, h2, h3, h4] <;> exact rfl) (fun hcFFFT => ?_) (fun hcFFFT => ?_)
     ·
      have hd2 : dn = true := hcFFFT
      have hf : (firstC [(cmpI x y, dn)] == -1) = true := by rw [hcv, hd2]; rfl
      have hw : IntKind.i64.wrap (0 - (1)) = -1 := by rfl
      have e0 : ((0 : Int) == 0) = true := rfl
      refine cw_region ?_
      refine ow_me rfl ?_
      refine ow_op (by simp only [zo, unD, ca, cb, tx, ty, hdn, h1, h2, h3, h4, hw, hf, e0] <;> exact rfl) ?_
      refine ow_ml rfl ?_
      refine ow_nil ?_
      refine sk_n (by simp only [ze] <;> exact rfl) ?_
      refine cw_seq (cw_region ?_)
      refine ow_me rfl ?_
      refine ow_op (by simp only [zo, binD, zb, Int.reduceEq, Int.reduceToNat, Int.reduceLT, ca, cb, tx, ty, hdn, h1, h2, h3, h4, hw, hf, e0] <;> exact rfl) ?_
      refine ow_ml rfl ?_
      refine ow_know 0 (b := true) (by simp only [opd, zv, ca, cb, tx, ty, hdn, h1, h2, h3, h4, hw, hf, e0] <;> rfl) (by simp only [zn] <;> exact rfl) ?_
      refine ow_on (by simp only [opd, zv]) ?_
      refine ow_me rfl ?_
      refine ow_on (by simp only [opd, zv]) ?_
      refine ow_me rfl ?_
      refine ow_on (by simp only [opd, zv]) ?_
      refine ow_op (by simp only [zo, binD, zb, Int.reduceEq, Int.reduceToNat, Int.reduceLT, ca, cb, tx, ty, hdn, h1, h2, h3, h4, hw, hf, e0] <;> exact rfl) ?_
      refine ow_op (by simp only [zo, ca, cb, tx, ty, hdn, h1, h2, h3, h4, hw, hf, e0] <;> exact rfl) ?_
      refine ow_ml rfl ?_
      refine ow_know 0 (b := true) (by simp only [opd, zv, ca, cb, tx, ty, hdn, h1, h2, h3, h4, hw, hf, e0] <;> rfl) (by simp only [zn] <;> exact rfl) ?_
      refine ow_on (by simp only [opd, zv]) ?_
      refine ow_op (by simp only [zo, ca, cb, tx, ty, hdn, h1, h2, h3, h4, hw, hf, e0]; exact livesD (by omega) _) ?_
      refine ow_op (by simp only [zo, ca, cb, tx, ty, hdn, h1, h2, h3, h4, hw, hf, e0] <;> exact rfl) ?_
      refine ow_ml rfl ?_
      refine ow_nil ?_
      refine sk_n (by simp only [ze] <;> exact rfl) ?_
      refine cw_ret ?_
      refine ⟨_, by simp only [F5, resultD, resDs, resD, List.getD_cons_zero, List.getD_cons_succ, zd, rowsOf, partD, List.getElem?_cons_zero, List.getElem?_cons_succ, if_true, if_false, Bool.false_eq_true, List.take, List.drop, zm] <;> exact rfl, ?_⟩
      simp only [leaveP, leave, snapVs, snaps, zs, zf, zk]
     ·
      have hd2 : dn = false := hcFFFT
      have hf : (firstC [(cmpI x y, dn)] == 1) = true := by rw [hcv, hd2]; rfl
      have hw : IntKind.i64.wrap (0 - (1)) = -1 := by rfl
      have e0 : ((0 : Int) == 0) = true := rfl
      refine cw_skip (sk_n rfl (cw_seq (cw_region ?_)))
      refine ow_me rfl ?_
      refine ow_op (by simp only [zo, binD, zb, Int.reduceEq, Int.reduceToNat, Int.reduceLT, ca, cb, tx, ty, hdn, h1, h2, h3, h4, hw, hf, e0] <;> exact rfl) ?_
      refine ow_ml rfl ?_
      refine ow_know 0 (b := true) (by simp only [opd, zv, ca, cb, tx, ty, hdn, h1, h2, h3, h4, hw, hf, e0] <;> rfl) (by simp only [zn] <;> exact rfl) ?_
      refine ow_on (by simp only [opd, zv]) ?_
      refine ow_me rfl ?_
      refine ow_on (by simp only [opd, zv]) ?_
      refine ow_me rfl ?_
      refine ow_on (by simp only [opd, zv]) ?_
      refine ow_op (by simp only [zo, binD, zb, Int.reduceEq, Int.reduceToNat, Int.reduceLT, ca, cb, tx, ty, hdn, h1, h2, h3, h4, hw, hf, e0] <;> exact rfl) ?_
      refine ow_op (by simp only [zo, ca, cb, tx, ty, hdn, h1, h2, h3, h4, hw, hf, e0] <;> exact rfl) ?_
      refine ow_ml rfl ?_
      refine ow_know 0 (b := true) (by simp only [opd, zv, ca, cb, tx, ty, hdn, h1, h2, h3, h4, hw, hf, e0] <;> rfl) (by simp only [zn] <;> exact rfl) ?_
      refine ow_on (by simp only [opd, zv]) ?_
      refine ow_op (by simp only [zo, ca, cb, tx, ty, hdn, h1, h2, h3, h4, hw, hf, e0]; exact livesD (by omega) _) ?_
      refine ow_op (by simp only [zo, ca, cb, tx, ty, hdn, h1, h2, h3, h4, hw, hf, e0] <;> exact rfl) ?_
      refine ow_ml rfl ?_
      refine ow_nil ?_
      refine sk_n (by simp only [ze] <;> exact rfl) ?_
      refine cw_ret ?_
      refine ⟨_, by simp only [F5, resultD, resDs, resD, List.getD_cons_zero, List.getD_cons_succ, zd, rowsOf, partD, List.getElem?_cons_zero, List.getElem?_cons_succ, if_true, if_false, Bool.false_eq_true, List.take, List.drop, zm] <;> exact rfl, ?_⟩
      simp only [leaveP, leave, snapVs, snaps, zs, zf, zk]
    ·
     have hcv : cmpI x y = 0 := cmpI_eq (by have := of_decide_eq_false hcFFF; omega)
     refine cw_skip (sk_n rfl (cw_seq (cw_seq (cw_region ?_))))
     refine ow_me rfl ?_
     refine ow_nil ?_
     refine sk_n (by simp only [ze] <;> exact rfl) ?_
     refine cw_cond (by simp only [opd, zv, ca, cb, tx, ty, hdn, h1, h2, h3, h4] <;> exact rfl) (fun hcFFFF => ?_) (fun hcFFFF => ?_)
     ·
      have hd2 : dn = true := hcFFFF
      have hf : (firstC [(cmpI x y, dn)] == 0) = true := by rw [hcv, hd2]; rfl
      have hw : IntKind.i64.wrap (0 - (0)) = 0 := by rfl
      have e0 : ((0 : Int) == 0) = true := rfl
      refine cw_region ?_
      refine ow_me rfl ?_
      refine ow_op (by simp only [zo, unD, ca, cb, tx, ty, hdn, h1, h2, h3, h4, hw, hf, e0] <;> exact rfl) ?_
      refine ow_ml rfl ?_
      refine ow_nil ?_
      refine sk_n (by simp only [ze] <;> exact rfl) ?_
      refine cw_seq (cw_region ?_)
      refine ow_me rfl ?_
      refine ow_op (by simp only [zo, binD, zb, Int.reduceEq, Int.reduceToNat, Int.reduceLT, ca, cb, tx, ty, hdn, h1, h2, h3, h4, hw, hf, e0] <;> exact rfl) ?_
      refine ow_ml rfl ?_
      refine ow_know 0 (b := true) (by simp only [opd, zv, ca, cb, tx, ty, hdn, h1, h2, h3, h4, hw, hf, e0] <;> rfl) (by simp only [zn] <;> exact rfl) ?_
      refine ow_on (by simp only [opd, zv]) ?_
      refine ow_me rfl ?_
      refine ow_on (by simp only [opd, zv]) ?_
      refine ow_me rfl ?_
      refine ow_on (by simp only [opd, zv]) ?_
      refine ow_op (by simp only [zo, binD, zb, Int.reduceEq, Int.reduceToNat, Int.reduceLT, ca, cb, tx, ty, hdn, h1, h2, h3, h4, hw, hf, e0] <;> exact rfl) ?_
      refine ow_op (by simp only [zo, ca, cb, tx, ty, hdn, h1, h2, h3, h4, hw, hf, e0] <;> exact rfl) ?_
      refine ow_ml rfl ?_
      refine ow_know 0 (b := true) (by simp only [opd, zv, ca, cb, tx, ty, hdn, h1, h2, h3, h4, hw, hf, e0] <;> rfl) (by simp only [zn] <;> exact rfl) ?_
      refine ow_on (by simp only [opd, zv]) ?_
      refine ow_op (by simp only [zo, ca, cb, tx, ty, hdn, h1, h2, h3, h4, hw, hf, e0]; exact livesD (by omega) _) ?_
      refine ow_op (by simp only [zo, ca, cb, tx, ty, hdn, h1, h2, h3, h4, hw, hf, e0] <;> exact rfl) ?_
      refine ow_ml rfl ?_
      refine ow_nil ?_
      refine sk_n (by simp only [ze] <;> exact rfl) ?_
      refine cw_ret ?_
      refine ⟨_, by simp only [F5, resultD, resDs, resD, List.getD_cons_zero, List.getD_cons_succ, zd, rowsOf, partD, List.getElem?_cons_zero, List.getElem?_cons_succ, if_true, if_false, Bool.false_eq_true, List.take, List.drop, zm] <;> exact rfl, ?_⟩
      simp only [leaveP, leave, snapVs, snaps, zs, zf, zk]
     ·
      have hd2 : dn = false := hcFFFF
      have hf : (firstC [(cmpI x y, dn)] == 0) = true := by rw [hcv, hd2]; rfl
      have hw : IntKind.i64.wrap (0 - (0)) = 0 := by rfl
      have e0 : ((0 : Int) == 0) = true := rfl
      refine cw_skip (sk_n rfl (cw_seq (cw_region ?_)))
      refine ow_me rfl ?_
      refine ow_op (by simp only [zo, binD, zb, Int.reduceEq, Int.reduceToNat, Int.reduceLT, ca, cb, tx, ty, hdn, h1, h2, h3, h4, hw, hf, e0] <;> exact rfl) ?_
      refine ow_ml rfl ?_
      refine ow_know 0 (b := true) (by simp only [opd, zv, ca, cb, tx, ty, hdn, h1, h2, h3, h4, hw, hf, e0] <;> rfl) (by simp only [zn] <;> exact rfl) ?_
      refine ow_on (by simp only [opd, zv]) ?_
      refine ow_me rfl ?_
      refine ow_on (by simp only [opd, zv]) ?_
      refine ow_me rfl ?_
      refine ow_on (by simp only [opd, zv]) ?_
      refine ow_op (by simp only [zo, binD, zb, Int.reduceEq, Int.reduceToNat, Int.reduceLT, ca, cb, tx, ty, hdn, h1, h2, h3, h4, hw, hf, e0] <;> exact rfl) ?_
      refine ow_op (by simp only [zo, ca, cb, tx, ty, hdn, h1, h2, h3, h4, hw, hf, e0] <;> exact rfl) ?_
      refine ow_ml rfl ?_
      refine ow_know 0 (b := true) (by simp only [opd, zv, ca, cb, tx, ty, hdn, h1, h2, h3, h4, hw, hf, e0] <;> rfl) (by simp only [zn] <;> exact rfl) ?_
      refine ow_on (by simp only [opd, zv]) ?_
      refine ow_op (by simp only [zo, ca, cb, tx, ty, hdn, h1, h2, h3, h4, hw, hf, e0]; exact livesD (by omega) _) ?_
      refine ow_op (by simp only [zo, ca, cb, tx, ty, hdn, h1, h2, h3, h4, hw, hf, e0] <;> exact rfl) ?_
      refine ow_ml rfl ?_
      refine ow_nil ?_
      refine sk_n (by simp only [ze] <;> exact rfl) ?_
      refine cw_ret ?_
      refine ⟨_, by simp only [F5, resultD, resDs, resD, List.getD_cons_zero, List.getD_cons_succ, zd, rowsOf, partD, List.getElem?_cons_zero, List.getElem?_cons_succ, if_true, if_false, Bool.false_eq_true, List.take, List.drop, zm] <;> exact rfl, ?_⟩
      simp only [leaveP, leave, snapVs, snaps, zs, zf, zk]

end Go.Proofs.YtabgobmeibjeeaaGreatDoor

/- Proved here: what functions of the program compute, in the abstract machine; no condition. -/
import Derived.Test.YtabgobmeibjeeaaGreatDoorS6
namespace Go.Proofs.YtabgobmeibjeeaaGreatDoor
set_option linter.unusedSimpArgs false
set_option linter.unusedVariables false
set_option maxRecDepth 10000

theorem uCheck_true {d : Nat} (hd : 14 ≤ d) (S : St) (us : Int) (pic : ByteArray) (dg sc sz : Int) (sg le se ju bl : Bool) (fr fw : FuncId) (ng : Bool) (l : List UInt8) {x : D} {rows : List (List D)} (hS : SlD 1 rows x) (hz : (rows.length : Int) = sz) (ho : ∀ (d : Nat) (S : St), 2 ≤ d → runF LP NN d 120 [.agg [.int .u8 4, .int .u8 us, .str pic, .int .i64 dg, .int .i64 sc, .bool sg, .bool le, .bool se, .bool ju, .bool bl, .int .i64 sz]] S = some (.agg [.fn fr [], .fn fw []], S, false)) (hr : ∀ (d : Nat) (S : St), 6 ≤ d → runF LP NN d fr [.agg [.int .u8 4, .int .u8 us, .str pic, .int .i64 dg, .int .i64 sc, .bool sg, .bool le, .bool se, .bool ju, .bool bl, .int .i64 sz], x] S = some (.tup [.agg [.bool ng, .str (mkS l)], .bool true], S, false)) (hc : ∀ (d : Nat) (S : St), 12 ≤ d → runF LP NN d 117 [.agg [.int .u8 4, .int .u8 us, .str pic, .int .i64 dg, .int .i64 sc, .bool sg, .bool le, .bool se, .bool ju, .bool bl, .int .i64 sz]] S = some (.int .i64 0, S, false)) : runF LP NN d 78 [.agg [.int .u8 4, .int .u8 us, .str pic, .int .i64 dg, .int .i64 sc, .bool sg, .bool le, .bool se, .bool ju, .bool bl, .int .i64 sz, x]] S = some (.int .i64 0, S, false) := by
 refine run_pure (F := F78) rfl (by simp only [LP, fnOf, snapVs, snaps, zs, Bool.false_eq_true, if_false, Option.map_some, List.map_cons, List.map_nil, hS.snap, hS.freeV, hS.free] <;> exact rfl) rfl (by simp only [LP, zf, List.all_cons, List.all_nil, Bool.and_true, Bool.true_and, hS.snap, hS.freeV, hS.free]; try rfl) (by simp only [F78, zv] <;> exact rfl) (by omega) ?_
 rintro d rfl
 refine cw_seq (cw_region ?_)
 refine ow_op (by simp only [zl, zm, zc, mkS_toList, nil_toList, mkS_size, hS.isCell, hS.val, hS.cells, hS.len, hS.plain] <;> exact rfl) ?_
 refine ow_op (by simp only [zo] <;> exact rfl) ?_
 refine ow_nil ?_
 refine sk_n (by simp only [exports, zn, zg] <;> exact rfl) ?_
 refine cw_seq (cw_seq (cw_region ?_))
 refine ow_op (by simp only [zo, faddrD_ptr, faddrD_cptr, zm, mkS_toList, nil_toList, mkS_size, hS.isCell, hS.val, hS.cells, hS.len, hS.plain] <;> exact rfl) ?_
 refine ow_op (by simp only [zl, zm, loadD_cptr, loadD_ptr, partD, List.take, List.drop, mkS_toList, nil_toList, mkS_size, hS.isCell, hS.val, hS.cells, hS.len, hS.plain] <;> exact rfl) ?_
 refine ow_op (by simp only [zo, mkS_toList, nil_toList, mkS_size, hS.isCell, hS.val, hS.cells, hS.len, hS.plain]; exact hc _ _ (by omega)) ?_
 refine ow_op (by simp only [zo, binD, eq_self, ne_eq, not_false_eq_true, true_and, Int.reduceEq, ite_true, ite_false, not_true_eq_false, Int.reduceToNat, Int.reduceLT, mkS_toList, nil_toList, mkS_size, hS.isCell, hS.val, hS.cells, hS.len, hS.plain] <;> exact rfl) ?_
 refine ow_nil ?_
 refine sk_n (by simp only [exports, zn, zg] <;> exact rfl) ?_
 skip
 refine cw_false (by simp only [opd, zv, mkS_toList, nil_toList, mkS_size, hS.isCell, hS.val, hS.cells, hS.len, hS.plain] <;> rfl) ?_
 refine cw_skip (sk_n rfl (cw_seq (cw_region ?_)))
 refine ow_op (by simp only [zl, zm, loadD_cptr, loadD_ptr, partD, List.take, List.drop, mkS_toList, nil_toList, mkS_size, hS.isCell, hS.val, hS.cells, hS.len, hS.plain] <;> exact rfl) ?_
 refine ow_op (by simp only [zo, mkS_toList, nil_toList, mkS_size, hS.isCell, hS.val, hS.cells, hS.len, hS.plain]; exact read_true (by omega) _ us pic dg sc sz sg le se ju bl fr fw ng l hS hz ho hr) ?_
 refine ow_op (by simp only [zo] <;> exact rfl) ?_
 refine ow_op (by simp only [zo, List.getElem?_cons_zero, List.getElem?_cons_succ, mkS_toList, nil_toList, mkS_size, hS.isCell, hS.val, hS.cells, hS.len, hS.plain] <;> exact rfl) ?_
 refine ow_op (by simp only [zo, List.getElem?_cons_zero, List.getElem?_cons_succ, mkS_toList, nil_toList, mkS_size, hS.isCell, hS.val, hS.cells, hS.len, hS.plain] <;> exact rfl) ?_
 refine ow_op (by simp only [zl, zm, mkS_toList, nil_toList, mkS_size, hS.isCell, hS.val, hS.cells, hS.len, hS.plain] <;> exact rfl) ?_
 refine ow_op (by simp only [zl, zm, storeD, overlay, snapVs, snaps, zs, zc, zf, List.take, List.drop, mkS_toList, nil_toList, mkS_size, hS.isCell, hS.val, hS.cells, hS.len, hS.plain] <;> exact rfl) ?_
 refine ow_op (by simp only [zo] <;> exact rfl) ?_
 refine ow_nil ?_
 refine sk_n (by simp only [exports, zn, zg] <;> exact rfl) ?_
 refine cw_seq (cw_region ?_)
 refine ow_op (by simp only [zo] <;> exact rfl) ?_
 refine ow_op (by simp only [zo] <;> exact rfl) ?_
 refine ow_nil ?_
 refine sk_n (by simp only [exports, zn, zg] <;> exact rfl) ?_
 refine cw_ret ?_
 refine ⟨_, by simp only [F78, resultD, resDs, resD, List.getD_cons_zero, List.getD_cons_succ, loadD_cptr, loadD_ptr, rowsOf, partD, List.getElem?_cons_zero, List.getElem?_cons_succ, if_true, if_false, Bool.false_eq_true, List.take, List.drop, zm] <;> exact rfl, ?_⟩
 simp only [leaveP, leave, snapVs, snaps, zs, zf, Option.map_some, List.all_cons, List.all_nil, Bool.and_self, Bool.and_true, if_true, if_false, Bool.false_eq_true, List.length_nil, Nat.le_refl, Nat.zero_le]

theorem uCheck_false {d : Nat} (hd : 14 ≤ d) (S : St) (us : Int) (pic : ByteArray) (dg sc sz : Int) (sg le se ju bl : Bool) (fr fw : FuncId) (ng : Bool) (l : List UInt8) {x : D} {rows : List (List D)} (hS : SlD 1 rows x) (hz : (rows.length : Int) = sz) (ho : ∀ (d : Nat) (S : St), 2 ≤ d → runF LP NN d 120 [.agg [.int .u8 4, .int .u8 us, .str pic, .int .i64 dg, .int .i64 sc, .bool sg, .bool le, .bool se, .bool ju, .bool bl, .int .i64 sz]] S = some (.agg [.fn fr [], .fn fw []], S, false)) (hr : ∀ (d : Nat) (S : St), 6 ≤ d → runF LP NN d fr [.agg [.int .u8 4, .int .u8 us, .str pic, .int .i64 dg, .int .i64 sc, .bool sg, .bool le, .bool se, .bool ju, .bool bl, .int .i64 sz], x] S = some (.tup [.agg [.bool ng, .str (mkS l)], .bool false], S, false)) (hc : ∀ (d : Nat) (S : St), 12 ≤ d → runF LP NN d 117 [.agg [.int .u8 4, .int .u8 us, .str pic, .int .i64 dg, .int .i64 sc, .bool sg, .bool le, .bool se, .bool ju, .bool bl, .int .i64 sz]] S = some (.int .i64 0, S, false)) : runF LP NN d 78 [.agg [.int .u8 4, .int .u8 us, .str pic, .int .i64 dg, .int .i64 sc, .bool sg, .bool le, .bool se, .bool ju, .bool bl, .int .i64 sz, x]] S = some (.int .i64 15, S, false) := by
 refine run_pure (F := F78) rfl (by simp only [LP, fnOf, snapVs, snaps, zs, Bool.false_eq_true, if_false, Option.map_some, List.map_cons, List.map_nil, hS.snap, hS.freeV, hS.free] <;> exact rfl) rfl (by simp only [LP, zf, List.all_cons, List.all_nil, Bool.and_true, Bool.true_and, hS.snap, hS.freeV, hS.free]; try rfl) (by simp only [F78, zv] <;> exact rfl) (by omega) ?_
 rintro d rfl
 refine cw_seq (cw_region ?_)
 refine ow_op (by simp only [zl, zm, zc, mkS_toList, nil_toList, mkS_size, hS.isCell, hS.val, hS.cells, hS.len, hS.plain] <;> exact rfl) ?_
 refine ow_op (by simp only [zo] <;> exact rfl) ?_
 refine ow_nil ?_
 refine sk_n (by simp only [exports, zn, zg] <;> exact rfl) ?_
 refine cw_seq (cw_seq (cw_region ?_))
 refine ow_op (by simp only [zo, faddrD_ptr, faddrD_cptr, zm, mkS_toList, nil_toList, mkS_size, hS.isCell, hS.val, hS.cells, hS.len, hS.plain] <;> exact rfl) ?_
 refine ow_op (by simp only [zl, zm, loadD_cptr, loadD_ptr, partD, List.take, List.drop, mkS_toList, nil_toList, mkS_size, hS.isCell, hS.val, hS.cells, hS.len, hS.plain] <;> exact rfl) ?_
 refine ow_op (by simp only [zo, mkS_toList, nil_toList, mkS_size, hS.isCell, hS.val, hS.cells, hS.len, hS.plain]; exact hc _ _ (by omega)) ?_
 refine ow_op (by simp only [zo, binD, eq_self, ne_eq, not_false_eq_true, true_and, Int.reduceEq, ite_true, ite_false, not_true_eq_false, Int.reduceToNat, Int.reduceLT, mkS_toList, nil_toList, mkS_size, hS.isCell, hS.val, hS.cells, hS.len, hS.plain] <;> exact rfl) ?_
 refine ow_nil ?_
 refine sk_n (by simp only [exports, zn, zg] <;> exact rfl) ?_
 skip
 refine cw_false (by simp only [opd, zv, mkS_toList, nil_toList, mkS_size, hS.isCell, hS.val, hS.cells, hS.len, hS.plain] <;> rfl) ?_
 refine cw_skip (sk_n rfl (cw_seq (cw_region ?_)))
 refine ow_op (by simp only [zl, zm, loadD_cptr, loadD_ptr, partD, List.take, List.drop, mkS_toList, nil_toList, mkS_size, hS.isCell, hS.val, hS.cells, hS.len, hS.plain] <;> exact rfl) ?_
 refine ow_op (by simp only [zo, mkS_toList, nil_toList, mkS_size, hS.isCell, hS.val, hS.cells, hS.len, hS.plain]; exact read_false (by omega) _ us pic dg sc sz sg le se ju bl fr fw ng l hS hz ho hr) ?_
 refine ow_op (by simp only [zo] <;> exact rfl) ?_
 refine ow_op (by simp only [zo, List.getElem?_cons_zero, List.getElem?_cons_succ, mkS_toList, nil_toList, mkS_size, hS.isCell, hS.val, hS.cells, hS.len, hS.plain] <;> exact rfl) ?_
 refine ow_op (by simp only [zo, List.getElem?_cons_zero, List.getElem?_cons_succ, mkS_toList, nil_toList, mkS_size, hS.isCell, hS.val, hS.cells, hS.len, hS.plain] <;> exact rfl) ?_
 refine ow_op (by simp only [zl, zm, mkS_toList, nil_toList, mkS_size, hS.isCell, hS.val, hS.cells, hS.len, hS.plain] <;> exact rfl) ?_
 refine ow_op (by simp only [zl, zm, storeD, overlay, snapVs, snaps, zs, zc, zf, List.take, List.drop, mkS_toList, nil_toList, mkS_size, hS.isCell, hS.val, hS.cells, hS.len, hS.plain] <;> exact rfl) ?_
 refine ow_op (by simp only [zo] <;> exact rfl) ?_
 refine ow_nil ?_
 refine sk_n (by simp only [exports, zn, zg] <;> exact rfl) ?_
 refine cw_seq (cw_region ?_)
 refine ow_op (by simp only [zo] <;> exact rfl) ?_
 refine ow_op (by simp only [zo] <;> exact rfl) ?_
 refine ow_nil ?_
 refine sk_n (by simp only [exports, zn, zg] <;> exact rfl) ?_
 refine cw_ret ?_
 refine ⟨_, by simp only [F78, resultD, resDs, resD, List.getD_cons_zero, List.getD_cons_succ, loadD_cptr, loadD_ptr, rowsOf, partD, List.getElem?_cons_zero, List.getElem?_cons_succ, if_true, if_false, Bool.false_eq_true, List.take, List.drop, zm] <;> exact rfl, ?_⟩
 simp only [leaveP, leave, snapVs, snaps, zs, zf, Option.map_some, List.all_cons, List.all_nil, Bool.and_self, Bool.and_true, if_true, if_false, Bool.false_eq_true, List.length_nil, Nat.le_refl, Nat.zero_le]

theorem kind_run {d : Nat} (hd : 13 ≤ d) (S : St) (us : Int) (pic : ByteArray) (dg sc sz : Int) (sg le se ju bl : Bool) (hc : ∀ (d : Nat) (S : St), 12 ≤ d → runF LP NN d 117 [.agg [.int .u8 4, .int .u8 us, .str pic, .int .i64 dg, .int .i64 sc, .bool sg, .bool le, .bool se, .bool ju, .bool bl, .int .i64 sz]] S = some (.int .i64 0, S, false)) : runF LP NN d 80 [.agg [.int .u8 4, .int .u8 us, .str pic, .int .i64 dg, .int .i64 sc, .bool sg, .bool le, .bool se, .bool ju, .bool bl, .int .i64 sz]] S = some (.int .i64 0, S, false) := by
 refine run_pure (F := F80) rfl (by simp only [LP, fnOf, snapVs, snaps, zs, Bool.false_eq_true, if_false, Option.map_some, List.map_cons, List.map_nil] <;> exact rfl) rfl (by simp only [LP, zf, List.all_cons, List.all_nil, Bool.and_true, Bool.true_and]; try rfl) (by simp only [F80, zv] <;> exact rfl) (by omega) ?_
 rintro d rfl
 refine cw_seq (cw_region ?_)
 refine ow_op (by simp only [zl, zm, zc, mkS_toList, nil_toList, mkS_size] <;> exact rfl) ?_
 refine ow_op (by simp only [zo] <;> exact rfl) ?_
 refine ow_nil ?_
 refine sk_n (by simp only [exports, zn, zg] <;> exact rfl) ?_
 refine cw_seq (cw_block (cw_seq (cw_region ?_)))
 refine ow_op (by simp only [zl, zm, loadD_cptr, loadD_ptr, partD, List.take, List.drop, mkS_toList, nil_toList, mkS_size] <;> exact rfl) ?_
 refine ow_op (by simp only [zo, mkS_toList, nil_toList, mkS_size]; exact hc _ _ (by omega)) ?_
 refine ow_op (by simp only [zo, binD, eq_self, ne_eq, not_false_eq_true, true_and, Int.reduceEq, ite_true, ite_false, not_true_eq_false, Int.reduceToNat, Int.reduceLT, mkS_toList, nil_toList, mkS_size] <;> exact rfl) ?_
 refine ow_op (by simp only [zo] <;> exact rfl) ?_
 refine ow_nil ?_
 refine sk_n (by simp only [exports, zn, zg] <;> exact rfl) ?_
 skip
 refine cw_false (by simp only [opd, zv, mkS_toList, nil_toList, mkS_size] <;> rfl) ?_
 refine cw_seq (cw_region ?_)
 refine ow_op (by simp only [zo, faddrD_ptr, faddrD_cptr, zm, mkS_toList, nil_toList, mkS_size] <;> exact rfl) ?_
 refine ow_op (by simp only [zl, zm, loadD_cptr, loadD_ptr, partD, List.take, List.drop, mkS_toList, nil_toList, mkS_size] <;> exact rfl) ?_
 refine ow_op (by simp only [zo, binD, eq_self, ne_eq, not_false_eq_true, true_and, Int.reduceEq, ite_true, ite_false, not_true_eq_false, Int.reduceToNat, Int.reduceLT, mkS_toList, nil_toList, mkS_size] <;> exact rfl) ?_
 refine ow_op (by simp only [zo] <;> exact rfl) ?_
 refine ow_nil ?_
 refine sk_n (by simp only [exports, zn, zg] <;> exact rfl) ?_
 skip
 refine cw_false (by simp only [opd, zv, mkS_toList, nil_toList, mkS_size] <;> rfl) ?_
 refine cw_skip (bk_n (sk_n rfl (cw_seq (cw_region ?_))))
 refine ow_op (by simp only [zo] <;> exact rfl) ?_
 refine ow_nil ?_
 refine sk_n (by simp only [exports, zn, zg] <;> exact rfl) ?_
 refine cw_ret ?_
 refine ⟨_, by simp only [F80, resultD, resDs, resD, List.getD_cons_zero, List.getD_cons_succ, loadD_cptr, loadD_ptr, rowsOf, partD, List.getElem?_cons_zero, List.getElem?_cons_succ, if_true, if_false, Bool.false_eq_true, List.take, List.drop, zm] <;> exact rfl, ?_⟩
 simp only [leaveP, leave, snapVs, snaps, zs, zf, Option.map_some, List.all_cons, List.all_nil, Bool.and_self, Bool.and_true, if_true, if_false, Bool.false_eq_true, List.length_nil, Nat.le_refl, Nat.zero_le]

theorem get_run {d : Nat} (hd : 14 ≤ d) (S : St) (us : Int) (pic : ByteArray) (dg sz : Int) (sg le se ju bl : Bool) (fr fw : FuncId) (ng : Bool) (l : List UInt8) {x : D} {rows : List (List D)} (hS : SlD 1 rows x) (hz : (rows.length : Int) = sz) (ho : ∀ (d : Nat) (S : St), 2 ≤ d → runF LP NN d 120 [.agg [.int .u8 4, .int .u8 us, .str pic, .int .i64 dg, .int .i64 0, .bool sg, .bool le, .bool se, .bool ju, .bool bl, .int .i64 sz]] S = some (.agg [.fn fr [], .fn fw []], S, false)) (hr : ∀ (d : Nat) (S : St), 6 ≤ d → runF LP NN d fr [.agg [.int .u8 4, .int .u8 us, .str pic, .int .i64 dg, .int .i64 0, .bool sg, .bool le, .bool se, .bool ju, .bool bl, .int .i64 sz], x] S = some (.tup [.agg [.bool ng, .str (mkS l)], .bool true], S, false)) (hc : ∀ (d : Nat) (S : St), 12 ≤ d → runF LP NN d 117 [.agg [.int .u8 4, .int .u8 us, .str pic, .int .i64 dg, .int .i64 0, .bool sg, .bool le, .bool se, .bool ju, .bool bl, .int .i64 sz]] S = some (.int .i64 0, S, false)) (hnum : isNum l = true) (h62 : l.length ≤ 62) : runF LP NN d 51 [.agg [.int .u8 4, .int .u8 us, .str pic, .int .i64 dg, .int .i64 0, .bool sg, .bool le, .bool se, .bool ju, .bool bl, .int .i64 sz, x]] S = some (.tup [.agg [.bool (ng && nz l), .str (mkS (strip l)), .int .i64 0], .int .i64 0], S, false) := by
 refine run_pure (F := F51) rfl (by simp only [LP, fnOf, snapVs, snaps, zs, Bool.false_eq_true, if_false, Option.map_some, List.map_cons, List.map_nil, hS.snap, hS.freeV, hS.free] <;> exact rfl) rfl (by simp only [LP, zf, List.all_cons, List.all_nil, Bool.and_true, Bool.true_and, hS.snap, hS.freeV, hS.free]; try rfl) (by simp only [F51, zv] <;> exact rfl) (by omega) ?_
 rintro d rfl
 refine cw_seq (cw_region ?_)
 refine ow_op (by simp only [zl, zm, zc, mkS_toList, nil_toList, mkS_size, hS.isCell, hS.val, hS.cells, hS.len, hS.plain] <;> exact rfl) ?_
 refine ow_op (by simp only [zl, zm, mkS_toList, nil_toList, mkS_size, hS.isCell, hS.val, hS.cells, hS.len, hS.plain] <;> exact rfl) ?_
 refine ow_op (by simp only [zo] <;> exact rfl) ?_
 refine ow_nil ?_
 refine sk_n (by simp only [exports, zn, zg] <;> exact rfl) ?_
 refine cw_seq (cw_seq (cw_region ?_))
 refine ow_op (by simp only [zo, faddrD_ptr, faddrD_cptr, zm, mkS_toList, nil_toList, mkS_size, hS.isCell, hS.val, hS.cells, hS.len, hS.plain] <;> exact rfl) ?_
 refine ow_op (by simp only [zl, zm, loadD_cptr, loadD_ptr, partD, List.take, List.drop, mkS_toList, nil_toList, mkS_size, hS.isCell, hS.val, hS.cells, hS.len, hS.plain] <;> exact rfl) ?_
 refine ow_op (by simp only [zo, mkS_toList, nil_toList, mkS_size, hS.isCell, hS.val, hS.cells, hS.len, hS.plain]; exact kind_run (by omega) _ us pic dg 0 sz sg le se ju bl hc) ?_
 refine ow_op (by simp only [zo] <;> exact rfl) ?_
 refine ow_nil ?_
 refine sk_n (by simp only [exports, zn, zg] <;> exact rfl) ?_
 refine cw_seq (cw_region ?_)
 refine ow_op (by simp only [zo] <;> exact rfl) ?_
 refine ow_op (by simp only [zo, binD, eq_self, ne_eq, not_false_eq_true, true_and, Int.reduceEq, ite_true, ite_false, not_true_eq_false, Int.reduceToNat, Int.reduceLT, mkS_toList, nil_toList, mkS_size, hS.isCell, hS.val, hS.cells, hS.len, hS.plain] <;> exact rfl) ?_
 refine ow_nil ?_
 refine sk_n (by simp only [exports, zn, zg] <;> exact rfl) ?_
 skip
 refine cw_false (by simp only [opd, zv, mkS_toList, nil_toList, mkS_size, hS.isCell, hS.val, hS.cells, hS.len, hS.plain] <;> rfl) ?_
 refine cw_skip (sk_n rfl (cw_seq (cw_region ?_)))
 refine ow_op (by simp only [zl, zm, loadD_cptr, loadD_ptr, partD, List.take, List.drop, mkS_toList, nil_toList, mkS_size, hS.isCell, hS.val, hS.cells, hS.len, hS.plain] <;> exact rfl) ?_
 refine ow_op (by simp only [zo, mkS_toList, nil_toList, mkS_size, hS.isCell, hS.val, hS.cells, hS.len, hS.plain]; exact read_true (by omega) _ us pic dg 0 sz sg le se ju bl fr fw ng l hS hz ho hr) ?_
 refine ow_op (by simp only [zo] <;> exact rfl) ?_
 refine ow_op (by simp only [zo, List.getElem?_cons_zero, List.getElem?_cons_succ, mkS_toList, nil_toList, mkS_size, hS.isCell, hS.val, hS.cells, hS.len, hS.plain] <;> exact rfl) ?_
 refine ow_op (by simp only [zo, List.getElem?_cons_zero, List.getElem?_cons_succ, mkS_toList, nil_toList, mkS_size, hS.isCell, hS.val, hS.cells, hS.len, hS.plain] <;> exact rfl) ?_
 refine ow_op (by simp only [zl, zm, mkS_toList, nil_toList, mkS_size, hS.isCell, hS.val, hS.cells, hS.len, hS.plain] <;> exact rfl) ?_
 refine ow_op (by simp only [zl, zm, storeD, overlay, snapVs, snaps, zs, zc, zf, List.take, List.drop, mkS_toList, nil_toList, mkS_size, hS.isCell, hS.val, hS.cells, hS.len, hS.plain] <;> exact rfl) ?_
 refine ow_op (by simp only [zo] <;> exact rfl) ?_
 refine ow_nil ?_
 refine sk_n (by simp only [exports, zn, zg] <;> exact rfl) ?_
 refine cw_seq (cw_seq (cw_region ?_))
 refine ow_op (by simp only [zo] <;> exact rfl) ?_
 refine ow_op (by simp only [zo, binD, eq_self, ne_eq, not_false_eq_true, true_and, Int.reduceEq, ite_true, ite_false, not_true_eq_false, Int.reduceToNat, Int.reduceLT, mkS_toList, nil_toList, mkS_size, hS.isCell, hS.val, hS.cells, hS.len, hS.plain] <;> exact rfl) ?_
 refine ow_nil ?_
 refine sk_n (by simp only [exports, zn, zg] <;> exact rfl) ?_
 skip
 refine cw_false (by simp only [opd, zv, mkS_toList, nil_toList, mkS_size, hS.isCell, hS.val, hS.cells, hS.len, hS.plain] <;> rfl) ?_
 refine cw_skip (sk_n rfl (cw_seq (cw_region ?_)))
 refine ow_op (by simp only [zo, faddrD_ptr, faddrD_cptr, zm, mkS_toList, nil_toList, mkS_size, hS.isCell, hS.val, hS.cells, hS.len, hS.plain] <;> exact rfl) ?_
 refine ow_op (by simp only [zl, zm, loadD_cptr, loadD_ptr, partD, List.take, List.drop, mkS_toList, nil_toList, mkS_size, hS.isCell, hS.val, hS.cells, hS.len, hS.plain] <;> exact rfl) ?_
 refine ow_op (by simp only [zo, faddrD_ptr, faddrD_cptr, zm, mkS_toList, nil_toList, mkS_size, hS.isCell, hS.val, hS.cells, hS.len, hS.plain] <;> exact rfl) ?_
 refine ow_op (by simp only [zl, zm, loadD_cptr, loadD_ptr, partD, List.take, List.drop, mkS_toList, nil_toList, mkS_size, hS.isCell, hS.val, hS.cells, hS.len, hS.plain] <;> exact rfl) ?_
 refine ow_op (by simp only [zo, faddrD_ptr, faddrD_cptr, zm, mkS_toList, nil_toList, mkS_size, hS.isCell, hS.val, hS.cells, hS.len, hS.plain] <;> exact rfl) ?_
 refine ow_op (by simp only [zo, faddrD_ptr, faddrD_cptr, zm, mkS_toList, nil_toList, mkS_size, hS.isCell, hS.val, hS.cells, hS.len, hS.plain] <;> exact rfl) ?_
 refine ow_op (by simp only [zl, zm, loadD_cptr, loadD_ptr, partD, List.take, List.drop, mkS_toList, nil_toList, mkS_size, hS.isCell, hS.val, hS.cells, hS.len, hS.plain] <;> exact rfl) ?_
 refine ow_op (by simp only [zo, mkS_toList, nil_toList, mkS_size, hS.isCell, hS.val, hS.cells, hS.len, hS.plain]; exact decNew_run (by omega) _ ng l h62 hnum) ?_
 refine ow_op (by simp only [zo, List.getElem?_cons_zero, List.getElem?_cons_succ, mkS_toList, nil_toList, mkS_size, hS.isCell, hS.val, hS.cells, hS.len, hS.plain] <;> exact rfl) ?_
 refine ow_op (by simp only [zo, List.getElem?_cons_zero, List.getElem?_cons_succ, mkS_toList, nil_toList, mkS_size, hS.isCell, hS.val, hS.cells, hS.len, hS.plain] <;> exact rfl) ?_
 refine ow_op (by simp only [zl, zm, storeD, overlay, snapVs, snaps, zs, zc, zf, List.take, List.drop, mkS_toList, nil_toList, mkS_size, hS.isCell, hS.val, hS.cells, hS.len, hS.plain] <;> exact rfl) ?_
 refine ow_op (by simp only [zo] <;> exact rfl) ?_
 refine ow_nil ?_
 refine sk_n (by simp only [exports, zn, zg] <;> exact rfl) ?_
 refine cw_ret ?_
 refine ⟨_, by simp only [F51, resultD, resDs, resD, List.getD_cons_zero, List.getD_cons_succ, loadD_cptr, loadD_ptr, rowsOf, partD, List.getElem?_cons_zero, List.getElem?_cons_succ, if_true, if_false, Bool.false_eq_true, List.take, List.drop, zm] <;> exact rfl, ?_⟩
 simp only [leaveP, leave, snapVs, snaps, zs, zf, Option.map_some, List.all_cons, List.all_nil, Bool.and_self, Bool.and_true, if_true, if_false, Bool.false_eq_true, List.length_nil, Nat.le_refl, Nat.zero_le]

def shN (n : Nat) : List D := [.int .u8 4, .int .u8 0, .str (mkS (List.replicate n 57)), .int .i64 n, .int .i64 0, .bool false, .bool false, .bool false, .bool false, .bool false, .int .i64 n]
def shT (n : Nat) : List D := [.int .u8 2, .int .u8 0, .str (mkS (List.replicate n 88)), .int .i64 0, .int .i64 0, .bool false, .bool false, .bool false, .bool false, .bool false, .int .i64 n]
theorem checkN_tab (d : Nat) (S : St) : (List.range 6).map (fun k => runF LP NN (d + 12) 117 [.agg (shN (k + 1))] S) = (List.range 6).map (fun _ => some (.int .i64 0, S, false)) := by kernel_rfl
theorem number_tab (d : Nat) (S : St) : (List.range 6).map (fun k => runF LP NN (d + 12) 28 [.int .i64 ((k + 1 : Nat) : Int)] S) = (List.range 6).map (fun k => some (.agg (shN (k + 1)), S, false)) := by kernel_rfl
theorem text_tab (d : Nat) (S : St) : (List.range 6).map (fun k => runF LP NN (d + 12) 27 [.int .i64 ((k + 1 : Nat) : Int)] S) = (List.range 6).map (fun k => some (.agg (shT (k + 1)), S, false)) := by kernel_rfl

end Go.Proofs.YtabgobmeibjeeaaGreatDoor

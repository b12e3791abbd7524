/- Proved here: what functions of the program compute, in the abstract machine; no condition. -/
import Derived.Test.YtabgobmeibjeeaaGreatDoorS4
namespace Go.Proofs.YtabgobmeibjeeaaGreatDoor
set_option linter.unusedSimpArgs false
set_option linter.unusedVariables false
set_option maxRecDepth 10000

theorem aligned_run {d : Nat} (hd : 6 ≤ d) (S : St) (na nb : Bool) (a b : List UInt8) (ha : Nrm na a) (hb : Nrm nb b) (h1 : a.length < b.length + 7) (h2 : b.length < a.length + 7) : runF LP NN d 84 [.agg [.bool na, .str (mkS a), .int .i64 0], .agg [.bool nb, .str (mkS b), .int .i64 0]] S = some (.tup [.str (mkS (pad (max a.length b.length) a)), .str (mkS (pad (max a.length b.length) b)), .int .i64 0], S, false) := by
 have hm : (if (b.length : Int) > (a.length : Int) then (b.length : Int) else (a.length : Int)) = ((max a.length b.length : Nat) : Int) := by split <;> omega
 refine run_pure (F := F84) rfl (by simp only [LP, fnOf, snapVs, snaps, zs, Bool.false_eq_true, if_false, Option.map_some, List.map_cons, List.map_nil] <;> exact rfl) rfl (by simp only [LP, zf, List.all_cons, List.all_nil, Bool.and_true, Bool.true_and]; try rfl) (by simp only [F84, zv] <;> exact rfl) (by omega) ?_
 rintro d rfl
 refine cw_seq (cw_region ?_)
 refine ow_op (by simp only [zl, zm, zc, mkS_toList, nil_toList, mkS_size, hm] <;> exact rfl) ?_
 refine ow_op (by simp only [zl, zm, zc, mkS_toList, nil_toList, mkS_size, hm] <;> exact rfl) ?_
 refine ow_op (by simp only [zo] <;> exact rfl) ?_
 refine ow_op (by simp only [zo] <;> exact rfl) ?_
 refine ow_op (by simp only [zo] <;> exact rfl) ?_
 refine ow_nil ?_
 refine sk_n (by simp only [exports, zn, zg] <;> exact rfl) ?_
 refine cw_seq (cw_region ?_)
 refine ow_op (by simp only [zo, faddrD_ptr, faddrD_cptr, zm, mkS_toList, nil_toList, mkS_size, hm] <;> exact rfl) ?_
 refine ow_op (by simp only [zl, zm, loadD_cptr, loadD_ptr, partD, List.take, List.drop, mkS_toList, nil_toList, mkS_size, hm] <;> exact rfl) ?_
 refine ow_op (by simp only [zo, faddrD_ptr, faddrD_cptr, zm, mkS_toList, nil_toList, mkS_size, hm] <;> exact rfl) ?_
 refine ow_op (by simp only [zl, zm, loadD_cptr, loadD_ptr, partD, List.take, List.drop, mkS_toList, nil_toList, mkS_size, hm] <;> exact rfl) ?_
 refine ow_op (by simp only [zo, foldD, maxD, mkS_toList, nil_toList, mkS_size, hm] <;> exact rfl) ?_
 refine ow_op (by simp only [zo] <;> exact rfl) ?_
 refine ow_nil ?_
 refine sk_n (by simp only [exports, zn, zg] <;> exact rfl) ?_
 refine cw_seq ?_
 refine cw_drawn (by simp only [newsVals, List.length_nil, List.length_cons, List.range_succ, List.range_zero, List.nil_append, List.map_nil, List.reverse_nil, List.cons_append, List.map_cons, List.reverse_cons, Nat.zero_add, Nat.add_zero, Nat.reduceAdd] <;> exact rfl) (by simp only [List.map_nil, List.map_cons, newsObj, St.eta, List.append_nil, List.cons_append, List.nil_append, List.length_cons, List.length_nil] <;> exact rfl) ?_
 refine dw_quiet (by simp only [zo, faddrD_ptr, faddrD_cptr, zm, mkS_toList, nil_toList, mkS_size, hm] <;> exact rfl) rfl rfl ?_
 refine dw_op (by simp only [zl, zm, loadD_cptr, loadD_ptr, partD, List.take, List.drop, mkS_toList, nil_toList, mkS_size, hm] <;> exact rfl) (by simp only [fpHere, opd, List.map_cons, List.map_nil, List.getD_cons_zero, List.getD_cons_succ, zq] <;> exact rfl) rfl ?_
 refine dw_quiet (by simp only [zo] <;> exact rfl) rfl rfl ?_
 refine dw_quiet (by simp only [zo, faddrD_ptr, faddrD_cptr, zm, mkS_toList, nil_toList, mkS_size, hm] <;> exact rfl) rfl rfl ?_
 refine dw_op (by simp only [zl, zm, loadD_cptr, loadD_ptr, partD, List.take, List.drop, mkS_toList, nil_toList, mkS_size, hm] <;> exact rfl) (by simp only [fpHere, opd, List.map_cons, List.map_nil, List.getD_cons_zero, List.getD_cons_succ, zq] <;> exact rfl) rfl ?_
 refine dw_quiet (show _ = some (D.int .i64 ((0 : Nat) : Int), _, false) from rfl) rfl rfl ?_
 refine dw_op (by simp only [zo, mkS_toList, nil_toList, mkS_size, hm]; exact rep_run (by omega) _ 0 (by omega)) (by simp only [fpHere, opd, List.map_cons, List.map_nil, List.getD_cons_zero, List.getD_cons_succ, zq] <;> exact rfl) rfl ?_
 refine dw_quiet (by simp only [zo, binD, eq_self, ne_eq, not_false_eq_true, true_and, Int.reduceEq, ite_true, ite_false, not_true_eq_false, Int.reduceToNat, Int.reduceLT, mkS_app, mkS_size, List.replicate_zero, List.append_nil]; rw [if_neg (by have := ha.len; have := hb.len; rw [show IntKind.i64.max = 9223372036854775807 from rfl]; simp; omega)]; exact rfl) rfl rfl ?_
 refine dw_quiet (by simp only [zo] <;> exact rfl) rfl rfl ?_
 refine dw_nil ?_
 refine sk_n (by simp only [exports, zn, zg] <;> exact rfl) ?_
 refine cw_seq ?_
 refine cw_drawn (by simp only [newsVals, List.length_nil, List.length_cons, List.range_succ, List.range_zero, List.nil_append, List.map_nil, List.reverse_nil, List.cons_append, List.map_cons, List.reverse_cons, Nat.zero_add, Nat.add_zero, Nat.reduceAdd] <;> exact rfl) (by simp only [List.map_nil, List.map_cons, newsObj, St.eta, List.append_nil, List.cons_append, List.nil_append, List.length_cons, List.length_nil] <;> exact rfl) ?_
 refine dw_quiet (by simp only [zo, faddrD_ptr, faddrD_cptr, zm, mkS_toList, nil_toList, mkS_size, hm] <;> exact rfl) rfl rfl ?_
 refine dw_op (by simp only [zl, zm, loadD_cptr, loadD_ptr, partD, List.take, List.drop, mkS_toList, nil_toList, mkS_size, hm] <;> exact rfl) (by simp only [fpHere, opd, List.map_cons, List.map_nil, List.getD_cons_zero, List.getD_cons_succ, zq] <;> exact rfl) rfl ?_
 refine dw_quiet (by simp only [zo] <;> exact rfl) rfl rfl ?_
 refine dw_quiet (by simp only [zo, faddrD_ptr, faddrD_cptr, zm, mkS_toList, nil_toList, mkS_size, hm] <;> exact rfl) rfl rfl ?_
 refine dw_op (by simp only [zl, zm, loadD_cptr, loadD_ptr, partD, List.take, List.drop, mkS_toList, nil_toList, mkS_size, hm] <;> exact rfl) (by simp only [fpHere, opd, List.map_cons, List.map_nil, List.getD_cons_zero, List.getD_cons_succ, zq] <;> exact rfl) rfl ?_
 refine dw_quiet (show _ = some (D.int .i64 ((0 : Nat) : Int), _, false) from rfl) rfl rfl ?_
 refine dw_op (by simp only [zo, mkS_toList, nil_toList, mkS_size, hm]; exact rep_run (by omega) _ 0 (by omega)) (by simp only [fpHere, opd, List.map_cons, List.map_nil, List.getD_cons_zero, List.getD_cons_succ, zq] <;> exact rfl) rfl ?_
 refine dw_quiet (by simp only [zo, binD, eq_self, ne_eq, not_false_eq_true, true_and, Int.reduceEq, ite_true, ite_false, not_true_eq_false, Int.reduceToNat, Int.reduceLT, mkS_app, mkS_size, List.replicate_zero, List.append_nil]; rw [if_neg (by have := ha.len; have := hb.len; rw [show IntKind.i64.max = 9223372036854775807 from rfl]; simp; omega)]; exact rfl) rfl rfl ?_
 refine dw_quiet (by simp only [zo] <;> exact rfl) rfl rfl ?_
 refine dw_nil ?_
 refine sk_n (by simp only [exports, zn, zg] <;> exact rfl) ?_
 refine cw_seq (cw_region ?_)
 refine ow_op (by simp only [zo] <;> exact rfl) ?_
 refine ow_op (by simp only [zo, lenD_str, lenD_nils, lenD_sl, lenD_msl, mkS_toList, nil_toList, mkS_size, hm] <;> exact rfl) ?_
 refine ow_op (by simp only [zo] <;> exact rfl) ?_
 refine ow_op (by simp only [zo, lenD_str, lenD_nils, lenD_sl, lenD_msl, mkS_toList, nil_toList, mkS_size, hm] <;> exact rfl) ?_
 refine ow_op (by simp only [zo, foldD, maxD, mkS_toList, nil_toList, mkS_size, hm] <;> exact rfl) ?_
 refine ow_op (by simp only [zo] <;> exact rfl) ?_
 refine ow_nil ?_
 refine sk_n (by simp only [exports, zn, zg] <;> exact rfl) ?_
 refine cw_seq (cw_region ?_)
 refine ow_op (by simp only [zo] <;> exact rfl) ?_
 refine ow_op (by simp only [zo] <;> exact rfl) ?_
 first
  | refine ow_op (by simp only [zo, mkS_toList, nil_toList, mkS_size, hm]; exact padded_run (by omega) _ a _ (by omega) ha.len) ?_
  | refine ow_op (by simp only [zo, mkS_toList, nil_toList, mkS_size, hm]; exact padded_run (by omega) _ b _ (by omega) hb.len) ?_
 refine ow_op (by simp only [zo] <;> exact rfl) ?_
 refine ow_op (by simp only [zo] <;> exact rfl) ?_
 first
  | refine ow_op (by simp only [zo, mkS_toList, nil_toList, mkS_size, hm]; exact padded_run (by omega) _ a _ (by omega) ha.len) ?_
  | refine ow_op (by simp only [zo, mkS_toList, nil_toList, mkS_size, hm]; exact padded_run (by omega) _ b _ (by omega) hb.len) ?_
 refine ow_op (by simp only [zo] <;> exact rfl) ?_
 refine ow_op (by simp only [zo] <;> exact rfl) ?_
 refine ow_op (by simp only [zo] <;> exact rfl) ?_
 refine ow_op (by simp only [zo] <;> exact rfl) ?_
 refine ow_nil ?_
 refine sk_n (by simp only [exports, zn, zg] <;> exact rfl) ?_
 refine cw_ret ?_
 refine ⟨_, by simp only [F84, resultD, resDs, resD, List.getD_cons_zero, List.getD_cons_succ, loadD_cptr, loadD_ptr, rowsOf, partD, List.getElem?_cons_zero, List.getElem?_cons_succ, if_true, if_false, Bool.false_eq_true, List.take, List.drop, zm] <;> exact rfl, ?_⟩
 rfl

/-- the order of two numbers -/
def cmpN (na nb : Bool) (a b : List UInt8) : Int :=
 if na = nb then (if na then cmpL (pad (max a.length b.length) b) (pad (max a.length b.length) a) else cmpL (pad (max a.length b.length) a) (pad (max a.length b.length) b))
 else if na then -1 else 1

theorem decCmp_tt {d : Nat} (hd : 8 ≤ d) (S : St) (a b : List UInt8) (ha : Nrm true a) (hb : Nrm true b) (h1 : a.length < b.length + 7) (h2 : b.length < a.length + 7) : runF LP NN d 52 [.agg [.bool true, .str (mkS a), .int .i64 0], .agg [.bool true, .str (mkS b), .int .i64 0]] S = some (.tup [.int .i64 (cmpN true true a b), .int .i64 0], S, false) := by
 refine run_pure (F := F52) rfl (by simp only [LP, fnOf, snapVs, snaps, zs, Bool.false_eq_true, if_false, Option.map_some, List.map_cons, List.map_nil] <;> exact rfl) rfl (by simp only [LP, zf, List.all_cons, List.all_nil, Bool.and_true, Bool.true_and]; try rfl) (by simp only [F52, zv] <;> exact rfl) (by omega) ?_
 rintro d rfl
 refine cw_seq (cw_region ?_)
 refine ow_op (by simp only [zl, zm, zc, mkS_toList, nil_toList, mkS_size] <;> exact rfl) ?_
 refine ow_op (by simp only [zl, zm, zc, mkS_toList, nil_toList, mkS_size] <;> exact rfl) ?_
 refine ow_op (by simp only [zo] <;> exact rfl) ?_
 refine ow_op (by simp only [zo] <;> exact rfl) ?_
 refine ow_nil ?_
 refine sk_n (by simp only [exports, zn, zg] <;> exact rfl) ?_
 refine cw_seq (cw_seq (cw_region ?_))
 refine ow_op (by simp only [zl, zm, loadD_cptr, loadD_ptr, partD, List.take, List.drop, mkS_toList, nil_toList, mkS_size] <;> exact rfl) ?_
 refine ow_op (by simp only [zl, zm, loadD_cptr, loadD_ptr, partD, List.take, List.drop, mkS_toList, nil_toList, mkS_size] <;> exact rfl) ?_
 refine ow_op (by simp only [zo, mkS_toList, nil_toList, mkS_size]; exact both_run (by omega) _ true true a b ha hb) ?_
 refine ow_op (by simp only [zo] <;> exact rfl) ?_
 refine ow_nil ?_
 refine sk_n (by simp only [exports, zn, zg] <;> exact rfl) ?_
 refine cw_seq (cw_region ?_)
 refine ow_op (by simp only [zo] <;> exact rfl) ?_
 refine ow_op (by simp only [zo, binD, eq_self, ne_eq, not_false_eq_true, true_and, Int.reduceEq, ite_true, ite_false, not_true_eq_false, Int.reduceToNat, Int.reduceLT, mkS_toList, nil_toList, mkS_size] <;> exact rfl) ?_
 refine ow_nil ?_
 refine sk_n (by simp only [exports, zn, zg] <;> exact rfl) ?_
 skip
 refine cw_false (by simp only [opd, zv, mkS_toList, nil_toList, mkS_size] <;> rfl) ?_
 refine cw_skip (sk_n rfl (cw_seq (cw_region ?_)))
 refine ow_op (by simp only [zl, zm, loadD_cptr, loadD_ptr, partD, List.take, List.drop, mkS_toList, nil_toList, mkS_size] <;> exact rfl) ?_
 refine ow_op (by simp only [zl, zm, loadD_cptr, loadD_ptr, partD, List.take, List.drop, mkS_toList, nil_toList, mkS_size] <;> exact rfl) ?_
 refine ow_op (by simp only [zo, mkS_toList, nil_toList, mkS_size]; exact aligned_run (by omega) _ true true a b ha hb h1 h2) ?_
 refine ow_op (by simp only [zo] <;> exact rfl) ?_
 refine ow_op (by simp only [zo, List.getElem?_cons_zero, List.getElem?_cons_succ, mkS_toList, nil_toList, mkS_size] <;> exact rfl) ?_
 refine ow_op (by simp only [zo, List.getElem?_cons_zero, List.getElem?_cons_succ, mkS_toList, nil_toList, mkS_size] <;> exact rfl) ?_
 refine ow_op (by simp only [zo, List.getElem?_cons_zero, List.getElem?_cons_succ, mkS_toList, nil_toList, mkS_size] <;> exact rfl) ?_
 refine ow_op (by simp only [zo] <;> exact rfl) ?_
 refine ow_op (by simp only [zo] <;> exact rfl) ?_
 refine ow_op (by simp only [zo] <;> exact rfl) ?_
 refine ow_nil ?_
 refine sk_n (by simp only [exports, zn, zg] <;> exact rfl) ?_
 refine cw_seq (cw_block (cw_seq (cw_region ?_)))
 refine ow_op (by simp only [zo, faddrD_ptr, faddrD_cptr, zm, mkS_toList, nil_toList, mkS_size] <;> exact rfl) ?_
 refine ow_op (by simp only [zl, zm, loadD_cptr, loadD_ptr, partD, List.take, List.drop, mkS_toList, nil_toList, mkS_size] <;> exact rfl) ?_
 refine ow_op (by simp only [zo, faddrD_ptr, faddrD_cptr, zm, mkS_toList, nil_toList, mkS_size] <;> exact rfl) ?_
 refine ow_op (by simp only [zl, zm, loadD_cptr, loadD_ptr, partD, List.take, List.drop, mkS_toList, nil_toList, mkS_size] <;> exact rfl) ?_
 refine ow_op (by simp only [zo, mkS_toList, nil_toList, mkS_size] <;> exact rfl) ?_
 refine ow_op (by simp only [zo] <;> exact rfl) ?_
 refine ow_know 0 (b := false) (by simp only [opd, zv, mkS_toList, nil_toList, mkS_size] <;> rfl) (by simp only [zn] <;> exact rfl) ?_
 refine ow_off (b' := false) (by simp only [opd, zv]) rfl ?_
 refine ow_off (b' := false) (by simp only [opd, zv]) rfl ?_
 refine ow_op (by simp only [zo, mkS_toList, nil_toList, mkS_size] <;> exact rfl) ?_
 refine ow_op (by simp only [zo] <;> exact rfl) ?_
 refine ow_nil ?_
 refine sk_n (by simp only [exports, zn, zg] <;> exact rfl) ?_
 refine cw_false (by simp only [opd, zv, mkS_toList, nil_toList, mkS_size]) ?_
 refine cw_seq (cw_region ?_)
 refine ow_op (by simp only [zo, faddrD_ptr, faddrD_cptr, zm, mkS_toList, nil_toList, mkS_size] <;> exact rfl) ?_
 refine ow_op (by simp only [zl, zm, loadD_cptr, loadD_ptr, partD, List.take, List.drop, mkS_toList, nil_toList, mkS_size] <;> exact rfl) ?_
 refine ow_op (by simp only [zo, faddrD_ptr, faddrD_cptr, zm, mkS_toList, nil_toList, mkS_size] <;> exact rfl) ?_
 refine ow_op (by simp only [zl, zm, loadD_cptr, loadD_ptr, partD, List.take, List.drop, mkS_toList, nil_toList, mkS_size] <;> exact rfl) ?_
 refine ow_op (by simp only [zo, mkS_toList, nil_toList, mkS_size] <;> exact rfl) ?_
 refine ow_op (by simp only [zo] <;> exact rfl) ?_
 refine ow_nil ?_
 refine sk_n (by simp only [exports, zn, zg] <;> exact rfl) ?_
 skip
 refine cw_false (by simp only [opd, zv, mkS_toList, nil_toList, mkS_size] <;> rfl) ?_
 refine cw_seq (cw_region ?_)
 refine ow_op (by simp only [zo, faddrD_ptr, faddrD_cptr, zm, mkS_toList, nil_toList, mkS_size] <;> exact rfl) ?_
 refine ow_op (by simp only [zl, zm, loadD_cptr, loadD_ptr, partD, List.take, List.drop, mkS_toList, nil_toList, mkS_size] <;> exact rfl) ?_
 refine ow_op (by simp only [zo] <;> exact rfl) ?_
 refine ow_nil ?_
 refine sk_n (by simp only [exports, zn, zg] <;> exact rfl) ?_
 skip
 refine cw_true (by simp only [opd, zv, mkS_toList, nil_toList, mkS_size] <;> rfl) ?_
 refine cw_seq (cw_region ?_)
 refine ow_op (by simp only [zo] <;> exact rfl) ?_
 refine ow_op (by simp only [zo] <;> exact rfl) ?_
 refine ow_op (by simp only [zo, mkS_toList, nil_toList, mkS_size]; exact cmpS_run (by omega) _ _ _) ?_
 refine ow_op (by simp only [zo] <;> exact rfl) ?_
 refine ow_op (by simp only [zo] <;> exact rfl) ?_
 refine ow_nil ?_
 refine sk_n (by simp only [exports, zn, zg] <;> exact rfl) ?_
 refine cw_ret (bk_r (sk_r ?_))
 refine ⟨_, by simp only [F52, resultD, resDs, resD, List.getD_cons_zero, List.getD_cons_succ, loadD_cptr, loadD_ptr, rowsOf, partD, List.getElem?_cons_zero, List.getElem?_cons_succ, if_true, if_false, Bool.false_eq_true, List.take, List.drop, zm] <;> exact rfl, ?_⟩
 rfl

theorem decCmp_tf {d : Nat} (hd : 8 ≤ d) (S : St) (a b : List UInt8) (ha : Nrm true a) (hb : Nrm false b) (h1 : a.length < b.length + 7) (h2 : b.length < a.length + 7) : runF LP NN d 52 [.agg [.bool true, .str (mkS a), .int .i64 0], .agg [.bool false, .str (mkS b), .int .i64 0]] S = some (.tup [.int .i64 (cmpN true false a b), .int .i64 0], S, false) := by
 refine run_pure (F := F52) rfl (by simp only [LP, fnOf, snapVs, snaps, zs, Bool.false_eq_true, if_false, Option.map_some, List.map_cons, List.map_nil] <;> exact rfl) rfl (by simp only [LP, zf, List.all_cons, List.all_nil, Bool.and_true, Bool.true_and]; try rfl) (by simp only [F52, zv] <;> exact rfl) (by omega) ?_
 rintro d rfl
 refine cw_seq (cw_region ?_)
 refine ow_op (by simp only [zl, zm, zc, mkS_toList, nil_toList, mkS_size] <;> exact rfl) ?_
 refine ow_op (by simp only [zl, zm, zc, mkS_toList, nil_toList, mkS_size] <;> exact rfl) ?_
 refine ow_op (by simp only [zo] <;> exact rfl) ?_
 refine ow_op (by simp only [zo] <;> exact rfl) ?_
 refine ow_nil ?_
 refine sk_n (by simp only [exports, zn, zg] <;> exact rfl) ?_
 refine cw_seq (cw_seq (cw_region ?_))
 refine ow_op (by simp only [zl, zm, loadD_cptr, loadD_ptr, partD, List.take, List.drop, mkS_toList, nil_toList, mkS_size] <;> exact rfl) ?_
 refine ow_op (by simp only [zl, zm, loadD_cptr, loadD_ptr, partD, List.take, List.drop, mkS_toList, nil_toList, mkS_size] <;> exact rfl) ?_
 refine ow_op (by simp only [zo, mkS_toList, nil_toList, mkS_size]; exact both_run (by omega) _ true false a b ha hb) ?_
 refine ow_op (by simp only [zo] <;> exact rfl) ?_
 refine ow_nil ?_
 refine sk_n (by simp only [exports, zn, zg] <;> exact rfl) ?_
 refine cw_seq (cw_region ?_)
 refine ow_op (by simp only [zo] <;> exact rfl) ?_
 refine ow_op (by simp only [zo, binD, eq_self, ne_eq, not_false_eq_true, true_and, Int.reduceEq, ite_true, ite_false, not_true_eq_false, Int.reduceToNat, Int.reduceLT, mkS_toList, nil_toList, mkS_size] <;> exact rfl) ?_
 refine ow_nil ?_
 refine sk_n (by simp only [exports, zn, zg] <;> exact rfl) ?_
 skip
 refine cw_false (by simp only [opd, zv, mkS_toList, nil_toList, mkS_size] <;> rfl) ?_
 refine cw_skip (sk_n rfl (cw_seq (cw_region ?_)))
 refine ow_op (by simp only [zl, zm, loadD_cptr, loadD_ptr, partD, List.take, List.drop, mkS_toList, nil_toList, mkS_size] <;> exact rfl) ?_
 refine ow_op (by simp only [zl, zm, loadD_cptr, loadD_ptr, partD, List.take, List.drop, mkS_toList, nil_toList, mkS_size] <;> exact rfl) ?_
 refine ow_op (by simp only [zo, mkS_toList, nil_toList, mkS_size]; exact aligned_run (by omega) _ true false a b ha hb h1 h2) ?_
 refine ow_op (by simp only [zo] <;> exact rfl) ?_
 refine ow_op (by simp only [zo, List.getElem?_cons_zero, List.getElem?_cons_succ, mkS_toList, nil_toList, mkS_size] <;> exact rfl) ?_
 refine ow_op (by simp only [zo, List.getElem?_cons_zero, List.getElem?_cons_succ, mkS_toList, nil_toList, mkS_size] <;> exact rfl) ?_
 refine ow_op (by simp only [zo, List.getElem?_cons_zero, List.getElem?_cons_succ, mkS_toList, nil_toList, mkS_size] <;> exact rfl) ?_
 refine ow_op (by simp only [zo] <;> exact rfl) ?_
 refine ow_op (by simp only [zo] <;> exact rfl) ?_
 refine ow_op (by simp only [zo] <;> exact rfl) ?_
 refine ow_nil ?_
 refine sk_n (by simp only [exports, zn, zg] <;> exact rfl) ?_
 refine cw_seq (cw_block (cw_seq (cw_region ?_)))
 refine ow_op (by simp only [zo, faddrD_ptr, faddrD_cptr, zm, mkS_toList, nil_toList, mkS_size] <;> exact rfl) ?_
 refine ow_op (by simp only [zl, zm, loadD_cptr, loadD_ptr, partD, List.take, List.drop, mkS_toList, nil_toList, mkS_size] <;> exact rfl) ?_
 refine ow_op (by simp only [zo, faddrD_ptr, faddrD_cptr, zm, mkS_toList, nil_toList, mkS_size] <;> exact rfl) ?_
 refine ow_op (by simp only [zl, zm, loadD_cptr, loadD_ptr, partD, List.take, List.drop, mkS_toList, nil_toList, mkS_size] <;> exact rfl) ?_
 refine ow_op (by simp only [zo, mkS_toList, nil_toList, mkS_size] <;> exact rfl) ?_
 refine ow_op (by simp only [zo] <;> exact rfl) ?_
 refine ow_know 0 (b := true) (by simp only [opd, zv, mkS_toList, nil_toList, mkS_size] <;> rfl) (by simp only [zn] <;> exact rfl) ?_
 refine ow_on (by simp only [opd, zv]) ?_
 refine ow_op (by simp only [zo, faddrD_ptr, faddrD_cptr, zm, mkS_toList, nil_toList, mkS_size] <;> exact rfl) ?_
 refine ow_on (by simp only [opd, zv]) ?_
 refine ow_op (by simp only [zl, zm, loadD_cptr, loadD_ptr, partD, List.take, List.drop, mkS_toList, nil_toList, mkS_size] <;> exact rfl) ?_
 refine ow_op (by simp only [zo, mkS_toList, nil_toList, mkS_size] <;> exact rfl) ?_
 refine ow_op (by simp only [zo] <;> exact rfl) ?_
 refine ow_nil ?_
 refine sk_n (by simp only [exports, zn, zg] <;> exact rfl) ?_
 skip
 refine cw_true (by simp only [opd, zv, mkS_toList, nil_toList, mkS_size] <;> rfl) ?_
 refine cw_seq (cw_region ?_)
 refine ow_op (by simp only [zo] <;> exact rfl) ?_
 refine ow_op (by simp only [zo] <;> exact rfl) ?_
 refine ow_nil ?_
 refine sk_n (by simp only [exports, zn, zg] <;> exact rfl) ?_
 refine cw_ret (bk_r (sk_r ?_))
 refine ⟨_, by simp only [F52, resultD, resDs, resD, List.getD_cons_zero, List.getD_cons_succ, loadD_cptr, loadD_ptr, rowsOf, partD, List.getElem?_cons_zero, List.getElem?_cons_succ, if_true, if_false, Bool.false_eq_true, List.take, List.drop, zm] <;> exact rfl, ?_⟩
 rfl

theorem decCmp_ft {d : Nat} (hd : 8 ≤ d) (S : St) (a b : List UInt8) (ha : Nrm false a) (hb : Nrm true b) (h1 : a.length < b.length + 7) (h2 : b.length < a.length + 7) : runF LP NN d 52 [.agg [.bool false, .str (mkS a), .int .i64 0], .agg [.bool true, .str (mkS b), .int .i64 0]] S = some (.tup [.int .i64 (cmpN false true a b), .int .i64 0], S, false) := by
 refine run_pure (F := F52) rfl (by simp only [LP, fnOf, snapVs, snaps, zs, Bool.false_eq_true, if_false, Option.map_some, List.map_cons, List.map_nil] <;> exact rfl) rfl (by simp only [LP, zf, List.all_cons, List.all_nil, Bool.and_true, Bool.true_and]; try rfl) (by simp only [F52, zv] <;> exact rfl) (by omega) ?_
 rintro d rfl
 refine cw_seq (cw_region ?_)
 refine ow_op (by simp only [zl, zm, zc, mkS_toList, nil_toList, mkS_size] <;> exact rfl) ?_
 refine ow_op (by simp only [zl, zm, zc, mkS_toList, nil_toList, mkS_size] <;> exact rfl) ?_
 refine ow_op (by simp only [zo] <;> exact rfl) ?_
 refine ow_op (by simp only [zo] <;> exact rfl) ?_
 refine ow_nil ?_
 refine sk_n (by simp only [exports, zn, zg] <;> exact rfl) ?_
 refine cw_seq (cw_seq (cw_region ?_))
 refine ow_op (by simp only [zl, zm, loadD_cptr, loadD_ptr, partD, List.take, List.drop, mkS_toList, nil_toList, mkS_size] <;> exact rfl) ?_
 refine ow_op (by simp only [zl, zm, loadD_cptr, loadD_ptr, partD, List.take, List.drop, mkS_toList, nil_toList, mkS_size] <;> exact rfl) ?_
 refine ow_op (by simp only [zo, mkS_toList, nil_toList, mkS_size]; exact both_run (by omega) _ false true a b ha hb) ?_
 refine ow_op (by simp only [zo] <;> exact rfl) ?_
 refine ow_nil ?_
 refine sk_n (by simp only [exports, zn, zg] <;> exact rfl) ?_
 refine cw_seq (cw_region ?_)
 refine ow_op (by simp only [zo] <;> exact rfl) ?_
 refine ow_op (by simp only [zo, binD, eq_self, ne_eq, not_false_eq_true, true_and, Int.reduceEq, ite_true, ite_false, not_true_eq_false, Int.reduceToNat, Int.reduceLT, mkS_toList, nil_toList, mkS_size] <;> exact rfl) ?_
 refine ow_nil ?_
 refine sk_n (by simp only [exports, zn, zg] <;> exact rfl) ?_
 skip
 refine cw_false (by simp only [opd, zv, mkS_toList, nil_toList, mkS_size] <;> rfl) ?_
 refine cw_skip (sk_n rfl (cw_seq (cw_region ?_)))
 refine ow_op (by simp only [zl, zm, loadD_cptr, loadD_ptr, partD, List.take, List.drop, mkS_toList, nil_toList, mkS_size] <;> exact rfl) ?_
 refine ow_op (by simp only [zl, zm, loadD_cptr, loadD_ptr, partD, List.take, List.drop, mkS_toList, nil_toList, mkS_size] <;> exact rfl) ?_
 refine ow_op (by simp only [zo, mkS_toList, nil_toList, mkS_size]; exact aligned_run (by omega) _ false true a b ha hb h1 h2) ?_
 refine ow_op (by simp only [zo] <;> exact rfl) ?_
 refine ow_op (by simp only [zo, List.getElem?_cons_zero, List.getElem?_cons_succ, mkS_toList, nil_toList, mkS_size] <;> exact rfl) ?_
 refine ow_op (by simp only [zo, List.getElem?_cons_zero, List.getElem?_cons_succ, mkS_toList, nil_toList, mkS_size] <;> exact rfl) ?_
 refine ow_op (by simp only [zo, List.getElem?_cons_zero, List.getElem?_cons_succ, mkS_toList, nil_toList, mkS_size] <;> exact rfl) ?_
 refine ow_op (by simp only [zo] <;> exact rfl) ?_
 refine ow_op (by simp only [zo] <;> exact rfl) ?_
 refine ow_op (by simp only [zo] <;> exact rfl) ?_
 refine ow_nil ?_
 refine sk_n (by simp only [exports, zn, zg] <;> exact rfl) ?_
 refine cw_seq (cw_block (cw_seq (cw_region ?_)))
 refine ow_op (by simp only [zo, faddrD_ptr, faddrD_cptr, zm, mkS_toList, nil_toList, mkS_size] <;> exact rfl) ?_
 refine ow_op (by simp only [zl, zm, loadD_cptr, loadD_ptr, partD, List.take, List.drop, mkS_toList, nil_toList, mkS_size] <;> exact rfl) ?_
 refine ow_op (by simp only [zo, faddrD_ptr, faddrD_cptr, zm, mkS_toList, nil_toList, mkS_size] <;> exact rfl) ?_
 refine ow_op (by simp only [zl, zm, loadD_cptr, loadD_ptr, partD, List.take, List.drop, mkS_toList, nil_toList, mkS_size] <;> exact rfl) ?_
 refine ow_op (by simp only [zo, mkS_toList, nil_toList, mkS_size] <;> exact rfl) ?_
 refine ow_op (by simp only [zo] <;> exact rfl) ?_
 refine ow_know 0 (b := true) (by simp only [opd, zv, mkS_toList, nil_toList, mkS_size] <;> rfl) (by simp only [zn] <;> exact rfl) ?_
 refine ow_on (by simp only [opd, zv]) ?_
 refine ow_op (by simp only [zo, faddrD_ptr, faddrD_cptr, zm, mkS_toList, nil_toList, mkS_size] <;> exact rfl) ?_
 refine ow_on (by simp only [opd, zv]) ?_
 refine ow_op (by simp only [zl, zm, loadD_cptr, loadD_ptr, partD, List.take, List.drop, mkS_toList, nil_toList, mkS_size] <;> exact rfl) ?_
 refine ow_op (by simp only [zo, mkS_toList, nil_toList, mkS_size] <;> exact rfl) ?_
 refine ow_op (by simp only [zo] <;> exact rfl) ?_
 refine ow_nil ?_
 refine sk_n (by simp only [exports, zn, zg] <;> exact rfl) ?_
 skip
 refine cw_false (by simp only [opd, zv, mkS_toList, nil_toList, mkS_size] <;> rfl) ?_
 refine cw_seq (cw_region ?_)
 refine ow_op (by simp only [zo, faddrD_ptr, faddrD_cptr, zm, mkS_toList, nil_toList, mkS_size] <;> exact rfl) ?_
 refine ow_op (by simp only [zl, zm, loadD_cptr, loadD_ptr, partD, List.take, List.drop, mkS_toList, nil_toList, mkS_size] <;> exact rfl) ?_
 refine ow_op (by simp only [zo, faddrD_ptr, faddrD_cptr, zm, mkS_toList, nil_toList, mkS_size] <;> exact rfl) ?_
 refine ow_op (by simp only [zl, zm, loadD_cptr, loadD_ptr, partD, List.take, List.drop, mkS_toList, nil_toList, mkS_size] <;> exact rfl) ?_
 refine ow_op (by simp only [zo, mkS_toList, nil_toList, mkS_size] <;> exact rfl) ?_
 refine ow_op (by simp only [zo] <;> exact rfl) ?_
 refine ow_nil ?_
 refine sk_n (by simp only [exports, zn, zg] <;> exact rfl) ?_
 skip
 refine cw_true (by simp only [opd, zv, mkS_toList, nil_toList, mkS_size] <;> rfl) ?_
 refine cw_seq (cw_region ?_)
 refine ow_op (by simp only [zo] <;> exact rfl) ?_
 refine ow_op (by simp only [zo] <;> exact rfl) ?_
 refine ow_nil ?_
 refine sk_n (by simp only [exports, zn, zg] <;> exact rfl) ?_
 refine cw_ret (bk_r (sk_r ?_))
 refine ⟨_, by simp only [F52, resultD, resDs, resD, List.getD_cons_zero, List.getD_cons_succ, loadD_cptr, loadD_ptr, rowsOf, partD, List.getElem?_cons_zero, List.getElem?_cons_succ, if_true, if_false, Bool.false_eq_true, List.take, List.drop, zm] <;> exact rfl, ?_⟩
 rfl

theorem decCmp_ff {d : Nat} (hd : 8 ≤ d) (S : St) (a b : List UInt8) (ha : Nrm false a) (hb : Nrm false b) (h1 : a.length < b.length + 7) (h2 : b.length < a.length + 7) : runF LP NN d 52 [.agg [.bool false, .str (mkS a), .int .i64 0], .agg [.bool false, .str (mkS b), .int .i64 0]] S = some (.tup [.int .i64 (cmpN false false a b), .int .i64 0], S, false) := by
 refine run_pure (F := F52) rfl (by simp only [LP, fnOf, snapVs, snaps, zs, Bool.false_eq_true, if_false, Option.map_some, List.map_cons, List.map_nil] <;> exact rfl) rfl (by simp only [LP, zf, List.all_cons, List.all_nil, Bool.and_true, Bool.true_and]; try rfl) (by simp only [F52, zv] <;> exact rfl) (by omega) ?_
 rintro d rfl
 refine cw_seq (cw_region ?_)
 refine ow_op (by simp only [zl, zm, zc, mkS_toList, nil_toList, mkS_size] <;> exact rfl) ?_
 refine ow_op (by simp only [zl, zm, zc, mkS_toList, nil_toList, mkS_size] <;> exact rfl) ?_
 refine ow_op (by simp only [zo] <;> exact rfl) ?_
 refine ow_op (by simp only [zo] <;> exact rfl) ?_
 refine ow_nil ?_
 refine sk_n (by simp only [exports, zn, zg] <;> exact rfl) ?_
 refine cw_seq (cw_seq (cw_region ?_))
 refine ow_op (by simp only [zl, zm, loadD_cptr, loadD_ptr, partD, List.take, List.drop, mkS_toList, nil_toList, mkS_size] <;> exact rfl) ?_
 refine ow_op (by simp only [zl, zm, loadD_cptr, loadD_ptr, partD, List.take, List.drop, mkS_toList, nil_toList, mkS_size] <;> exact rfl) ?_
 refine ow_op (by simp only [zo, mkS_toList, nil_toList, mkS_size]; exact both_run (by omega) _ false false a b ha hb) ?_
 refine ow_op (by simp only [zo] <;> exact rfl) ?_
 refine ow_nil ?_
 refine sk_n (by simp only [exports, zn, zg] <;> exact rfl) ?_
 refine cw_seq (cw_region ?_)
 refine ow_op (by simp only [zo] <;> exact rfl) ?_
 refine ow_op (by simp only [zo, binD, eq_self, ne_eq, not_false_eq_true, true_and, Int.reduceEq, ite_true, ite_false, not_true_eq_false, Int.reduceToNat, Int.reduceLT, mkS_toList, nil_toList, mkS_size] <;> exact rfl) ?_
 refine ow_nil ?_
 refine sk_n (by simp only [exports, zn, zg] <;> exact rfl) ?_
 skip
 refine cw_false (by simp only [opd, zv, mkS_toList, nil_toList, mkS_size] <;> rfl) ?_
 refine cw_skip (sk_n rfl (cw_seq (cw_region ?_)))
 refine ow_op (by simp only [zl, zm, loadD_cptr, loadD_ptr, partD, List.take, List.drop, mkS_toList, nil_toList, mkS_size] <;> exact rfl) ?_
 refine ow_op (by simp only [zl, zm, loadD_cptr, loadD_ptr, partD, List.take, List.drop, mkS_toList, nil_toList, mkS_size] <;> exact rfl) ?_
 refine ow_op (by simp only [zo, mkS_toList, nil_toList, mkS_size]; exact aligned_run (by omega) _ false false a b ha hb h1 h2) ?_
 refine ow_op (by simp only [zo] <;> exact rfl) ?_
 refine ow_op (by simp only [zo, List.getElem?_cons_zero, List.getElem?_cons_succ, mkS_toList, nil_toList, mkS_size] <;> exact rfl) ?_
 refine ow_op (by simp only [zo, List.getElem?_cons_zero, List.getElem?_cons_succ, mkS_toList, nil_toList, mkS_size] <;> exact rfl) ?_
 refine ow_op (by simp only [zo, List.getElem?_cons_zero, List.getElem?_cons_succ, mkS_toList, nil_toList, mkS_size] <;> exact rfl) ?_
 refine ow_op (by simp only [zo] <;> exact rfl) ?_
 refine ow_op (by simp only [zo] <;> exact rfl) ?_
 refine ow_op (by simp only [zo] <;> exact rfl) ?_
 refine ow_nil ?_
 refine sk_n (by simp only [exports, zn, zg] <;> exact rfl) ?_
 refine cw_seq (cw_block (cw_seq (cw_region ?_)))
 refine ow_op (by simp only [zo, faddrD_ptr, faddrD_cptr, zm, mkS_toList, nil_toList, mkS_size] <;> exact rfl) ?_
 refine ow_op (by simp only [zl, zm, loadD_cptr, loadD_ptr, partD, List.take, List.drop, mkS_toList, nil_toList, mkS_size] <;> exact rfl) ?_
 refine ow_op (by simp only [zo, faddrD_ptr, faddrD_cptr, zm, mkS_toList, nil_toList, mkS_size] <;> exact rfl) ?_
 refine ow_op (by simp only [zl, zm, loadD_cptr, loadD_ptr, partD, List.take, List.drop, mkS_toList, nil_toList, mkS_size] <;> exact rfl) ?_
 refine ow_op (by simp only [zo, mkS_toList, nil_toList, mkS_size] <;> exact rfl) ?_
 refine ow_op (by simp only [zo] <;> exact rfl) ?_
 refine ow_know 0 (b := false) (by simp only [opd, zv, mkS_toList, nil_toList, mkS_size] <;> rfl) (by simp only [zn] <;> exact rfl) ?_
 refine ow_off (b' := false) (by simp only [opd, zv]) rfl ?_
 refine ow_off (b' := false) (by simp only [opd, zv]) rfl ?_
 refine ow_op (by simp only [zo, mkS_toList, nil_toList, mkS_size] <;> exact rfl) ?_
 refine ow_op (by simp only [zo] <;> exact rfl) ?_
 refine ow_nil ?_
 refine sk_n (by simp only [exports, zn, zg] <;> exact rfl) ?_
 refine cw_false (by simp only [opd, zv, mkS_toList, nil_toList, mkS_size]) ?_
 refine cw_seq (cw_region ?_)
 refine ow_op (by simp only [zo, faddrD_ptr, faddrD_cptr, zm, mkS_toList, nil_toList, mkS_size] <;> exact rfl) ?_
 refine ow_op (by simp only [zl, zm, loadD_cptr, loadD_ptr, partD, List.take, List.drop, mkS_toList, nil_toList, mkS_size] <;> exact rfl) ?_
 refine ow_op (by simp only [zo, faddrD_ptr, faddrD_cptr, zm, mkS_toList, nil_toList, mkS_size] <;> exact rfl) ?_
 refine ow_op (by simp only [zl, zm, loadD_cptr, loadD_ptr, partD, List.take, List.drop, mkS_toList, nil_toList, mkS_size] <;> exact rfl) ?_
 refine ow_op (by simp only [zo, mkS_toList, nil_toList, mkS_size] <;> exact rfl) ?_
 refine ow_op (by simp only [zo] <;> exact rfl) ?_
 refine ow_nil ?_
 refine sk_n (by simp only [exports, zn, zg] <;> exact rfl) ?_
 skip
 refine cw_false (by simp only [opd, zv, mkS_toList, nil_toList, mkS_size] <;> rfl) ?_
 refine cw_seq (cw_region ?_)
 refine ow_op (by simp only [zo, faddrD_ptr, faddrD_cptr, zm, mkS_toList, nil_toList, mkS_size] <;> exact rfl) ?_
 refine ow_op (by simp only [zl, zm, loadD_cptr, loadD_ptr, partD, List.take, List.drop, mkS_toList, nil_toList, mkS_size] <;> exact rfl) ?_
 refine ow_op (by simp only [zo] <;> exact rfl) ?_
 refine ow_nil ?_
 refine sk_n (by simp only [exports, zn, zg] <;> exact rfl) ?_
 skip
 refine cw_false (by simp only [opd, zv, mkS_toList, nil_toList, mkS_size] <;> rfl) ?_
 refine cw_skip (bk_n (sk_n rfl (cw_seq (cw_region ?_))))
 refine ow_op (by simp only [zo] <;> exact rfl) ?_
 refine ow_op (by simp only [zo] <;> exact rfl) ?_
 refine ow_op (by simp only [zo, mkS_toList, nil_toList, mkS_size]; exact cmpS_run (by omega) _ _ _) ?_
 refine ow_op (by simp only [zo] <;> exact rfl) ?_
 refine ow_op (by simp only [zo] <;> exact rfl) ?_
 refine ow_nil ?_
 refine sk_n (by simp only [exports, zn, zg] <;> exact rfl) ?_
 refine cw_ret ?_
 refine ⟨_, by simp only [F52, resultD, resDs, resD, List.getD_cons_zero, List.getD_cons_succ, loadD_cptr, loadD_ptr, rowsOf, partD, List.getElem?_cons_zero, List.getElem?_cons_succ, if_true, if_false, Bool.false_eq_true, List.take, List.drop, zm] <;> exact rfl, ?_⟩
 rfl

theorem decCmp_run {d : Nat} (hd : 8 ≤ d) (S : St) (na nb : Bool) (a b : List UInt8) (ha : Nrm na a) (hb : Nrm nb b) (h1 : a.length < b.length + 7) (h2 : b.length < a.length + 7) : runF LP NN d 52 [.agg [.bool na, .str (mkS a), .int .i64 0], .agg [.bool nb, .str (mkS b), .int .i64 0]] S = some (.tup [.int .i64 (cmpN na nb a b), .int .i64 0], S, false) := by
 cases na <;> cases nb
 ·
  exact decCmp_ff hd S a b ha hb h1 h2
 ·
  exact decCmp_ft hd S a b ha hb h1 h2
 ·
  exact decCmp_tf hd S a b ha hb h1 h2
 ·
  exact decCmp_tt hd S a b ha hb h1 h2

end Go.Proofs.YtabgobmeibjeeaaGreatDoor

/- Proved here: what functions of the program compute, in the abstract machine; no condition. -/
import Derived.Test.YtabgobmeibjeeaaGreatDoorS9
namespace Go.Proofs.YtabgobmeibjeeaaGreatDoor
set_option linter.unusedSimpArgs false
set_option linter.unusedVariables false
set_option maxRecDepth 10000

/-- a key that is valid for records of a size -/
structure KOK (size : Nat) (k : Ke) : Prop where
 n1 : 1 ≤ k.n
 fit : k.a + k.n ≤ size
 hz : k.sz = k.n
 kd : k.cat = 2 ∨ (k.cat = 4 ∧ ∃ e : Int, (e = 0 ∨ e = 15) ∧ ∀ (d : Nat) (S : St), 14 ≤ d → runF LP NN d 78 [.agg [.int .u8 k.cat, .int .u8 k.us, .str k.pic, .int .i64 k.dg, .int .i64 k.sc, .bool k.sg, .bool k.le, .bool k.se, .bool k.ju, .bool k.bl, .int .i64 k.sz, .sl 1 (List.replicate k.n [.int .u8 0]) (some k.n)]] S = some (.int .i64 e, S, false))

theorem keyVT {d : Nat} (hd : 16 ≤ d) (S : St) (k : Ke) (size : Nat) (hs : size ≤ 4096) (h : KOK size k) (hc2 : k.cat = 2) : runF LP NN d 46 [.agg [.int .i64 k.a, .int .i64 k.n, .int .u8 k.cat, .int .u8 k.us, .str k.pic, .int .i64 k.dg, .int .i64 k.sc, .bool k.sg, .bool k.le, .bool k.se, .bool k.ju, .bool k.bl, .int .i64 k.sz, .bool k.dn], .int .i64 size] S = some (.bool true, S, false) := by
 have f1 : decide ((k.a : Int) < 0) = false := decide_eq_false (by omega)
 have f2 : decide ((k.n : Int) < 1) = false := decide_eq_false (by have := h.n1; omega)
 have f3 : decide ((k.n : Int) > (size : Int)) = false := decide_eq_false (by have := h.fit; omega)
 have f4 : decide ((k.a : Int) > IntKind.i64.wrap ((size : Int) - (k.n : Int))) = false := decide_eq_false (by have := h.fit; rw [IntKind.wrap_i64]; omega)
 have f5 : (k.sz != (k.n : Int)) = false := by rw [h.hz]; simp
 refine run_pure (F := F46) rfl (by simp only [LP, fnOf, snapVs, snaps, zs, Bool.false_eq_true, if_false, Option.map_some, List.map_cons, List.map_nil] <;> exact rfl) rfl (by simp only [LP, zf, List.all_cons, List.all_nil, Bool.and_true, Bool.true_and]; try rfl) (by simp only [F46, zv] <;> exact rfl) (by omega) ?_
 rintro d rfl
 refine cw_seq (cw_region ?_)
 refine ow_op (by simp only [zl, zm, zc, f1, f2, f3, f4, f5] <;> exact rfl) ?_
 refine ow_op (by simp only [zo] <;> exact rfl) ?_
 refine ow_nil ?_
 refine sk_n (by simp only [exports, zn, zg] <;> exact rfl) ?_
 refine cw_seq (cw_region ?_)
 refine ow_op (by simp only [zo, faddrD_ptr, faddrD_cptr, zm, f1, f2, f3, f4, f5] <;> exact rfl) ?_
 refine ow_op (by simp only [zl, zm, loadD_cptr, loadD_ptr, partD, List.take, List.drop, f1, f2, f3, f4, f5] <;> exact rfl) ?_
 refine ow_op (by simp only [zl, zm, f1, f2, f3, f4, f5] <;> exact rfl) ?_
 refine ow_op (by simp only [zl, zm, storeD, overlay, snapVs, snaps, zs, zc, zf, List.take, List.drop, f1, f2, f3, f4, f5] <;> exact rfl) ?_
 refine ow_nil ?_
 refine sk_n (by simp only [exports, zn, zg] <;> exact rfl) ?_
 refine cw_seq (cw_seq (cw_region ?_))
 refine ow_op (by simp only [zo, faddrD_ptr, faddrD_cptr, zm, f1, f2, f3, f4, f5] <;> exact rfl) ?_
 refine ow_op (by simp only [zl, zm, loadD_cptr, loadD_ptr, partD, List.take, List.drop, f1, f2, f3, f4, f5] <;> exact rfl) ?_
 refine ow_op (by simp only [zo, binD, eq_self, ne_eq, not_false_eq_true, true_and, Int.reduceEq, ite_true, ite_false, not_true_eq_false, Int.reduceToNat, Int.reduceLT, f1, f2, f3, f4, f5] <;> exact rfl) ?_
 refine ow_op (by simp only [zo] <;> exact rfl) ?_
 refine ow_know 0 (b := false) (by simp only [opd, zv, f1, f2, f3, f4, f5] <;> rfl) (by simp only [zn] <;> exact rfl) ?_
 refine ow_on (by simp only [opd, zv]) ?_
 refine ow_op (by simp only [zo, faddrD_ptr, faddrD_cptr, zm, f1, f2, f3, f4, f5] <;> exact rfl) ?_
 refine ow_on (by simp only [opd, zv]) ?_
 refine ow_op (by simp only [zl, zm, loadD_cptr, loadD_ptr, partD, List.take, List.drop, f1, f2, f3, f4, f5] <;> exact rfl) ?_
 refine ow_on (by simp only [opd, zv]) ?_
 refine ow_op (by simp only [zo, binD, eq_self, ne_eq, not_false_eq_true, true_and, Int.reduceEq, ite_true, ite_false, not_true_eq_false, Int.reduceToNat, Int.reduceLT, f1, f2, f3, f4, f5] <;> exact rfl) ?_
 refine ow_op (by simp only [zo, f1, f2, f3, f4, f5] <;> exact rfl) ?_
 refine ow_op (by simp only [zo] <;> exact rfl) ?_
 refine ow_know 0 (b := false) (by simp only [opd, zv, f1, f2, f3, f4, f5] <;> rfl) (by simp only [zn] <;> exact rfl) ?_
 refine ow_on (by simp only [opd, zv]) ?_
 refine ow_op (by simp only [zo, faddrD_ptr, faddrD_cptr, zm, f1, f2, f3, f4, f5] <;> exact rfl) ?_
 refine ow_on (by simp only [opd, zv]) ?_
 refine ow_op (by simp only [zl, zm, loadD_cptr, loadD_ptr, partD, List.take, List.drop, f1, f2, f3, f4, f5] <;> exact rfl) ?_
 refine ow_on (by simp only [opd, zv]) ?_
 refine ow_op (by simp only [zo] <;> exact rfl) ?_
 refine ow_on (by simp only [opd, zv]) ?_
 refine ow_op (by simp only [zo, binD, eq_self, ne_eq, not_false_eq_true, true_and, Int.reduceEq, ite_true, ite_false, not_true_eq_false, Int.reduceToNat, Int.reduceLT, f1, f2, f3, f4, f5] <;> exact rfl) ?_
 refine ow_op (by simp only [zo, f1, f2, f3, f4, f5] <;> exact rfl) ?_
 refine ow_op (by simp only [zo] <;> exact rfl) ?_
 refine ow_know 0 (b := false) (by simp only [opd, zv, f1, f2, f3, f4, f5] <;> rfl) (by simp only [zn] <;> exact rfl) ?_
 refine ow_on (by simp only [opd, zv]) ?_
 refine ow_op (by simp only [zo, faddrD_ptr, faddrD_cptr, zm, f1, f2, f3, f4, f5] <;> exact rfl) ?_
 refine ow_on (by simp only [opd, zv]) ?_
 refine ow_op (by simp only [zl, zm, loadD_cptr, loadD_ptr, partD, List.take, List.drop, f1, f2, f3, f4, f5] <;> exact rfl) ?_
 refine ow_on (by simp only [opd, zv]) ?_
 refine ow_op (by simp only [zo] <;> exact rfl) ?_
 refine ow_on (by simp only [opd, zv]) ?_
 refine ow_op (by simp only [zo, faddrD_ptr, faddrD_cptr, zm, f1, f2, f3, f4, f5] <;> exact rfl) ?_
 refine ow_on (by simp only [opd, zv]) ?_
 refine ow_op (by simp only [zl, zm, loadD_cptr, loadD_ptr, partD, List.take, List.drop, f1, f2, f3, f4, f5] <;> exact rfl) ?_
 refine ow_on (by simp only [opd, zv]) ?_
 refine ow_op (by simp only [zo, binD, eq_self, ne_eq, not_false_eq_true, true_and, Int.reduceEq, ite_true, ite_false, not_true_eq_false, Int.reduceToNat, Int.reduceLT, f1, f2, f3, f4, f5] <;> exact rfl) ?_
 refine ow_on (by simp only [opd, zv]) ?_
 refine ow_op (by simp only [zo, binD, eq_self, ne_eq, not_false_eq_true, true_and, Int.reduceEq, ite_true, ite_false, not_true_eq_false, Int.reduceToNat, Int.reduceLT, f1, f2, f3, f4, f5] <;> exact rfl) ?_
 refine ow_op (by simp only [zo, f1, f2, f3, f4, f5] <;> exact rfl) ?_
 refine ow_op (by simp only [zo] <;> exact rfl) ?_
 refine ow_know 0 (b := false) (by simp only [opd, zv, f1, f2, f3, f4, f5] <;> rfl) (by simp only [zn] <;> exact rfl) ?_
 refine ow_on (by simp only [opd, zv]) ?_
 refine ow_op (by simp only [zo, faddrD_ptr, faddrD_cptr, zm, f1, f2, f3, f4, f5] <;> exact rfl) ?_
 refine ow_on (by simp only [opd, zv]) ?_
 refine ow_op (by simp only [zo, faddrD_ptr, faddrD_cptr, zm, f1, f2, f3, f4, f5] <;> exact rfl) ?_
 refine ow_on (by simp only [opd, zv]) ?_
 refine ow_op (by simp only [zl, zm, loadD_cptr, loadD_ptr, partD, List.take, List.drop, f1, f2, f3, f4, f5] <;> exact rfl) ?_
 refine ow_on (by simp only [opd, zv]) ?_
 refine ow_op (by simp only [zo, faddrD_ptr, faddrD_cptr, zm, f1, f2, f3, f4, f5] <;> exact rfl) ?_
 refine ow_on (by simp only [opd, zv]) ?_
 refine ow_op (by simp only [zl, zm, loadD_cptr, loadD_ptr, partD, List.take, List.drop, f1, f2, f3, f4, f5] <;> exact rfl) ?_
 refine ow_on (by simp only [opd, zv]) ?_
 refine ow_op (by simp only [zo, binD, eq_self, ne_eq, not_false_eq_true, true_and, Int.reduceEq, ite_true, ite_false, not_true_eq_false, Int.reduceToNat, Int.reduceLT, f1, f2, f3, f4, f5] <;> exact rfl) ?_
 refine ow_op (by simp only [zo, f1, f2, f3, f4, f5] <;> exact rfl) ?_
 refine ow_nil ?_
 refine sk_n (by simp only [exports, zn, zg] <;> exact rfl) ?_
 skip
 refine cw_false (by simp only [opd, zv, f1, f2, f3, f4, f5] <;> rfl) ?_
 refine cw_skip (sk_n rfl (cw_seq (cw_seq (cw_region ?_))))
 refine ow_op (by simp only [zo, faddrD_ptr, faddrD_cptr, zm, f1, f2, f3, f4, f5] <;> exact rfl) ?_
 refine ow_op (by simp only [zo, faddrD_ptr, faddrD_cptr, zm, f1, f2, f3, f4, f5] <;> exact rfl) ?_
 refine ow_op (by simp only [zl, zm, loadD_cptr, loadD_ptr, partD, List.take, List.drop, f1, f2, f3, f4, f5] <;> exact rfl) ?_
 refine ow_nil ?_
 refine sk_n (by simp only [exports, zn, zg] <;> exact rfl) ?_
 refine cw_block (cw_seq (cw_seq (cw_region ?_)))
 refine ow_op (by simp only [zo, binD, eq_self, ne_eq, not_false_eq_true, true_and, Int.reduceEq, ite_true, ite_false, not_true_eq_false, Int.reduceToNat, Int.reduceLT, f1, f2, f3, f4, f5] <;> exact rfl) ?_
 refine ow_op (by simp only [zo] <;> exact rfl) ?_
 refine ow_nil ?_
 refine sk_n (by simp only [exports, zn, zg] <;> exact rfl) ?_
 skip
 refine cw_false (by simp only [opd, zv, f1, f2, f3, f4, f5] <;> (rw [hc2] <;> rfl)) ?_
 refine cw_seq (cw_region ?_)
 refine ow_op (by simp only [zo, binD, eq_self, ne_eq, not_false_eq_true, true_and, Int.reduceEq, ite_true, ite_false, not_true_eq_false, Int.reduceToNat, Int.reduceLT, f1, f2, f3, f4, f5] <;> exact rfl) ?_
 refine ow_op (by simp only [zo] <;> exact rfl) ?_
 refine ow_nil ?_
 refine sk_n (by simp only [exports, zn, zg] <;> exact rfl) ?_
 skip
 refine cw_false (by simp only [opd, zv, f1, f2, f3, f4, f5] <;> (rw [hc2] <;> rfl)) ?_
 refine cw_region ?_
 refine ow_op (by simp only [zo, binD, eq_self, ne_eq, not_false_eq_true, true_and, Int.reduceEq, ite_true, ite_false, not_true_eq_false, Int.reduceToNat, Int.reduceLT, f1, f2, f3, f4, f5] <;> exact rfl) ?_
 refine ow_op (by simp only [zo] <;> exact rfl) ?_
 refine ow_nil ?_
 refine sk_n (by simp only [exports, zn, zg] <;> exact rfl) ?_
 skip
 refine cw_true (by simp only [opd, zv, f1, f2, f3, f4, f5] <;> (rw [hc2] <;> rfl)) ?_
 refine cw_seq (cw_region ?_)
 refine ow_op (by simp only [zo] <;> exact rfl) ?_
 refine ow_nil ?_
 refine sk_n (by simp only [exports, zn, zg] <;> exact rfl) ?_
 refine cw_ret (bk_r (sk_r ?_))
 refine ⟨_, by simp only [F46, resultD, resDs, resD, List.getD_cons_zero, List.getD_cons_succ, loadD_cptr, loadD_ptr, rowsOf, partD, List.getElem?_cons_zero, List.getElem?_cons_succ, if_true, if_false, Bool.false_eq_true, List.take, List.drop, zm] <;> exact rfl, ?_⟩
 simp only [leaveP, leave, snapVs, snaps, zs, zf, Option.map_some, List.all_cons, List.all_nil, Bool.and_self, Bool.and_true, if_true, if_false, Bool.false_eq_true, List.length_nil, Nat.le_refl, Nat.zero_le]

theorem keyVN0 {d : Nat} (hd : 16 ≤ d) (S : St) (k : Ke) (size : Nat) (hs : size ≤ 4096) (h : KOK size k) (hc4 : k.cat = 4) (hk : ∀ (d : Nat) (S : St), 14 ≤ d → runF LP NN d 78 [.agg [.int .u8 k.cat, .int .u8 k.us, .str k.pic, .int .i64 k.dg, .int .i64 k.sc, .bool k.sg, .bool k.le, .bool k.se, .bool k.ju, .bool k.bl, .int .i64 k.sz, .sl 1 (List.replicate k.n [.int .u8 0]) (some k.n)]] S = some (.int .i64 0, S, false)) : runF LP NN d 46 [.agg [.int .i64 k.a, .int .i64 k.n, .int .u8 k.cat, .int .u8 k.us, .str k.pic, .int .i64 k.dg, .int .i64 k.sc, .bool k.sg, .bool k.le, .bool k.se, .bool k.ju, .bool k.bl, .int .i64 k.sz, .bool k.dn], .int .i64 size] S = some (.bool true, S, false) := by
 have f1 : decide ((k.a : Int) < 0) = false := decide_eq_false (by omega)
 have f2 : decide ((k.n : Int) < 1) = false := decide_eq_false (by have := h.n1; omega)
 have f3 : decide ((k.n : Int) > (size : Int)) = false := decide_eq_false (by have := h.fit; omega)
 have f4 : decide ((k.a : Int) > IntKind.i64.wrap ((size : Int) - (k.n : Int))) = false := decide_eq_false (by have := h.fit; rw [IntKind.wrap_i64]; omega)
 have f5 : (k.sz != (k.n : Int)) = false := by rw [h.hz]; simp
 have hmk : 0 ≤ (k.n : Int) ∧ (k.n : Int) ≤ (k.n : Int) ∧ (k.n : Int).toNat * 1 ≤ 140737488355328 := ⟨by omega, by omega, by have := h.fit; omega⟩
 have hzz : k.n = k.n := rfl
 refine run_pure (F := F46) rfl (by simp only [LP, fnOf, snapVs, snaps, zs, Bool.false_eq_true, if_false, Option.map_some, List.map_cons, List.map_nil] <;> exact rfl) rfl (by simp only [LP, zf, List.all_cons, List.all_nil, Bool.and_true, Bool.true_and]; try rfl) (by simp only [F46, zv] <;> exact rfl) (by omega) ?_
 rintro d rfl
 refine cw_seq (cw_region ?_)
 refine ow_op (by simp only [zl, zm, zc, f1, f2, f3, f4, f5] <;> exact rfl) ?_
 refine ow_op (by simp only [zo] <;> exact rfl) ?_
 refine ow_nil ?_
 refine sk_n (by simp only [exports, zn, zg] <;> exact rfl) ?_
 refine cw_seq (cw_region ?_)
 refine ow_op (by simp only [zo, faddrD_ptr, faddrD_cptr, zm, f1, f2, f3, f4, f5] <;> exact rfl) ?_
 refine ow_op (by simp only [zl, zm, loadD_cptr, loadD_ptr, partD, List.take, List.drop, f1, f2, f3, f4, f5] <;> exact rfl) ?_
 refine ow_op (by simp only [zl, zm, f1, f2, f3, f4, f5] <;> exact rfl) ?_
 refine ow_op (by simp only [zl, zm, storeD, overlay, snapVs, snaps, zs, zc, zf, List.take, List.drop, f1, f2, f3, f4, f5] <;> exact rfl) ?_
 refine ow_nil ?_
 refine sk_n (by simp only [exports, zn, zg] <;> exact rfl) ?_
 refine cw_seq (cw_seq (cw_region ?_))
 refine ow_op (by simp only [zo, faddrD_ptr, faddrD_cptr, zm, f1, f2, f3, f4, f5] <;> exact rfl) ?_
 refine ow_op (by simp only [zl, zm, loadD_cptr, loadD_ptr, partD, List.take, List.drop, f1, f2, f3, f4, f5] <;> exact rfl) ?_
 refine ow_op (by simp only [zo, binD, eq_self, ne_eq, not_false_eq_true, true_and, Int.reduceEq, ite_true, ite_false, not_true_eq_false, Int.reduceToNat, Int.reduceLT, f1, f2, f3, f4, f5] <;> exact rfl) ?_
 refine ow_op (by simp only [zo] <;> exact rfl) ?_
 refine ow_know 0 (b := false) (by simp only [opd, zv, f1, f2, f3, f4, f5] <;> rfl) (by simp only [zn] <;> exact rfl) ?_
 refine ow_on (by simp only [opd, zv]) ?_
 refine ow_op (by simp only [zo, faddrD_ptr, faddrD_cptr, zm, f1, f2, f3, f4, f5] <;> exact rfl) ?_
 refine ow_on (by simp only [opd, zv]) ?_
 refine ow_op (by simp only [zl, zm, loadD_cptr, loadD_ptr, partD, List.take, List.drop, f1, f2, f3, f4, f5] <;> exact rfl) ?_
 refine ow_on (by simp only [opd, zv]) ?_
 refine ow_op (by simp only [zo, binD, eq_self, ne_eq, not_false_eq_true, true_and, Int.reduceEq, ite_true, ite_false, not_true_eq_false, Int.reduceToNat, Int.reduceLT, f1, f2, f3, f4, f5] <;> exact rfl) ?_
 refine ow_op (by simp only [zo, f1, f2, f3, f4, f5] <;> exact rfl) ?_
 refine ow_op (by simp only [zo] <;> exact rfl) ?_
 refine ow_know 0 (b := false) (by simp only [opd, zv, f1, f2, f3, f4, f5] <;> rfl) (by simp only [zn] <;> exact rfl) ?_
 refine ow_on (by simp only [opd, zv]) ?_
 refine ow_op (by simp only [zo, faddrD_ptr, faddrD_cptr, zm, f1, f2, f3, f4, f5] <;> exact rfl) ?_
 refine ow_on (by simp only [opd, zv]) ?_
 refine ow_op (by simp only [zl, zm, loadD_cptr, loadD_ptr, partD, List.take, List.drop, f1, f2, f3, f4, f5] <;> exact rfl) ?_
 refine ow_on (by simp only [opd, zv]) ?_
 refine ow_op (by simp only [zo] <;> exact rfl) ?_
 refine ow_on (by simp only [opd, zv]) ?_
 refine ow_op (by simp only [zo, binD, eq_self, ne_eq, not_false_eq_true, true_and, Int.reduceEq, ite_true, ite_false, not_true_eq_false, Int.reduceToNat, Int.reduceLT, f1, f2, f3, f4, f5] <;> exact rfl) ?_
 refine ow_op (by simp only [zo, f1, f2, f3, f4, f5] <;> exact rfl) ?_
 refine ow_op (by simp only [zo] <;> exact rfl) ?_
 refine ow_know 0 (b := false) (by simp only [opd, zv, f1, f2, f3, f4, f5] <;> rfl) (by simp only [zn] <;> exact rfl) ?_
 refine ow_on (by simp only [opd, zv]) ?_
 refine ow_op (by simp only [zo, faddrD_ptr, faddrD_cptr, zm, f1, f2, f3, f4, f5] <;> exact rfl) ?_
 refine ow_on (by simp only [opd, zv]) ?_
 refine ow_op (by simp only [zl, zm, loadD_cptr, loadD_ptr, partD, List.take, List.drop, f1, f2, f3, f4, f5] <;> exact rfl) ?_
 refine ow_on (by simp only [opd, zv]) ?_
 refine ow_op (by simp only [zo] <;> exact rfl) ?_
 refine ow_on (by simp only [opd, zv]) ?_
 refine ow_op (by simp only [zo, faddrD_ptr, faddrD_cptr, zm, f1, f2, f3, f4, f5] <;> exact rfl) ?_
 refine ow_on (by simp only [opd, zv]) ?_
 refine ow_op (by simp only [zl, zm, loadD_cptr, loadD_ptr, partD, List.take, List.drop, f1, f2, f3, f4, f5] <;> exact rfl) ?_
 refine ow_on (by simp only [opd, zv]) ?_
 refine ow_op (by simp only [zo, binD, eq_self, ne_eq, not_false_eq_true, true_and, Int.reduceEq, ite_true, ite_false, not_true_eq_false, Int.reduceToNat, Int.reduceLT, f1, f2, f3, f4, f5] <;> exact rfl) ?_
 refine ow_on (by simp only [opd, zv]) ?_
 refine ow_op (by simp only [zo, binD, eq_self, ne_eq, not_false_eq_true, true_and, Int.reduceEq, ite_true, ite_false, not_true_eq_false, Int.reduceToNat, Int.reduceLT, f1, f2, f3, f4, f5] <;> exact rfl) ?_
 refine ow_op (by simp only [zo, f1, f2, f3, f4, f5] <;> exact rfl) ?_
 refine ow_op (by simp only [zo] <;> exact rfl) ?_
 refine ow_know 0 (b := false) (by simp only [opd, zv, f1, f2, f3, f4, f5] <;> rfl) (by simp only [zn] <;> exact rfl) ?_
 refine ow_on (by simp only [opd, zv]) ?_
 refine ow_op (by simp only [zo, faddrD_ptr, faddrD_cptr, zm, f1, f2, f3, f4, f5] <;> exact rfl) ?_
 refine ow_on (by simp only [opd, zv]) ?_
 refine ow_op (by simp only [zo, faddrD_ptr, faddrD_cptr, zm, f1, f2, f3, f4, f5] <;> exact rfl) ?_
 refine ow_on (by simp only [opd, zv]) ?_
 refine ow_op (by simp only [zl, zm, loadD_cptr, loadD_ptr, partD, List.take, List.drop, f1, f2, f3, f4, f5] <;> exact rfl) ?_
 refine ow_on (by simp only [opd, zv]) ?_
 refine ow_op (by simp only [zo, faddrD_ptr, faddrD_cptr, zm, f1, f2, f3, f4, f5] <;> exact rfl) ?_
 refine ow_on (by simp only [opd, zv]) ?_
 refine ow_op (by simp only [zl, zm, loadD_cptr, loadD_ptr, partD, List.take, List.drop, f1, f2, f3, f4, f5] <;> exact rfl) ?_
 refine ow_on (by simp only [opd, zv]) ?_
 refine ow_op (by simp only [zo, binD, eq_self, ne_eq, not_false_eq_true, true_and, Int.reduceEq, ite_true, ite_false, not_true_eq_false, Int.reduceToNat, Int.reduceLT, f1, f2, f3, f4, f5] <;> exact rfl) ?_
 refine ow_op (by simp only [zo, f1, f2, f3, f4, f5] <;> exact rfl) ?_
 refine ow_nil ?_
 refine sk_n (by simp only [exports, zn, zg] <;> exact rfl) ?_
 skip
 refine cw_false (by simp only [opd, zv, f1, f2, f3, f4, f5] <;> rfl) ?_
 refine cw_skip (sk_n rfl (cw_seq (cw_seq (cw_region ?_))))
 refine ow_op (by simp only [zo, faddrD_ptr, faddrD_cptr, zm, f1, f2, f3, f4, f5] <;> exact rfl) ?_
 refine ow_op (by simp only [zo, faddrD_ptr, faddrD_cptr, zm, f1, f2, f3, f4, f5] <;> exact rfl) ?_
 refine ow_op (by simp only [zl, zm, loadD_cptr, loadD_ptr, partD, List.take, List.drop, f1, f2, f3, f4, f5] <;> exact rfl) ?_
 refine ow_nil ?_
 refine sk_n (by simp only [exports, zn, zg] <;> exact rfl) ?_
 refine cw_block (cw_seq (cw_seq (cw_region ?_)))
 refine ow_op (by simp only [zo, binD, eq_self, ne_eq, not_false_eq_true, true_and, Int.reduceEq, ite_true, ite_false, not_true_eq_false, Int.reduceToNat, Int.reduceLT, f1, f2, f3, f4, f5] <;> exact rfl) ?_
 refine ow_op (by simp only [zo] <;> exact rfl) ?_
 refine ow_nil ?_
 refine sk_n (by simp only [exports, zn, zg] <;> exact rfl) ?_
 skip
 refine cw_false (by simp only [opd, zv, f1, f2, f3, f4, f5] <;> (rw [hc4] <;> rfl)) ?_
 refine cw_seq (cw_region ?_)
 refine ow_op (by simp only [zo, binD, eq_self, ne_eq, not_false_eq_true, true_and, Int.reduceEq, ite_true, ite_false, not_true_eq_false, Int.reduceToNat, Int.reduceLT, f1, f2, f3, f4, f5] <;> exact rfl) ?_
 refine ow_op (by simp only [zo] <;> exact rfl) ?_
 refine ow_nil ?_
 refine sk_n (by simp only [exports, zn, zg] <;> exact rfl) ?_
 skip
 refine cw_false (by simp only [opd, zv, f1, f2, f3, f4, f5] <;> (rw [hc4] <;> rfl)) ?_
 refine cw_region ?_
 refine ow_op (by simp only [zo, binD, eq_self, ne_eq, not_false_eq_true, true_and, Int.reduceEq, ite_true, ite_false, not_true_eq_false, Int.reduceToNat, Int.reduceLT, f1, f2, f3, f4, f5] <;> exact rfl) ?_
 refine ow_op (by simp only [zo] <;> exact rfl) ?_
 refine ow_nil ?_
 refine sk_n (by simp only [exports, zn, zg] <;> exact rfl) ?_
 skip
 refine cw_false (by simp only [opd, zv, f1, f2, f3, f4, f5] <;> (rw [hc4] <;> rfl)) ?_
 refine cw_seq (cw_region ?_)
 refine ow_op (by simp only [zo, binD, eq_self, ne_eq, not_false_eq_true, true_and, Int.reduceEq, ite_true, ite_false, not_true_eq_false, Int.reduceToNat, Int.reduceLT, f1, f2, f3, f4, f5] <;> exact rfl) ?_
 refine ow_op (by simp only [zo] <;> exact rfl) ?_
 refine ow_nil ?_
 refine sk_n (by simp only [exports, zn, zg] <;> exact rfl) ?_
 skip
 refine cw_true (by simp only [opd, zv, f1, f2, f3, f4, f5] <;> (rw [hc4] <;> rfl)) ?_
 refine cw_seq ?_
 refine cw_drawn (by simp only [newsVals, List.length_nil, List.length_cons, List.range_succ, List.range_zero, List.nil_append, List.map_nil, List.reverse_nil, List.cons_append, List.map_cons, List.reverse_cons, Nat.zero_add, Nat.add_zero, Nat.reduceAdd] <;> exact rfl) (by simp only [List.map_nil, List.map_cons, newsObj, St.eta, List.append_nil, List.cons_append, List.nil_append, List.length_cons, List.length_nil] <;> exact rfl) ?_
 refine dw_quiet (by simp only [zo, faddrD_ptr, faddrD_cptr, zm, f1, f2, f3, f4, f5] <;> exact rfl) rfl rfl ?_
 refine dw_op (by simp only [zl, zm, loadD_cptr, loadD_ptr, partD, List.take, List.drop, f1, f2, f3, f4, f5] <;> exact rfl) (by simp only [fpHere, opd, List.map_cons, List.map_nil, List.getD_cons_zero, List.getD_cons_succ, zq] <;> exact rfl) rfl ?_
 refine dw_quiet (by simp only [zo, faddrD_ptr, faddrD_cptr, zm, f1, f2, f3, f4, f5] <;> exact rfl) rfl rfl ?_
 refine dw_op (by simp only [zl, zm, loadD_cptr, loadD_ptr, partD, List.take, List.drop, f1, f2, f3, f4, f5] <;> exact rfl) (by simp only [fpHere, opd, List.map_cons, List.map_nil, List.getD_cons_zero, List.getD_cons_succ, zq] <;> exact rfl) rfl ?_
 refine dw_op (show _ = some (D.msl 2 0 0 k.n none, (⟨[⟨59, 14, [[.int .i64 k.a, .int .i64 k.n, .int .u8 k.cat, .int .u8 k.us, .str k.pic, .int .i64 k.dg, .int .i64 k.sc, .bool k.sg, .bool k.le, .bool k.se, .bool k.ju, .bool k.bl, .int .i64 k.sz, .bool k.dn]], 0, 0, false⟩, ⟨57, 2, [[.int .i64 k.a, .int .i64 k.n]], 0, 0, false⟩, ⟨5, 1, List.replicate k.n [.int .u8 0], 0, 1, false⟩], 0⟩ : St), true) by simp only [opd, zv, exOp, aop, LOp.loud, lop, if_true]; rw [if_pos hmk]; simp only [newAt, Int.toNat_natCast, List.cons_append, List.nil_append, List.length_cons, List.length_nil, ne_eq, not_true_eq_false, decide_false]) (by simp only [fpHere, opd, List.map_cons, List.map_nil, List.getD_cons_zero, List.getD_cons_succ, zq] <;> exact rfl) rfl ?_
 refine dw_quiet (by simp only [zo, fillD, overlay, zc, List.take, List.drop, Nat.reduceAdd, Nat.reduceLeDiff, Nat.reduceBEq, zm, f1, f2, f3, f4, f5] <;> exact rfl) rfl rfl ?_
 refine dw_op (by simp only [zo, f1, f2, f3, f4, f5]; exact (run_snap rfl (by simp only [snapVs, snapV_agg, snaps, snap_int, snap_str, snap_bool, snap_sl, Option.map_some, snap_msl, List.getElem?_cons_zero, List.getElem?_cons_succ, eq_self, true_or, and_self, if_true, List.drop_zero, Bool.false_eq_true, if_false, List.length_replicate, Nat.sub_zero, List.take_replicate, Nat.min_self, hzz] <;> exact rfl) (by simp only [snapVs, snapV_agg, snaps, snap_int, snap_str, snap_bool, snap_sl, Option.map_some, snap_msl, List.getElem?_cons_zero, List.getElem?_cons_succ, eq_self, true_or, and_self, if_true, List.drop_zero, Bool.false_eq_true, if_false, List.length_replicate, Nat.sub_zero, List.take_replicate, Nat.min_self, hzz] <;> exact rfl)).trans (hk _ _ (by omega))) (by simp only [fpHere, opd, List.map_cons, List.map_nil, List.getD_cons_zero, List.getD_cons_succ, zq] <;> exact rfl) rfl ?_
 refine dw_quiet (by simp only [zo] <;> exact rfl) rfl rfl ?_
 refine dw_nil ?_
 refine sk_n (by simp only [exports, zn, zg] <;> exact rfl) ?_
 refine cw_seq (cw_region ?_)
 refine ow_op (by simp only [zo] <;> exact rfl) ?_
 refine ow_op (by simp only [zo, binD, eq_self, ne_eq, not_false_eq_true, true_and, Int.reduceEq, ite_true, ite_false, not_true_eq_false, Int.reduceToNat, Int.reduceLT, f1, f2, f3, f4, f5] <;> exact rfl) ?_
 refine ow_op (by simp only [zo] <;> exact rfl) ?_
 refine ow_know 0 (b := true) (by simp only [opd, zv, f1, f2, f3, f4, f5] <;> rfl) (by simp only [zn] <;> exact rfl) ?_
 refine ow_off (b' := true) (by simp only [opd, zv]) rfl ?_
 refine ow_off (b' := true) (by simp only [opd, zv]) rfl ?_
 refine ow_op (by simp only [zo, f1, f2, f3, f4, f5] <;> exact rfl) ?_
 refine ow_op (by simp only [zo] <;> exact rfl) ?_
 refine ow_nil ?_
 refine sk_n (by simp only [exports, zn, zg] <;> exact rfl) ?_
 refine cw_ret (bk_r (sk_r ?_))
 refine ⟨_, by simp only [F46, resultD, resDs, resD, List.getD_cons_zero, List.getD_cons_succ, loadD_cptr, loadD_ptr, rowsOf, partD, List.getElem?_cons_zero, List.getElem?_cons_succ, if_true, if_false, Bool.false_eq_true, List.take, List.drop, zm] <;> exact rfl, ?_⟩
 simp only [leaveP, leave, snapVs, snaps, zs, zf, Option.map_some, List.all_cons, List.all_nil, Bool.and_self, Bool.and_true, if_true, if_false, Bool.false_eq_true, List.length_nil, Nat.le_refl, Nat.zero_le]

theorem keyVN15 {d : Nat} (hd : 16 ≤ d) (S : St) (k : Ke) (size : Nat) (hs : size ≤ 4096) (h : KOK size k) (hc4 : k.cat = 4) (hk : ∀ (d : Nat) (S : St), 14 ≤ d → runF LP NN d 78 [.agg [.int .u8 k.cat, .int .u8 k.us, .str k.pic, .int .i64 k.dg, .int .i64 k.sc, .bool k.sg, .bool k.le, .bool k.se, .bool k.ju, .bool k.bl, .int .i64 k.sz, .sl 1 (List.replicate k.n [.int .u8 0]) (some k.n)]] S = some (.int .i64 15, S, false)) : runF LP NN d 46 [.agg [.int .i64 k.a, .int .i64 k.n, .int .u8 k.cat, .int .u8 k.us, .str k.pic, .int .i64 k.dg, .int .i64 k.sc, .bool k.sg, .bool k.le, .bool k.se, .bool k.ju, .bool k.bl, .int .i64 k.sz, .bool k.dn], .int .i64 size] S = some (.bool true, S, false) := by
 have f1 : decide ((k.a : Int) < 0) = false := decide_eq_false (by omega)
 have f2 : decide ((k.n : Int) < 1) = false := decide_eq_false (by have := h.n1; omega)
 have f3 : decide ((k.n : Int) > (size : Int)) = false := decide_eq_false (by have := h.fit; omega)
 have f4 : decide ((k.a : Int) > IntKind.i64.wrap ((size : Int) - (k.n : Int))) = false := decide_eq_false (by have := h.fit; rw [IntKind.wrap_i64]; omega)
 have f5 : (k.sz != (k.n : Int)) = false := by rw [h.hz]; simp
 have hmk : 0 ≤ (k.n : Int) ∧ (k.n : Int) ≤ (k.n : Int) ∧ (k.n : Int).toNat * 1 ≤ 140737488355328 := ⟨by omega, by omega, by have := h.fit; omega⟩
 have hzz : k.n = k.n := rfl
 refine run_pure (F := F46) rfl (by simp only [LP, fnOf, snapVs, snaps, zs, Bool.false_eq_true, if_false, Option.map_some, List.map_cons, List.map_nil] <;> exact rfl) rfl (by simp only [LP, zf, List.all_cons, List.all_nil, Bool.and_true, Bool.true_and]; try rfl) (by simp only [F46, zv] <;> exact rfl) (by omega) ?_
 rintro d rfl
 refine cw_seq (cw_region ?_)
 refine ow_op (by simp only [zl, zm, zc, f1, f2, f3, f4, f5] <;> exact rfl) ?_
 refine ow_op (by simp only [zo] <;> exact rfl) ?_
 refine ow_nil ?_
 refine sk_n (by simp only [exports, zn, zg] <;> exact rfl) ?_
 refine cw_seq (cw_region ?_)
 refine ow_op (by simp only [zo, faddrD_ptr, faddrD_cptr, zm, f1, f2, f3, f4, f5] <;> exact rfl) ?_
 refine ow_op (by simp only [zl, zm, loadD_cptr, loadD_ptr, partD, List.take, List.drop, f1, f2, f3, f4, f5] <;> exact rfl) ?_
 refine ow_op (by simp only [zl, zm, f1, f2, f3, f4, f5] <;> exact rfl) ?_
 refine ow_op (by simp only [zl, zm, storeD, overlay, snapVs, snaps, zs, zc, zf, List.take, List.drop, f1, f2, f3, f4, f5] <;> exact rfl) ?_
 refine ow_nil ?_
 refine sk_n (by simp only [exports, zn, zg] <;> exact rfl) ?_
 refine cw_seq (cw_seq (cw_region ?_))
 refine ow_op (by simp only [zo, faddrD_ptr, faddrD_cptr, zm, f1, f2, f3, f4, f5] <;> exact rfl) ?_
 refine ow_op (by simp only [zl, zm, loadD_cptr, loadD_ptr, partD, List.take, List.drop, f1, f2, f3, f4, f5] <;> exact rfl) ?_
 refine ow_op (by simp only [zo, binD, eq_self, ne_eq, not_false_eq_true, true_and, Int.reduceEq, ite_true, ite_false, not_true_eq_false, Int.reduceToNat, Int.reduceLT, f1, f2, f3, f4, f5] <;> exact rfl) ?_
 refine ow_op (by simp only [zo] <;> exact rfl) ?_
 refine ow_know 0 (b := false) (by simp only [opd, zv, f1, f2, f3, f4, f5] <;> rfl) (by simp only [zn] <;> exact rfl) ?_
 refine ow_on (by simp only [opd, zv]) ?_
 refine ow_op (by simp only [zo, faddrD_ptr, faddrD_cptr, zm, f1, f2, f3, f4, f5] <;> exact rfl) ?_
 refine ow_on (by simp only [opd, zv]) ?_
 refine ow_op (by simp only [zl, zm, loadD_cptr, loadD_ptr, partD, List.take, List.drop, f1, f2, f3, f4, f5] <;> exact rfl) ?_
 refine ow_on (by simp only [opd, zv]) ?_
 refine ow_op (by simp only [zo, binD, eq_self, ne_eq, not_false_eq_true, true_and, Int.reduceEq, ite_true, ite_false, not_true_eq_false, Int.reduceToNat, Int.reduceLT, f1, f2, f3, f4, f5] <;> exact rfl) ?_
 refine ow_op (by simp only [zo, f1, f2, f3, f4, f5] <;> exact rfl) ?_
 refine ow_op (by simp only [zo] <;> exact rfl) ?_
 refine ow_know 0 (b := false) (by simp only [opd, zv, f1, f2, f3, f4, f5] <;> rfl) (by simp only [zn] <;> exact rfl) ?_
 refine ow_on (by simp only [opd, zv]) ?_
 refine ow_op (by simp only [zo, faddrD_ptr, faddrD_cptr, zm, f1, f2, f3, f4, f5] <;> exact rfl) ?_
 refine ow_on (by simp only [opd, zv]) ?_
 refine ow_op (by simp only [zl, zm, loadD_cptr, loadD_ptr, partD, List.take, List.drop, f1, f2, f3, f4, f5] <;> exact rfl) ?_
 refine ow_on (by simp only [opd, zv]) ?_
 refine ow_op (by simp only [zo] <;> exact rfl) ?_
 refine ow_on (by simp only [opd, zv]) ?_
 refine ow_op (by simp only [zo, binD, eq_self, ne_eq, not_false_eq_true, true_and, Int.reduceEq, ite_true, ite_false, not_true_eq_false, Int.reduceToNat, Int.reduceLT, f1, f2, f3, f4, f5] <;> exact rfl) ?_
 refine ow_op (by simp only [zo, f1, f2, f3, f4, f5] <;> exact rfl) ?_
 refine ow_op (by simp only [zo] <;> exact rfl) ?_
 refine ow_know 0 (b := false) (by simp only [opd, zv, f1, f2, f3, f4, f5] <;> rfl) (by simp only [zn] <;> exact rfl) ?_
 refine ow_on (by simp only [opd, zv]) ?_
 refine ow_op (by simp only [zo, faddrD_ptr, faddrD_cptr, zm, f1, f2, f3, f4, f5] <;> exact rfl) ?_
 refine ow_on (by simp only [opd, zv]) ?_
 refine ow_op (by simp only [zl, zm, loadD_cptr, loadD_ptr, partD, List.take, List.drop, f1, f2, f3, f4, f5] <;> exact rfl) ?_
 refine ow_on (by simp only [opd, zv]) ?_
 refine ow_op (by simp only [zo] <;> exact rfl) ?_
 refine ow_on (by simp only [opd, zv]) ?_
 refine ow_op (by simp only [zo, faddrD_ptr, faddrD_cptr, zm, f1, f2, f3, f4, f5] <;> exact rfl) ?_
 refine ow_on (by simp only [opd, zv]) ?_
 refine ow_op (by simp only [zl, zm, loadD_cptr, loadD_ptr, partD, List.take, List.drop, f1, f2, f3, f4, f5] <;> exact rfl) ?_
 refine ow_on (by simp only [opd, zv]) ?_
 refine ow_op (by simp only [zo, binD, eq_self, ne_eq, not_false_eq_true, true_and, Int.reduceEq, ite_true, ite_false, not_true_eq_false, Int.reduceToNat, Int.reduceLT, f1, f2, f3, f4, f5] <;> exact rfl) ?_
 refine ow_on (by simp only [opd, zv]) ?_
 refine ow_op (by simp only [zo, binD, eq_self, ne_eq, not_false_eq_true, true_and, Int.reduceEq, ite_true, ite_false, not_true_eq_false, Int.reduceToNat, Int.reduceLT, f1, f2, f3, f4, f5] <;> exact rfl) ?_
 refine ow_op (by simp only [zo, f1, f2, f3, f4, f5] <;> exact rfl) ?_
 refine ow_op (by simp only [zo] <;> exact rfl) ?_
 refine ow_know 0 (b := false) (by simp only [opd, zv, f1, f2, f3, f4, f5] <;> rfl) (by simp only [zn] <;> exact rfl) ?_
 refine ow_on (by simp only [opd, zv]) ?_
 refine ow_op (by simp only [zo, faddrD_ptr, faddrD_cptr, zm, f1, f2, f3, f4, f5] <;> exact rfl) ?_
 refine ow_on (by simp only [opd, zv]) ?_
 refine ow_op (by simp only [zo, faddrD_ptr, faddrD_cptr, zm, f1, f2, f3, f4, f5] <;> exact rfl) ?_
 refine ow_on (by simp only [opd, zv]) ?_
 refine ow_op (by simp only [zl, zm, loadD_cptr, loadD_ptr, partD, List.take, List.drop, f1, f2, f3, f4, f5] <;> exact rfl) ?_
 refine ow_on (by simp only [opd, zv]) ?_
 refine ow_op (by simp only [zo, faddrD_ptr, faddrD_cptr, zm, f1, f2, f3, f4, f5] <;> exact rfl) ?_
 refine ow_on (by simp only [opd, zv]) ?_
 refine ow_op (by simp only [zl, zm, loadD_cptr, loadD_ptr, partD, List.take, List.drop, f1, f2, f3, f4, f5] <;> exact rfl) ?_
 refine ow_on (by simp only [opd, zv]) ?_
 refine ow_op (by simp only [zo, binD, eq_self, ne_eq, not_false_eq_true, true_and, Int.reduceEq, ite_true, ite_false, not_true_eq_false, Int.reduceToNat, Int.reduceLT, f1, f2, f3, f4, f5] <;> exact rfl) ?_
 refine ow_op (by simp only [zo, f1, f2, f3, f4, f5] <;> exact rfl) ?_
 refine ow_nil ?_
 refine sk_n (by simp only [exports, zn, zg] <;> exact rfl) ?_
 skip
 refine cw_false (by simp only [opd, zv, f1, f2, f3, f4, f5] <;> rfl) ?_
 refine cw_skip (sk_n rfl (cw_seq (cw_seq (cw_region ?_))))
 refine ow_op (by simp only [zo, faddrD_ptr, faddrD_cptr, zm, f1, f2, f3, f4, f5] <;> exact rfl) ?_
 refine ow_op (by simp only [zo, faddrD_ptr, faddrD_cptr, zm, f1, f2, f3, f4, f5] <;> exact rfl) ?_
 refine ow_op (by simp only [zl, zm, loadD_cptr, loadD_ptr, partD, List.take, List.drop, f1, f2, f3, f4, f5] <;> exact rfl) ?_
 refine ow_nil ?_
 refine sk_n (by simp only [exports, zn, zg] <;> exact rfl) ?_
 refine cw_block (cw_seq (cw_seq (cw_region ?_)))
 refine ow_op (by simp only [zo, binD, eq_self, ne_eq, not_false_eq_true, true_and, Int.reduceEq, ite_true, ite_false, not_true_eq_false, Int.reduceToNat, Int.reduceLT, f1, f2, f3, f4, f5] <;> exact rfl) ?_
 refine ow_op (by simp only [zo] <;> exact rfl) ?_
 refine ow_nil ?_
 refine sk_n (by simp only [exports, zn, zg] <;> exact rfl) ?_
 skip
 refine cw_false (by simp only [opd, zv, f1, f2, f3, f4, f5] <;> (rw [hc4] <;> rfl)) ?_
 refine cw_seq (cw_region ?_)
 refine ow_op (by simp only [zo, binD, eq_self, ne_eq, not_false_eq_true, true_and, Int.reduceEq, ite_true, ite_false, not_true_eq_false, Int.reduceToNat, Int.reduceLT, f1, f2, f3, f4, f5] <;> exact rfl) ?_
 refine ow_op (by simp only [zo] <;> exact rfl) ?_
 refine ow_nil ?_
 refine sk_n (by simp only [exports, zn, zg] <;> exact rfl) ?_
 skip
 refine cw_false (by simp only [opd, zv, f1, f2, f3, f4, f5] <;> (rw [hc4] <;> rfl)) ?_
 refine cw_region ?_
 refine ow_op (by simp only [zo, binD, eq_self, ne_eq, not_false_eq_true, true_and, Int.reduceEq, ite_true, ite_false, not_true_eq_false, Int.reduceToNat, Int.reduceLT, f1, f2, f3, f4, f5] <;> exact rfl) ?_
 refine ow_op (by simp only [zo] <;> exact rfl) ?_
 refine ow_nil ?_
 refine sk_n (by simp only [exports, zn, zg] <;> exact rfl) ?_
 skip
 refine cw_false (by simp only [opd, zv, f1, f2, f3, f4, f5] <;> (rw [hc4] <;> rfl)) ?_
 refine cw_seq (cw_region ?_)
 refine ow_op (by simp only [zo, binD, eq_self, ne_eq, not_false_eq_true, true_and, Int.reduceEq, ite_true, ite_false, not_true_eq_false, Int.reduceToNat, Int.reduceLT, f1, f2, f3, f4, f5] <;> exact rfl) ?_
 refine ow_op (by simp only [zo] <;> exact rfl) ?_
 refine ow_nil ?_
 refine sk_n (by simp only [exports, zn, zg] <;> exact rfl) ?_
 skip
 refine cw_true (by simp only [opd, zv, f1, f2, f3, f4, f5] <;> (rw [hc4] <;> rfl)) ?_
 refine cw_seq ?_
 refine cw_drawn (by simp only [newsVals, List.length_nil, List.length_cons, List.range_succ, List.range_zero, List.nil_append, List.map_nil, List.reverse_nil, List.cons_append, List.map_cons, List.reverse_cons, Nat.zero_add, Nat.add_zero, Nat.reduceAdd] <;> exact rfl) (by simp only [List.map_nil, List.map_cons, newsObj, St.eta, List.append_nil, List.cons_append, List.nil_append, List.length_cons, List.length_nil] <;> exact rfl) ?_
 refine dw_quiet (by simp only [zo, faddrD_ptr, faddrD_cptr, zm, f1, f2, f3, f4, f5] <;> exact rfl) rfl rfl ?_
 refine dw_op (by simp only [zl, zm, loadD_cptr, loadD_ptr, partD, List.take, List.drop, f1, f2, f3, f4, f5] <;> exact rfl) (by simp only [fpHere, opd, List.map_cons, List.map_nil, List.getD_cons_zero, List.getD_cons_succ, zq] <;> exact rfl) rfl ?_
 refine dw_quiet (by simp only [zo, faddrD_ptr, faddrD_cptr, zm, f1, f2, f3, f4, f5] <;> exact rfl) rfl rfl ?_
 refine dw_op (by simp only [zl, zm, loadD_cptr, loadD_ptr, partD, List.take, List.drop, f1, f2, f3, f4, f5] <;> exact rfl) (by simp only [fpHere, opd, List.map_cons, List.map_nil, List.getD_cons_zero, List.getD_cons_succ, zq] <;> exact rfl) rfl ?_
 refine dw_op (show _ = some (D.msl 2 0 0 k.n none, (⟨[⟨59, 14, [[.int .i64 k.a, .int .i64 k.n, .int .u8 k.cat, .int .u8 k.us, .str k.pic, .int .i64 k.dg, .int .i64 k.sc, .bool k.sg, .bool k.le, .bool k.se, .bool k.ju, .bool k.bl, .int .i64 k.sz, .bool k.dn]], 0, 0, false⟩, ⟨57, 2, [[.int .i64 k.a, .int .i64 k.n]], 0, 0, false⟩, ⟨5, 1, List.replicate k.n [.int .u8 0], 0, 1, false⟩], 0⟩ : St), true) by simp only [opd, zv, exOp, aop, LOp.loud, lop, if_true]; rw [if_pos hmk]; simp only [newAt, Int.toNat_natCast, List.cons_append, List.nil_append, List.length_cons, List.length_nil, ne_eq, not_true_eq_false, decide_false]) (by simp only [fpHere, opd, List.map_cons, List.map_nil, List.getD_cons_zero, List.getD_cons_succ, zq] <;> exact rfl) rfl ?_
 refine dw_quiet (by simp only [zo, fillD, overlay, zc, List.take, List.drop, Nat.reduceAdd, Nat.reduceLeDiff, Nat.reduceBEq, zm, f1, f2, f3, f4, f5] <;> exact rfl) rfl rfl ?_
 refine dw_op (by simp only [zo, f1, f2, f3, f4, f5]; exact (run_snap rfl (by simp only [snapVs, snapV_agg, snaps, snap_int, snap_str, snap_bool, snap_sl, Option.map_some, snap_msl, List.getElem?_cons_zero, List.getElem?_cons_succ, eq_self, true_or, and_self, if_true, List.drop_zero, Bool.false_eq_true, if_false, List.length_replicate, Nat.sub_zero, List.take_replicate, Nat.min_self, hzz] <;> exact rfl) (by simp only [snapVs, snapV_agg, snaps, snap_int, snap_str, snap_bool, snap_sl, Option.map_some, snap_msl, List.getElem?_cons_zero, List.getElem?_cons_succ, eq_self, true_or, and_self, if_true, List.drop_zero, Bool.false_eq_true, if_false, List.length_replicate, Nat.sub_zero, List.take_replicate, Nat.min_self, hzz] <;> exact rfl)).trans (hk _ _ (by omega))) (by simp only [fpHere, opd, List.map_cons, List.map_nil, List.getD_cons_zero, List.getD_cons_succ, zq] <;> exact rfl) rfl ?_
 refine dw_quiet (by simp only [zo] <;> exact rfl) rfl rfl ?_
 refine dw_nil ?_
 refine sk_n (by simp only [exports, zn, zg] <;> exact rfl) ?_
 refine cw_seq (cw_region ?_)
 refine ow_op (by simp only [zo] <;> exact rfl) ?_
 refine ow_op (by simp only [zo, binD, eq_self, ne_eq, not_false_eq_true, true_and, Int.reduceEq, ite_true, ite_false, not_true_eq_false, Int.reduceToNat, Int.reduceLT, f1, f2, f3, f4, f5] <;> exact rfl) ?_
 refine ow_op (by simp only [zo] <;> exact rfl) ?_
 refine ow_know 0 (b := false) (by simp only [opd, zv, f1, f2, f3, f4, f5] <;> rfl) (by simp only [zn] <;> exact rfl) ?_
 refine ow_on (by simp only [opd, zv]) ?_
 refine ow_op (by simp only [zo] <;> exact rfl) ?_
 refine ow_on (by simp only [opd, zv]) ?_
 refine ow_op (by simp only [zo, binD, eq_self, ne_eq, not_false_eq_true, true_and, Int.reduceEq, ite_true, ite_false, not_true_eq_false, Int.reduceToNat, Int.reduceLT, f1, f2, f3, f4, f5] <;> exact rfl) ?_
 refine ow_op (by simp only [zo, f1, f2, f3, f4, f5] <;> exact rfl) ?_
 refine ow_op (by simp only [zo] <;> exact rfl) ?_
 refine ow_nil ?_
 refine sk_n (by simp only [exports, zn, zg] <;> exact rfl) ?_
 refine cw_ret (bk_r (sk_r ?_))
 refine ⟨_, by simp only [F46, resultD, resDs, resD, List.getD_cons_zero, List.getD_cons_succ, loadD_cptr, loadD_ptr, rowsOf, partD, List.getElem?_cons_zero, List.getElem?_cons_succ, if_true, if_false, Bool.false_eq_true, List.take, List.drop, zm] <;> exact rfl, ?_⟩
 simp only [leaveP, leave, snapVs, snaps, zs, zf, Option.map_some, List.all_cons, List.all_nil, Bool.and_self, Bool.and_true, if_true, if_false, Bool.false_eq_true, List.length_nil, Nat.le_refl, Nat.zero_le]

theorem keyV_run {d : Nat} (hd : 16 ≤ d) (S : St) (k : Ke) (size : Nat) (hs : size ≤ 4096) (h : KOK size k) : runF LP NN d 46 [.agg [.int .i64 k.a, .int .i64 k.n, .int .u8 k.cat, .int .u8 k.us, .str k.pic, .int .i64 k.dg, .int .i64 k.sc, .bool k.sg, .bool k.le, .bool k.se, .bool k.ju, .bool k.bl, .int .i64 k.sz, .bool k.dn], .int .i64 size] S = some (.bool true, S, false) := by
 rcases h.kd with hc | ⟨hc, e, he, hk⟩
 ·
  exact keyVT hd S k size hs h hc
 ·
  rcases he with rfl | rfl
  ·
   exact keyVN0 hd S k size hs h hc hk
  ·
   exact keyVN15 hd S k size hs h hc hk

end Go.Proofs.YtabgobmeibjeeaaGreatDoor

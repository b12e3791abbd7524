/- Proved here: what functions of the program compute, in the abstract machine; no condition. -/
import Derived.Test.YtabgobmeibjeeaaGreatDoorS13
namespace Go.Proofs.YtabgobmeibjeeaaGreatDoor
set_option linter.unusedSimpArgs false
set_option linter.unusedVariables false
set_option maxRecDepth 10000

theorem Compare_run {d : Nat} (hd : 19 ≤ d) (S : St) (sz : Int) {x y z : D} {ks : List Ke} {r1 r2 : List (List D)} (hS : SlD 14 (keRows ks) x) (hR : SlD 1 r1 y) (hQ : SlD 1 r2 z) (h8 : ks.length ≤ 8) (hb1 : r1.length ≤ 1000000) (hb2 : r2.length ≤ 1000000) (hky : ∀ k ∈ ks, k.a + k.n ≤ r1.length) (hkz : ∀ k ∈ ks, k.a + k.n ≤ r2.length) (kc : Ke → Int) (hT : ∀ k ∈ ks, k.cat ≠ 4 → ∀ (d : Nat) (S : St), 3 ≤ d → runF LP NN d 53 [subD k.a k.n y, subD k.a k.n z] S = some (.int .i64 (kc k), S, false)) (hN : ∀ k ∈ ks, k.cat = 4 → ∃ (na nb : Bool) (sa sb : ByteArray), (∀ (d : Nat) (S : St), 14 ≤ d → runF LP NN d 51 [.agg [.int .u8 k.cat, .int .u8 k.us, .str k.pic, .int .i64 k.dg, .int .i64 k.sc, .bool k.sg, .bool k.le, .bool k.se, .bool k.ju, .bool k.bl, .int .i64 k.sz, subD k.a k.n y]] S = some (.tup [.agg [.bool na, .str sa, .int .i64 0], .int .i64 0], S, false)) ∧ (∀ (d : Nat) (S : St), 14 ≤ d → runF LP NN d 51 [.agg [.int .u8 k.cat, .int .u8 k.us, .str k.pic, .int .i64 k.dg, .int .i64 k.sc, .bool k.sg, .bool k.le, .bool k.se, .bool k.ju, .bool k.bl, .int .i64 k.sz, subD k.a k.n z]] S = some (.tup [.agg [.bool nb, .str sb, .int .i64 0], .int .i64 0], S, false)) ∧ (∀ (d : Nat) (S : St), 8 ≤ d → runF LP NN d 52 [.agg [.bool na, .str sa, .int .i64 0], .agg [.bool nb, .str sb, .int .i64 0]] S = some (.tup [.int .i64 (kc k), .int .i64 0], S, false))) (hv1 : ∀ (d : Nat) (S : St), 18 ≤ d → runF LP NN d 30 [x, .int .i64 sz, y] S = some (.int .i64 0, S, false)) (hv2 : ∀ (d : Nat) (S : St), 18 ≤ d → runF LP NN d 30 [x, .int .i64 sz, z] S = some (.int .i64 0, S, false)) : runF LP NN d 15 [x, .int .i64 sz, y, z] S = some (.tup [.int .i64 (firstC (ks.map fun k => (kc k, k.dn))), .int .i64 0], S, false) := by
 refine run_pure (F := F15) rfl (by simp only [LP, fnOf, snapVs, snaps, zs, Bool.false_eq_true, if_false, Option.map_some, List.map_cons, List.map_nil, hS.snapV, hS.freeV, hR.snapV, hR.freeV, hQ.snapV, hQ.freeV] <;> exact rfl) rfl (by simp only [LP, zf, List.all_cons, List.all_nil, Bool.and_true, Bool.true_and, hS.snapV, hS.freeV, hR.snapV, hR.freeV, hQ.snapV, hQ.freeV]; try rfl) (by simp only [F15, zv] <;> exact rfl) (by omega) ?_
 rintro d rfl
 refine cw_seq (cw_region ?_)
 refine ow_op (by simp only [zo] <;> exact rfl) ?_
 refine ow_op (by simp only [zo] <;> exact rfl) ?_
 refine ow_nil ?_
 refine sk_n (by simp only [exports, zn, zg] <;> exact rfl) ?_
 refine cw_seq (cw_seq (cw_region ?_))
 refine ow_op (by simp only [zo] <;> exact rfl) ?_
 refine ow_op (by simp only [zo] <;> exact rfl) ?_
 refine ow_op (by simp only [zl, zm, fillRows, List.replicate, snapVs, snaps, zs, zc, zf, hR.snapV, hQ.snapV, hR.isCell, hQ.isCell, hR.val, hQ.val, hR.cells, hQ.cells, hR.free, hQ.free, zn] <;> exact rfl) ?_
 refine ow_op (by simp only [zo, lenD_str, lenD_nils, lenD_sl, lenD_msl, hR.snapV, hQ.snapV, hR.isCell, hQ.isCell, hR.val, hQ.val, hR.cells, hQ.cells, hR.free, hQ.free, zn] <;> exact rfl) ?_
 refine ow_op (by simp only [zo] <;> exact rfl) ?_
 refine ow_nil ?_
 refine sk_n (by simp only [exports, zn, zg] <;> exact rfl) ?_
 refine cw_block ?_
 refine cw_loop (fun n env S' => ∃ (i : Nat) (u6 u7 u11 u12 : D), i ≤ 2 ∧ n = 2 - i ∧ S' = ⟨[], 0⟩ ∧ env = [x, .int .i64 sz, y, z, .int .i64 0, .int .i64 0, u6, u7, .sl 1 [[y], [z]] (some 2), .int .i64 2, .int .i64 i, u11, u12]) (2) (by omega) (⟨0, _, _, _, _, by omega, by omega, rfl, rfl⟩) ?_
 rintro n env S' ⟨i, u6, u7, u11, u12, hi, rfl, rfl, rfl⟩
 have h0 : (0 : Int) ≤ (i : Int) := by omega
 refine cw_seq (cw_region ?_)
 refine ow_op (by simp only [zo, binD, eq_self, ne_eq, not_false_eq_true, true_and, Int.reduceEq, ite_true, ite_false, not_true_eq_false, Int.reduceToNat, Int.reduceLT, hR.snapV, hQ.snapV, hR.isCell, hQ.isCell, hR.val, hQ.val, hR.cells, hQ.cells, hR.free, hQ.free, zn, h0] <;> exact rfl) ?_
 refine ow_nil ?_
 refine sk_n (by simp only [exports, zn, zg] <;> exact rfl) ?_
 refine cw_seq ?_
 refine cw_cond (by simp only [opd, zv, hR.snapV, hQ.snapV, hR.isCell, hQ.isCell, hR.val, hQ.val, hR.cells, hQ.cells, hR.free, hQ.free, zn, h0] <;> exact rfl) (fun hcA => ?_) (fun hcA => ?_)
 ·
  have hlt : i < 2 := by have := of_decide_eq_true hcA; omega
  have hw := wrap_nat i (by omega)
  obtain ⟨q, hq, hv⟩ : ∃ q, [[y], [z]][i]? = some [q] ∧ ∀ (d : Nat) (S : St), 18 ≤ d → runF LP NN d 30 [x, .int .i64 sz, q] S = some (.int .i64 0, S, false) := by
   have : i = 0 ∨ i = 1 := by omega
   rcases this with rfl | rfl
   ·
    exact ⟨y, rfl, hv1⟩
   ·
    exact ⟨z, rfl, hv2⟩
  have hia := fun (S : St) => (SlD.of 1 [[y], [z]] (some 2)).iaddrN S .i64 hq
  refine cw_skip (sk_n rfl (cw_seq (cw_block (cw_seq (cw_region ?_)))))
  refine ow_op (by simp only [opd, zv, exOp, aop, LOp.loud, lop, if_true, Option.map_some, hR.snapV, hQ.snapV, hR.isCell, hQ.isCell, hR.val, hQ.val, hR.cells, hQ.cells, hR.free, hQ.free, zn, h0, hw, hia] <;> exact rfl) ?_
  refine ow_op (by simp only [zl, zm, loadD_cptr, loadD_ptr, partD, List.take, List.drop, hR.snapV, hQ.snapV, hR.isCell, hQ.isCell, hR.val, hQ.val, hR.cells, hQ.cells, hR.free, hQ.free, zn, h0, hw, hia] <;> exact rfl) ?_
  refine ow_op (by simp only [zo] <;> exact rfl) ?_
  refine ow_nil ?_
  refine sk_n (by simp only [exports, zn, zg] <;> exact rfl) ?_
  refine cw_seq (cw_region ?_)
  refine ow_op (by simp only [zo] <;> exact rfl) ?_
  refine ow_op (by simp only [zo] <;> exact rfl) ?_
  refine ow_op (by simp only [zo] <;> exact rfl) ?_
  refine ow_op (by simp only [zo, hR.snapV, hQ.snapV, hR.isCell, hQ.isCell, hR.val, hQ.val, hR.cells, hQ.cells, hR.free, hQ.free, zn, h0, hw, hia]; exact hv _ _ (by omega)) ?_
  refine ow_op (by simp only [zo] <;> exact rfl) ?_
  refine ow_nil ?_
  refine sk_n (by simp only [exports, zn, zg] <;> exact rfl) ?_
  refine cw_seq (cw_region ?_)
  refine ow_op (by simp only [zo] <;> exact rfl) ?_
  refine ow_op (by simp only [zo, binD, eq_self, ne_eq, not_false_eq_true, true_and, Int.reduceEq, ite_true, ite_false, not_true_eq_false, Int.reduceToNat, Int.reduceLT, hR.snapV, hQ.snapV, hR.isCell, hQ.isCell, hR.val, hQ.val, hR.cells, hQ.cells, hR.free, hQ.free, zn, h0, hw, hia] <;> exact rfl) ?_
  refine ow_nil ?_
  refine sk_n (by simp only [exports, zn, zg] <;> exact rfl) ?_
  skip
  refine cw_false (by simp only [opd, zv, hR.snapV, hQ.snapV, hR.isCell, hQ.isCell, hR.val, hQ.val, hR.cells, hQ.cells, hR.free, hQ.free, zn, h0, hw, hia] <;> rfl) ?_
  refine cw_skip (bk_n (sk_n rfl (cw_region ?_)))
  refine ow_op (by simp only [zo, binD, eq_self, ne_eq, not_false_eq_true, true_and, Int.reduceEq, ite_true, ite_false, not_true_eq_false, Int.reduceToNat, Int.reduceLT, hR.snapV, hQ.snapV, hR.isCell, hQ.isCell, hR.val, hQ.val, hR.cells, hQ.cells, hR.free, hQ.free, zn, h0, hw, hia] <;> exact rfl) ?_
  refine ow_op (by simp only [zo] <;> exact rfl) ?_
  refine ow_nil ?_
  refine lk_n (by simp only [exports, zn, zg] <;> exact rfl) ?_
  exact ⟨2 - (i + 1), by omega, i + 1, _, _, _, _, by omega, rfl, rfl, rfl⟩
 ·
  refine cw_exit (sk_e (lk_e (bk_e (sk_n rfl (cw_seq (cw_region ?_))))))
  refine ow_op (by simp only [zo] <;> exact rfl) ?_
  refine ow_op (by simp only [zo] <;> exact rfl) ?_
  refine ow_op (by simp only [zo] <;> exact rfl) ?_
  refine ow_op (by simp only [zo, hR.snapV, hQ.snapV, hR.isCell, hQ.isCell, hR.val, hQ.val, hR.cells, hQ.cells, hR.free, hQ.free, zn, h0]; exact compare_run (by omega) _ hS hR hQ h8 hb1 hb2 hky hkz kc hT hN) ?_
  refine ow_op (by simp only [zo] <;> exact rfl) ?_
  refine ow_op (by simp only [zo] <;> exact rfl) ?_
  refine ow_nil ?_
  refine sk_n (by simp only [exports, zn, zg] <;> exact rfl) ?_
  refine cw_ret ?_
  refine ⟨_, by simp only [F15, resultD, resDs, resD, List.getD_cons_zero, List.getD_cons_succ, loadD_cptr, loadD_ptr, rowsOf, partD, List.getElem?_cons_zero, List.getElem?_cons_succ, if_true, if_false, Bool.false_eq_true, List.take, List.drop, zm] <;> exact rfl, ?_⟩
  simp only [leaveP, leave, snapVs, snaps, zs, zf, Option.map_some, List.all_cons, List.all_nil, Bool.and_self, Bool.and_true, if_true, if_false, Bool.false_eq_true, List.length_nil, Nat.le_refl, Nat.zero_le]

end Go.Proofs.YtabgobmeibjeeaaGreatDoor

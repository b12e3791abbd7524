/- Proved here: what the functions of package declaratives and of the law compute, in the abstract machine; no condition. -/
import Derived.Test.YtnihohodcogpeaaE10
import Derived.Test.YtnihohodcogpeaaLoZ
namespace Go.Proofs.Ytnihohodcogpeaa
set_option linter.unusedSimpArgs false
set_option linter.unusedVariables false
set_option maxRecDepth 10000

theorem lawRules_dup {d : Nat} (hd : 9 ≤ d) (S : St) {x : D} {l : List Uu} (hS : SlD 3 (uRows l) x) (hl : l.length ≤ 6) (i : Nat) (c : Int) (hf : firstDup l = some (i, c)) (hR : rulesF (ulOf l) [] = .inr (8, ((i + 1 : Nat) : Int), c)) :
    runF LP NN d 3 [x] S = some (.bool true, S, false) := by
  have hbig : decide (((l.length : Nat) : Int) > 6) = false := decide_eq_false (by omega)
  have hU : SlD 3 (usRows (ulOf l)) (appY 3 (useRows l)) := by rw [ulOf_rows]; exact appY_S 3 (useRows l)
  refine run_pure (F := F3) rfl (by simp only [LP, fnOf, snapVs, snaps, zs, Bool.false_eq_true, if_false, Option.map_some, List.map_cons, List.map_nil, hS.snapV, hS.freeV] <;> exact rfl) rfl (by simp only [LP, zf, List.all_cons, List.all_nil, Bool.and_true, Bool.true_and, hS.snapV, hS.freeV]; try rfl) (by simp only [F3, zv] <;> exact rfl) (by omega) ?_
  rintro d rfl
  refine cw_seq ?_
  refine cw_region ?_
  refine ow_op (by simp only [opd, zv, exOp, aop, LOp.loud, pop, zp, hS.len, uRows_len, hbig, hR, rulesD, twD, hf, beq_self_eq_true, bne_self_eq_false, Bool.and_self, Bool.not_true, Int.reduceBNe] <;> exact rfl) ?_
  refine ow_nil ?_
  refine sk_n (by simp only [exports, zn, zg] <;> exact rfl) ?_
  refine cw_seq ?_
  refine cw_seq ?_
  refine cw_region ?_
  refine ow_op (by simp only [opd, zv, exOp, aop, LOp.loud, pop, zp, hS.len, uRows_len, hbig, hR, rulesD, twD, hf, beq_self_eq_true, bne_self_eq_false, Bool.and_self, Bool.not_true, Int.reduceBNe] <;> exact rfl) ?_
  refine ow_op (by simp only [opd, zv, exOp, aop, LOp.loud, pop, zp, lenD_str, lenD_nils, lenD_sl, lenD_msl, hS.len, uRows_len, hbig, hR, rulesD, twD, hf, beq_self_eq_true, bne_self_eq_false, Bool.and_self, Bool.not_true, Int.reduceBNe] <;> exact rfl) ?_
  refine ow_op (by simp only [opd, zv, exOp, aop, LOp.loud, pop, zp, binD, eq_self, ne_eq, not_false_eq_true, true_and, Int.reduceEq, ite_true, ite_false, not_true_eq_false, Int.reduceToNat, Int.reduceLT, hS.len, uRows_len, hbig, hR, rulesD, twD, hf, beq_self_eq_true, bne_self_eq_false, Bool.and_self, Bool.not_true, Int.reduceBNe] <;> exact rfl) ?_
  refine ow_nil ?_
  refine sk_n (by simp only [exports, zn, zg] <;> exact rfl) ?_
  skip
  refine cw_false (by simp only [opd, zv, hS.len, uRows_len, hbig, hR, rulesD, twD, hf, beq_self_eq_true, bne_self_eq_false, Bool.and_self, Bool.not_true, Int.reduceBNe] <;> rfl) ?_
  refine cw_skip ?_
  refine sk_n rfl ?_
  refine cw_seq ?_
  refine cw_region ?_
  refine ow_op (by simp only [opd, zv, exOp, aop, LOp.loud, pop, zp, hS.len, uRows_len, hbig, hR, rulesD, twD, hf, beq_self_eq_true, bne_self_eq_false, Bool.and_self, Bool.not_true, Int.reduceBNe] <;> exact rfl) ?_
  refine ow_op (by simp only [exOp, opd, zv, hS.len, uRows_len, hbig, hR, rulesD, twD, hf, beq_self_eq_true, bne_self_eq_false, Bool.and_self, Bool.not_true, Int.reduceBNe]; exact program_run (by omega) _ hS (by omega)) ?_
  refine ow_op (by simp only [exOp, opd, zv, hS.len, uRows_len, hbig, hR, rulesD, twD, hf, beq_self_eq_true, bne_self_eq_false, Bool.and_self, Bool.not_true, Int.reduceBNe]; exact rules_run (by omega) _ (SlD.of 12 (fiRows theFiles) none) hU (by decide) (by simp only [ulOf, List.length_mapIdx]; omega)) ?_
  refine ow_op (by simp only [opd, zv, exOp, aop, LOp.loud, pop, zp, hS.len, uRows_len, hbig, hR, rulesD, twD, hf, beq_self_eq_true, bne_self_eq_false, Bool.and_self, Bool.not_true, Int.reduceBNe] <;> exact rfl) ?_
  refine ow_op (by simp only [opd, zv, exOp, aop, LOp.loud, pop, zp, List.getElem?_cons_zero, List.getElem?_cons_succ, hS.len, uRows_len, hbig, hR, rulesD, twD, hf, beq_self_eq_true, bne_self_eq_false, Bool.and_self, Bool.not_true, Int.reduceBNe] <;> exact rfl) ?_
  refine ow_op (by simp only [opd, zv, exOp, aop, LOp.loud, pop, zp, List.getElem?_cons_zero, List.getElem?_cons_succ, hS.len, uRows_len, hbig, hR, rulesD, twD, hf, beq_self_eq_true, bne_self_eq_false, Bool.and_self, Bool.not_true, Int.reduceBNe] <;> exact rfl) ?_
  refine ow_op (by simp only [opd, zv, exOp, aop, LOp.loud, lop, rowsOf, newAt, setAt, zh, zm, hS.len, uRows_len, hbig, hR, rulesD, twD, hf, beq_self_eq_true, bne_self_eq_false, Bool.and_self, Bool.not_true, Int.reduceBNe] <;> exact rfl) ?_
  refine ow_op (by simp only [opd, zv, exOp, aop, LOp.loud, pop, zp, hS.len, uRows_len, hbig, hR, rulesD, twD, hf, beq_self_eq_true, bne_self_eq_false, Bool.and_self, Bool.not_true, Int.reduceBNe] <;> exact rfl) ?_
  refine ow_op (by simp only [opd, zv, exOp, aop, LOp.loud, lop, rowsOf, newAt, setAt, zh, zm, storeD, overlay, snapVs, snaps, zs, zc, zf, List.take, List.drop, hS.len, uRows_len, hbig, hR, rulesD, twD, hf, beq_self_eq_true, bne_self_eq_false, Bool.and_self, Bool.not_true, Int.reduceBNe] <;> exact rfl) ?_
  refine ow_nil ?_
  refine sk_n (by simp only [exports, zn, zg] <;> exact rfl) ?_
  refine cw_seq ?_
  refine cw_region ?_
  refine ow_op (by simp only [opd, zv, exOp, aop, LOp.loud, pop, zp, hS.len, uRows_len, hbig, hR, rulesD, twD, hf, beq_self_eq_true, bne_self_eq_false, Bool.and_self, Bool.not_true, Int.reduceBNe] <;> exact rfl) ?_
  refine ow_op (by simp only [exOp, opd, zv, hS.len, uRows_len, hbig, hR, rulesD, twD, hf, beq_self_eq_true, bne_self_eq_false, Bool.and_self, Bool.not_true, Int.reduceBNe]; exact twice_run (by omega) _ hS (by omega)) ?_
  refine ow_op (by simp only [opd, zv, exOp, aop, LOp.loud, lop, rowsOf, newAt, setAt, zh, zm, hS.len, uRows_len, hbig, hR, rulesD, twD, hf, beq_self_eq_true, bne_self_eq_false, Bool.and_self, Bool.not_true, Int.reduceBNe] <;> exact rfl) ?_
  refine ow_op (by simp only [opd, zv, exOp, aop, LOp.loud, lop, rowsOf, newAt, setAt, zh, zm, storeD, overlay, snapVs, snaps, zs, zc, zf, List.take, List.drop, hS.len, uRows_len, hbig, hR, rulesD, twD, hf, beq_self_eq_true, bne_self_eq_false, Bool.and_self, Bool.not_true, Int.reduceBNe] <;> exact rfl) ?_
  refine ow_nil ?_
  refine sk_n (by simp only [exports, zn, zg] <;> exact rfl) ?_
  refine cw_seq ?_
  refine cw_seq ?_
  refine cw_region ?_
  refine ow_op (by simp only [opd, zv, exOp, aop, LOp.loud, lop, rowsOf, newAt, setAt, zh, zm, loadD_cptr, loadD_ptr, partD, List.take, List.drop, hS.len, uRows_len, hbig, hR, rulesD, twD, hf, beq_self_eq_true, bne_self_eq_false, Bool.and_self, Bool.not_true, Int.reduceBNe] <;> exact rfl) ?_
  refine ow_op (by simp only [opd, zv, exOp, aop, LOp.loud, lop, rowsOf, newAt, setAt, zh, zm, loadD_cptr, loadD_ptr, partD, List.take, List.drop, hS.len, uRows_len, hbig, hR, rulesD, twD, hf, beq_self_eq_true, bne_self_eq_false, Bool.and_self, Bool.not_true, Int.reduceBNe] <;> exact rfl) ?_
  refine ow_op (by simp only [opd, zv, exOp, aop, LOp.loud, pop, zp, eqCells, eqCell, isKey, eq_self, if_true, Bool.and_true, hS.len, uRows_len, hbig, hR, rulesD, twD, hf, beq_self_eq_true, bne_self_eq_false, Bool.and_self, Bool.not_true, Int.reduceBNe] <;> exact rfl) ?_
  refine ow_nil ?_
  refine sk_n (by simp only [exports, zn, zg] <;> exact rfl) ?_
  skip
  refine cw_false (by simp only [opd, zv, hS.len, uRows_len, hbig, hR, rulesD, twD, hf, beq_self_eq_true, bne_self_eq_false, Bool.and_self, Bool.not_true, Int.reduceBNe] <;> rfl) ?_
  refine cw_skip ?_
  refine sk_n rfl ?_
  refine cw_seq ?_
  refine cw_seq ?_
  refine cw_region ?_
  refine ow_op (by simp only [opd, zv, exOp, aop, LOp.loud, pop, zp, faddrD_ptr, faddrD_cptr, zm, hS.len, uRows_len, hbig, hR, rulesD, twD, hf, beq_self_eq_true, bne_self_eq_false, Bool.and_self, Bool.not_true, Int.reduceBNe] <;> exact rfl) ?_
  refine ow_op (by simp only [opd, zv, exOp, aop, LOp.loud, lop, rowsOf, newAt, setAt, zh, zm, loadD_cptr, loadD_ptr, partD, List.take, List.drop, hS.len, uRows_len, hbig, hR, rulesD, twD, hf, beq_self_eq_true, bne_self_eq_false, Bool.and_self, Bool.not_true, Int.reduceBNe] <;> exact rfl) ?_
  refine ow_op (by simp only [opd, zv, exOp, aop, LOp.loud, pop, zp, binD, eq_self, ne_eq, not_false_eq_true, true_and, Int.reduceEq, ite_true, ite_false, not_true_eq_false, Int.reduceToNat, Int.reduceLT, hS.len, uRows_len, hbig, hR, rulesD, twD, hf, beq_self_eq_true, bne_self_eq_false, Bool.and_self, Bool.not_true, Int.reduceBNe] <;> exact rfl) ?_
  refine ow_nil ?_
  refine sk_n (by simp only [exports, zn, zg] <;> exact rfl) ?_
  skip
  refine cw_true (by simp only [opd, zv, hS.len, uRows_len, hbig, hR, rulesD, twD, hf, beq_self_eq_true, bne_self_eq_false, Bool.and_self, Bool.not_true, Int.reduceBNe] <;> rfl) ?_
  refine cw_seq ?_
  refine cw_region ?_
  refine ow_op (by simp only [opd, zv, exOp, aop, LOp.loud, pop, zp, hS.len, uRows_len, hbig, hR, rulesD, twD, hf, beq_self_eq_true, bne_self_eq_false, Bool.and_self, Bool.not_true, Int.reduceBNe] <;> exact rfl) ?_
  refine ow_op (by simp only [opd, zv, exOp, aop, LOp.loud, pop, zp, lenD_str, lenD_nils, lenD_sl, lenD_msl, hS.len, uRows_len, hbig, hR, rulesD, twD, hf, beq_self_eq_true, bne_self_eq_false, Bool.and_self, Bool.not_true, Int.reduceBNe] <;> exact rfl) ?_
  refine ow_op (by simp only [opd, zv, exOp, aop, LOp.loud, pop, zp, binD, eq_self, ne_eq, not_false_eq_true, true_and, Int.reduceEq, ite_true, ite_false, not_true_eq_false, Int.reduceToNat, Int.reduceLT, hS.len, uRows_len, hbig, hR, rulesD, twD, hf, beq_self_eq_true, bne_self_eq_false, Bool.and_self, Bool.not_true, Int.reduceBNe] <;> exact rfl) ?_
  refine ow_op (by simp only [opd, zv, exOp, aop, LOp.loud, pop, zp, hS.len, uRows_len, hbig, hR, rulesD, twD, hf, beq_self_eq_true, bne_self_eq_false, Bool.and_self, Bool.not_true, Int.reduceBNe] <;> exact rfl) ?_
  refine ow_know 0 (b := true) (by simp only [opd, zv, hS.len, uRows_len, hbig, hR, rulesD, twD, hf, beq_self_eq_true, bne_self_eq_false, Bool.and_self, Bool.not_true, Int.reduceBNe] <;> rfl) (by simp only [zn] <;> exact rfl) ?_
  refine ow_on (by simp only [opd, zv]) ?_
  refine ow_op (by simp only [exOp, opd, zv, hS.len, uRows_len, hbig, hR, rulesD, twD, hf, beq_self_eq_true, bne_self_eq_false, Bool.and_self, Bool.not_true, Int.reduceBNe]; exact lives_run (by omega) _) ?_
  refine ow_op (by simp only [opd, zv, exOp, aop, LOp.loud, pop, zp, hS.len, uRows_len, hbig, hR, rulesD, twD, hf, beq_self_eq_true, bne_self_eq_false, Bool.and_self, Bool.not_true, Int.reduceBNe] <;> exact rfl) ?_
  refine ow_op (by simp only [opd, zv, exOp, aop, LOp.loud, pop, zp, hS.len, uRows_len, hbig, hR, rulesD, twD, hf, beq_self_eq_true, bne_self_eq_false, Bool.and_self, Bool.not_true, Int.reduceBNe] <;> exact rfl) ?_
  refine ow_nil ?_
  refine sk_n (by simp only [exports, zn, zg] <;> exact rfl) ?_
  refine cw_ret ?_
  refine sk_r ?_
  refine ⟨_, by simp only [F3, resultD, resDs, resD, List.getD_cons_zero, List.getD_cons_succ, loadD_cptr, loadD_ptr, rowsOf, partD, List.getElem?_cons_zero, List.getElem?_cons_succ, if_true, if_false, Bool.false_eq_true, List.take, List.drop, zm] <;> exact rfl, ?_⟩
  rfl

theorem lawRules_ok {d : Nat} (hd : 9 ≤ d) (S : St) {x : D} {l : List Uu} (hS : SlD 3 (uRows l) x) (hl : l.length ≤ 6) (o : List Ru) (hf : firstDup l = none) (hR : rulesF (ulOf l) [] = .inl o) (hok : RuOK o l) :
    runF LP NN d 3 [x] S = some (.bool true, S, false) := by
  have hbig : decide (((l.length : Nat) : Int) > 6) = false := decide_eq_false (by omega)
  have hU : SlD 3 (usRows (ulOf l)) (appY 3 (useRows l)) := by rw [ulOf_rows]; exact appY_S 3 (useRows l)
  obtain ⟨ho1, ho2⟩ := hok
  have hG := (appY_S 3 (ruRows o)).clip
  have hcap : capD (clipD (appY 3 (ruRows o))) = some (.int .i64 l.length) := by rw [(appY_S 3 (ruRows o)).cap_clip, ruRows_len, ho1]
  refine run_pure (F := F3) rfl (by simp only [LP, fnOf, snapVs, snaps, zs, Bool.false_eq_true, if_false, Option.map_some, List.map_cons, List.map_nil, hS.snapV, hS.freeV] <;> exact rfl) rfl (by simp only [LP, zf, List.all_cons, List.all_nil, Bool.and_true, Bool.true_and, hS.snapV, hS.freeV]; try rfl) (by simp only [F3, zv] <;> exact rfl) (by omega) ?_
  rintro d rfl
  refine cw_seq ?_
  refine cw_region ?_
  refine ow_op (by simp only [opd, zv, exOp, aop, LOp.loud, pop, zp, hS.len, uRows_len, hbig, hR, rulesD, twD, hf, beq_self_eq_true, bne_self_eq_false, Bool.and_self, Bool.not_true, Int.reduceBNe, hG.len, ruRows_len, ho1, hcap] <;> exact rfl) ?_
  refine ow_nil ?_
  refine sk_n (by simp only [exports, zn, zg] <;> exact rfl) ?_
  refine cw_seq ?_
  refine cw_seq ?_
  refine cw_region ?_
  refine ow_op (by simp only [opd, zv, exOp, aop, LOp.loud, pop, zp, hS.len, uRows_len, hbig, hR, rulesD, twD, hf, beq_self_eq_true, bne_self_eq_false, Bool.and_self, Bool.not_true, Int.reduceBNe, hG.len, ruRows_len, ho1, hcap] <;> exact rfl) ?_
  refine ow_op (by simp only [opd, zv, exOp, aop, LOp.loud, pop, zp, lenD_str, lenD_nils, lenD_sl, lenD_msl, hS.len, uRows_len, hbig, hR, rulesD, twD, hf, beq_self_eq_true, bne_self_eq_false, Bool.and_self, Bool.not_true, Int.reduceBNe, hG.len, ruRows_len, ho1, hcap] <;> exact rfl) ?_
  refine ow_op (by simp only [opd, zv, exOp, aop, LOp.loud, pop, zp, binD, eq_self, ne_eq, not_false_eq_true, true_and, Int.reduceEq, ite_true, ite_false, not_true_eq_false, Int.reduceToNat, Int.reduceLT, hS.len, uRows_len, hbig, hR, rulesD, twD, hf, beq_self_eq_true, bne_self_eq_false, Bool.and_self, Bool.not_true, Int.reduceBNe, hG.len, ruRows_len, ho1, hcap] <;> exact rfl) ?_
  refine ow_nil ?_
  refine sk_n (by simp only [exports, zn, zg] <;> exact rfl) ?_
  skip
  refine cw_false (by simp only [opd, zv, hS.len, uRows_len, hbig, hR, rulesD, twD, hf, beq_self_eq_true, bne_self_eq_false, Bool.and_self, Bool.not_true, Int.reduceBNe, hG.len, ruRows_len, ho1, hcap] <;> rfl) ?_
  refine cw_skip ?_
  refine sk_n rfl ?_
  refine cw_seq ?_
  refine cw_region ?_
  refine ow_op (by simp only [opd, zv, exOp, aop, LOp.loud, pop, zp, hS.len, uRows_len, hbig, hR, rulesD, twD, hf, beq_self_eq_true, bne_self_eq_false, Bool.and_self, Bool.not_true, Int.reduceBNe, hG.len, ruRows_len, ho1, hcap] <;> exact rfl) ?_
  refine ow_op (by simp only [exOp, opd, zv, hS.len, uRows_len, hbig, hR, rulesD, twD, hf, beq_self_eq_true, bne_self_eq_false, Bool.and_self, Bool.not_true, Int.reduceBNe, hG.len, ruRows_len, ho1, hcap]; exact program_run (by omega) _ hS (by omega)) ?_
  refine ow_op (by simp only [exOp, opd, zv, hS.len, uRows_len, hbig, hR, rulesD, twD, hf, beq_self_eq_true, bne_self_eq_false, Bool.and_self, Bool.not_true, Int.reduceBNe, hG.len, ruRows_len, ho1, hcap]; exact rules_run (by omega) _ (SlD.of 12 (fiRows theFiles) none) hU (by decide) (by simp only [ulOf, List.length_mapIdx]; omega)) ?_
  refine ow_op (by simp only [opd, zv, exOp, aop, LOp.loud, pop, zp, hS.len, uRows_len, hbig, hR, rulesD, twD, hf, beq_self_eq_true, bne_self_eq_false, Bool.and_self, Bool.not_true, Int.reduceBNe, hG.len, ruRows_len, ho1, hcap] <;> exact rfl) ?_
  refine ow_op (by simp only [opd, zv, exOp, aop, LOp.loud, pop, zp, List.getElem?_cons_zero, List.getElem?_cons_succ, hS.len, uRows_len, hbig, hR, rulesD, twD, hf, beq_self_eq_true, bne_self_eq_false, Bool.and_self, Bool.not_true, Int.reduceBNe, hG.len, ruRows_len, ho1, hcap] <;> exact rfl) ?_
  refine ow_op (by simp only [opd, zv, exOp, aop, LOp.loud, pop, zp, List.getElem?_cons_zero, List.getElem?_cons_succ, hS.len, uRows_len, hbig, hR, rulesD, twD, hf, beq_self_eq_true, bne_self_eq_false, Bool.and_self, Bool.not_true, Int.reduceBNe, hG.len, ruRows_len, ho1, hcap] <;> exact rfl) ?_
  refine ow_op (by simp only [opd, zv, exOp, aop, LOp.loud, lop, rowsOf, newAt, setAt, zh, zm, hS.len, uRows_len, hbig, hR, rulesD, twD, hf, beq_self_eq_true, bne_self_eq_false, Bool.and_self, Bool.not_true, Int.reduceBNe, hG.len, ruRows_len, ho1, hcap] <;> exact rfl) ?_
  refine ow_op (by simp only [opd, zv, exOp, aop, LOp.loud, pop, zp, hS.len, uRows_len, hbig, hR, rulesD, twD, hf, beq_self_eq_true, bne_self_eq_false, Bool.and_self, Bool.not_true, Int.reduceBNe, hG.len, ruRows_len, ho1, hcap] <;> exact rfl) ?_
  refine ow_op (by simp only [opd, zv, exOp, aop, LOp.loud, lop, rowsOf, newAt, setAt, zh, zm, storeD, overlay, snapVs, snaps, zs, zc, zf, List.take, List.drop, hS.len, uRows_len, hbig, hR, rulesD, twD, hf, beq_self_eq_true, bne_self_eq_false, Bool.and_self, Bool.not_true, Int.reduceBNe, hG.len, ruRows_len, ho1, hcap] <;> exact rfl) ?_
  refine ow_nil ?_
  refine sk_n (by simp only [exports, zn, zg] <;> exact rfl) ?_
  refine cw_seq ?_
  refine cw_region ?_
  refine ow_op (by simp only [opd, zv, exOp, aop, LOp.loud, pop, zp, hS.len, uRows_len, hbig, hR, rulesD, twD, hf, beq_self_eq_true, bne_self_eq_false, Bool.and_self, Bool.not_true, Int.reduceBNe, hG.len, ruRows_len, ho1, hcap] <;> exact rfl) ?_
  refine ow_op (by simp only [exOp, opd, zv, hS.len, uRows_len, hbig, hR, rulesD, twD, hf, beq_self_eq_true, bne_self_eq_false, Bool.and_self, Bool.not_true, Int.reduceBNe, hG.len, ruRows_len, ho1, hcap]; exact twice_run (by omega) _ hS (by omega)) ?_
  refine ow_op (by simp only [opd, zv, exOp, aop, LOp.loud, lop, rowsOf, newAt, setAt, zh, zm, hS.len, uRows_len, hbig, hR, rulesD, twD, hf, beq_self_eq_true, bne_self_eq_false, Bool.and_self, Bool.not_true, Int.reduceBNe, hG.len, ruRows_len, ho1, hcap] <;> exact rfl) ?_
  refine ow_op (by simp only [opd, zv, exOp, aop, LOp.loud, lop, rowsOf, newAt, setAt, zh, zm, storeD, overlay, snapVs, snaps, zs, zc, zf, List.take, List.drop, hS.len, uRows_len, hbig, hR, rulesD, twD, hf, beq_self_eq_true, bne_self_eq_false, Bool.and_self, Bool.not_true, Int.reduceBNe, hG.len, ruRows_len, ho1, hcap] <;> exact rfl) ?_
  refine ow_nil ?_
  refine sk_n (by simp only [exports, zn, zg] <;> exact rfl) ?_
  refine cw_seq ?_
  refine cw_seq ?_
  refine cw_region ?_
  refine ow_op (by simp only [opd, zv, exOp, aop, LOp.loud, lop, rowsOf, newAt, setAt, zh, zm, loadD_cptr, loadD_ptr, partD, List.take, List.drop, hS.len, uRows_len, hbig, hR, rulesD, twD, hf, beq_self_eq_true, bne_self_eq_false, Bool.and_self, Bool.not_true, Int.reduceBNe, hG.len, ruRows_len, ho1, hcap] <;> exact rfl) ?_
  refine ow_op (by simp only [opd, zv, exOp, aop, LOp.loud, lop, rowsOf, newAt, setAt, zh, zm, loadD_cptr, loadD_ptr, partD, List.take, List.drop, hS.len, uRows_len, hbig, hR, rulesD, twD, hf, beq_self_eq_true, bne_self_eq_false, Bool.and_self, Bool.not_true, Int.reduceBNe, hG.len, ruRows_len, ho1, hcap] <;> exact rfl) ?_
  refine ow_op (by simp only [opd, zv, exOp, aop, LOp.loud, pop, zp, eqCells, eqCell, isKey, eq_self, if_true, Bool.and_true, hS.len, uRows_len, hbig, hR, rulesD, twD, hf, beq_self_eq_true, bne_self_eq_false, Bool.and_self, Bool.not_true, Int.reduceBNe, hG.len, ruRows_len, ho1, hcap] <;> exact rfl) ?_
  refine ow_nil ?_
  refine sk_n (by simp only [exports, zn, zg] <;> exact rfl) ?_
  skip
  refine cw_false (by simp only [opd, zv, hS.len, uRows_len, hbig, hR, rulesD, twD, hf, beq_self_eq_true, bne_self_eq_false, Bool.and_self, Bool.not_true, Int.reduceBNe, hG.len, ruRows_len, ho1, hcap] <;> rfl) ?_
  refine cw_skip ?_
  refine sk_n rfl ?_
  refine cw_seq ?_
  refine cw_seq ?_
  refine cw_region ?_
  refine ow_op (by simp only [opd, zv, exOp, aop, LOp.loud, pop, zp, faddrD_ptr, faddrD_cptr, zm, hS.len, uRows_len, hbig, hR, rulesD, twD, hf, beq_self_eq_true, bne_self_eq_false, Bool.and_self, Bool.not_true, Int.reduceBNe, hG.len, ruRows_len, ho1, hcap] <;> exact rfl) ?_
  refine ow_op (by simp only [opd, zv, exOp, aop, LOp.loud, lop, rowsOf, newAt, setAt, zh, zm, loadD_cptr, loadD_ptr, partD, List.take, List.drop, hS.len, uRows_len, hbig, hR, rulesD, twD, hf, beq_self_eq_true, bne_self_eq_false, Bool.and_self, Bool.not_true, Int.reduceBNe, hG.len, ruRows_len, ho1, hcap] <;> exact rfl) ?_
  refine ow_op (by simp only [opd, zv, exOp, aop, LOp.loud, pop, zp, binD, eq_self, ne_eq, not_false_eq_true, true_and, Int.reduceEq, ite_true, ite_false, not_true_eq_false, Int.reduceToNat, Int.reduceLT, hS.len, uRows_len, hbig, hR, rulesD, twD, hf, beq_self_eq_true, bne_self_eq_false, Bool.and_self, Bool.not_true, Int.reduceBNe, hG.len, ruRows_len, ho1, hcap] <;> exact rfl) ?_
  refine ow_nil ?_
  refine sk_n (by simp only [exports, zn, zg] <;> exact rfl) ?_
  skip
  refine cw_false (by simp only [opd, zv, hS.len, uRows_len, hbig, hR, rulesD, twD, hf, beq_self_eq_true, bne_self_eq_false, Bool.and_self, Bool.not_true, Int.reduceBNe, hG.len, ruRows_len, ho1, hcap] <;> rfl) ?_
  refine cw_skip ?_
  refine sk_n rfl ?_
  refine cw_seq ?_
  refine cw_seq ?_
  refine cw_region ?_
  refine ow_op (by simp only [opd, zv, exOp, aop, LOp.loud, pop, zp, hS.len, uRows_len, hbig, hR, rulesD, twD, hf, beq_self_eq_true, bne_self_eq_false, Bool.and_self, Bool.not_true, Int.reduceBNe, hG.len, ruRows_len, ho1, hcap] <;> exact rfl) ?_
  refine ow_op (by simp only [opd, zv, exOp, aop, LOp.loud, pop, zp, lenD_str, lenD_nils, lenD_sl, lenD_msl, hS.len, uRows_len, hbig, hR, rulesD, twD, hf, beq_self_eq_true, bne_self_eq_false, Bool.and_self, Bool.not_true, Int.reduceBNe, hG.len, ruRows_len, ho1, hcap] <;> exact rfl) ?_
  refine ow_op (by simp only [opd, zv, exOp, aop, LOp.loud, pop, zp, hS.len, uRows_len, hbig, hR, rulesD, twD, hf, beq_self_eq_true, bne_self_eq_false, Bool.and_self, Bool.not_true, Int.reduceBNe, hG.len, ruRows_len, ho1, hcap] <;> exact rfl) ?_
  refine ow_op (by simp only [opd, zv, exOp, aop, LOp.loud, pop, zp, lenD_str, lenD_nils, lenD_sl, lenD_msl, hS.len, uRows_len, hbig, hR, rulesD, twD, hf, beq_self_eq_true, bne_self_eq_false, Bool.and_self, Bool.not_true, Int.reduceBNe, hG.len, ruRows_len, ho1, hcap] <;> exact rfl) ?_
  refine ow_op (by simp only [opd, zv, exOp, aop, LOp.loud, pop, zp, binD, eq_self, ne_eq, not_false_eq_true, true_and, Int.reduceEq, ite_true, ite_false, not_true_eq_false, Int.reduceToNat, Int.reduceLT, hS.len, uRows_len, hbig, hR, rulesD, twD, hf, beq_self_eq_true, bne_self_eq_false, Bool.and_self, Bool.not_true, Int.reduceBNe, hG.len, ruRows_len, ho1, hcap] <;> exact rfl) ?_
  refine ow_op (by simp only [opd, zv, exOp, aop, LOp.loud, pop, zp, hS.len, uRows_len, hbig, hR, rulesD, twD, hf, beq_self_eq_true, bne_self_eq_false, Bool.and_self, Bool.not_true, Int.reduceBNe, hG.len, ruRows_len, ho1, hcap] <;> exact rfl) ?_
  refine ow_know 0 (b := false) (by simp only [opd, zv, hS.len, uRows_len, hbig, hR, rulesD, twD, hf, beq_self_eq_true, bne_self_eq_false, Bool.and_self, Bool.not_true, Int.reduceBNe, hG.len, ruRows_len, ho1, hcap] <;> rfl) (by simp only [zn] <;> exact rfl) ?_
  refine ow_on (by simp only [opd, zv]) ?_
  refine ow_op (by simp only [opd, zv, exOp, aop, LOp.loud, pop, zp, hS.len, uRows_len, hbig, hR, rulesD, twD, hf, beq_self_eq_true, bne_self_eq_false, Bool.and_self, Bool.not_true, Int.reduceBNe, hG.len, ruRows_len, ho1, hcap] <;> exact rfl) ?_
  refine ow_on (by simp only [opd, zv]) ?_
  refine ow_op (by simp only [opd, zv, exOp, aop, LOp.loud, pop, zp, capD_nils, capD_sl, capD_msl, hS.len, uRows_len, hbig, hR, rulesD, twD, hf, beq_self_eq_true, bne_self_eq_false, Bool.and_self, Bool.not_true, Int.reduceBNe, hG.len, ruRows_len, ho1, hcap] <;> exact rfl) ?_
  refine ow_on (by simp only [opd, zv]) ?_
  refine ow_op (by simp only [opd, zv, exOp, aop, LOp.loud, pop, zp, hS.len, uRows_len, hbig, hR, rulesD, twD, hf, beq_self_eq_true, bne_self_eq_false, Bool.and_self, Bool.not_true, Int.reduceBNe, hG.len, ruRows_len, ho1, hcap] <;> exact rfl) ?_
  refine ow_on (by simp only [opd, zv]) ?_
  refine ow_op (by simp only [opd, zv, exOp, aop, LOp.loud, pop, zp, lenD_str, lenD_nils, lenD_sl, lenD_msl, hS.len, uRows_len, hbig, hR, rulesD, twD, hf, beq_self_eq_true, bne_self_eq_false, Bool.and_self, Bool.not_true, Int.reduceBNe, hG.len, ruRows_len, ho1, hcap] <;> exact rfl) ?_
  refine ow_on (by simp only [opd, zv]) ?_
  refine ow_op (by simp only [opd, zv, exOp, aop, LOp.loud, pop, zp, binD, eq_self, ne_eq, not_false_eq_true, true_and, Int.reduceEq, ite_true, ite_false, not_true_eq_false, Int.reduceToNat, Int.reduceLT, hS.len, uRows_len, hbig, hR, rulesD, twD, hf, beq_self_eq_true, bne_self_eq_false, Bool.and_self, Bool.not_true, Int.reduceBNe, hG.len, ruRows_len, ho1, hcap] <;> exact rfl) ?_
  refine ow_op (by simp only [opd, zv, exOp, aop, LOp.loud, pop, zp, hS.len, uRows_len, hbig, hR, rulesD, twD, hf, beq_self_eq_true, bne_self_eq_false, Bool.and_self, Bool.not_true, Int.reduceBNe, hG.len, ruRows_len, ho1, hcap] <;> exact rfl) ?_
  refine ow_nil ?_
  refine sk_n (by simp only [exports, zn, zg] <;> exact rfl) ?_
  skip
  refine cw_false (by simp only [opd, zv, hS.len, uRows_len, hbig, hR, rulesD, twD, hf, beq_self_eq_true, bne_self_eq_false, Bool.and_self, Bool.not_true, Int.reduceBNe, hG.len, ruRows_len, ho1, hcap] <;> rfl) ?_
  refine cw_skip ?_
  refine sk_n rfl ?_
  refine cw_seq ?_
  refine cw_seq ?_
  refine cw_region ?_
  refine ow_op (by simp only [opd, zv, exOp, aop, LOp.loud, pop, zp, hS.len, uRows_len, hbig, hR, rulesD, twD, hf, beq_self_eq_true, bne_self_eq_false, Bool.and_self, Bool.not_true, Int.reduceBNe, hG.len, ruRows_len, ho1, hcap] <;> exact rfl) ?_
  refine ow_nil ?_
  refine sk_n (by simp only [exports, zn, zg] <;> exact rfl) ?_
  refine cw_block ?_
  refine cw_loop (fun n env S' => ∃ (i : Nat) (u6 u7 u8 u9 u10 u11 u12 u13 u14 u15 : D), i ≤ l.length ∧ n = l.length - i ∧ S' = ⟨[⟨29, 3, [[.int .i64 0, .int .i64 0, .int .i64 0]], 0, 0, false⟩, ⟨29, 3, [[.int .i64 0, .int .i64 0, .int .i64 0]], 0, 0, false⟩], 0⟩ ∧ env = [x, .bool false, clipD (appY 3 (ruRows o)), .ptr 0 0 0 0, .ptr 1 0 0 0, .int .i64 i, u6, u7, u8, u9, u10, u11, u12, u13, u14, u15]) (l.length) (by omega) (⟨0, _, _, _, _, _, _, _, _, _, _, by omega, by omega, rfl, rfl⟩) ?_
  rintro n env S' ⟨i, u6, u7, u8, u9, u10, u11, u12, u13, u14, u15, hi, rfl, rfl, rfl⟩
  refine cw_seq ?_
  refine cw_seq ?_
  refine cw_region ?_
  refine ow_op (by simp only [opd, zv, exOp, aop, LOp.loud, pop, zp, hS.len, uRows_len, hbig, hR, rulesD, twD, hf, beq_self_eq_true, bne_self_eq_false, Bool.and_self, Bool.not_true, Int.reduceBNe, hG.len, ruRows_len, ho1, hcap] <;> exact rfl) ?_
  refine ow_op (by simp only [opd, zv, exOp, aop, LOp.loud, pop, zp, hS.len, uRows_len, hbig, hR, rulesD, twD, hf, beq_self_eq_true, bne_self_eq_false, Bool.and_self, Bool.not_true, Int.reduceBNe, hG.len, ruRows_len, ho1, hcap] <;> exact rfl) ?_
  refine ow_op (by simp only [opd, zv, exOp, aop, LOp.loud, pop, zp, lenD_str, lenD_nils, lenD_sl, lenD_msl, hS.len, uRows_len, hbig, hR, rulesD, twD, hf, beq_self_eq_true, bne_self_eq_false, Bool.and_self, Bool.not_true, Int.reduceBNe, hG.len, ruRows_len, ho1, hcap] <;> exact rfl) ?_
  refine ow_op (by simp only [opd, zv, exOp, aop, LOp.loud, pop, zp, binD, eq_self, ne_eq, not_false_eq_true, true_and, Int.reduceEq, ite_true, ite_false, not_true_eq_false, Int.reduceToNat, Int.reduceLT, hS.len, uRows_len, hbig, hR, rulesD, twD, hf, beq_self_eq_true, bne_self_eq_false, Bool.and_self, Bool.not_true, Int.reduceBNe, hG.len, ruRows_len, ho1, hcap] <;> exact rfl) ?_
  refine ow_nil ?_
  refine sk_n (by simp only [exports, zn, zg] <;> exact rfl) ?_
  refine cw_cond (by simp only [opd, zv, hS.len, uRows_len, hbig, hR, rulesD, twD, hf, beq_self_eq_true, bne_self_eq_false, Bool.and_self, Bool.not_true, Int.reduceBNe, hG.len, ruRows_len, ho1, hcap] <;> exact rfl) (fun hcA => ?_) (fun hcA => ?_)
  · skip -- AT
    have hlt : i < l.length := by have := of_decide_eq_true hcA; omega
    have hw := wrap_nat i (by omega)
    have hlo : i < o.length := by omega
    have hia := fun (S : St) => hS.iaddrN S .i64 (uRows_at hlt)
    have hig := fun (S : St) => hG.iaddrN S .i64 (ruRows_at hlo)
    obtain ⟨q1, q2, q3⟩ := ho2 i _ _ (List.getElem?_eq_getElem hlo) (List.getElem?_eq_getElem hlt)
    have hfd := o[i].hfd
    rw [q2] at hfd
    have hNi := strsD_S (namesF l[i].f)
    have hfew := names_few l[i].f
    refine cw_skip ?_
    refine sk_n rfl ?_
    refine cw_seq ?_
    refine cw_block ?_
    refine cw_seq ?_
    refine cw_region ?_
    refine ow_op (by simp only [opd, zv, exOp, aop, LOp.loud, pop, zp, hS.len, uRows_len, hbig, hR, rulesD, twD, hf, beq_self_eq_true, bne_self_eq_false, Bool.and_self, Bool.not_true, Int.reduceBNe, hG.len, ruRows_len, ho1, hcap, hw, hia, hig, q1, q3, hfd.len, hNi.len, strRows_len] <;> exact rfl) ?_
    refine ow_op (by simp only [opd, zv, exOp, aop, LOp.loud, pop, zp, hS.len, uRows_len, hbig, hR, rulesD, twD, hf, beq_self_eq_true, bne_self_eq_false, Bool.and_self, Bool.not_true, Int.reduceBNe, hG.len, ruRows_len, ho1, hcap, hw, hia, hig, q1, q3, hfd.len, hNi.len, strRows_len] <;> exact rfl) ?_
    refine ow_op (by simp only [opd, zv, exOp, aop, LOp.loud, lop, rowsOf, newAt, setAt, zh, zm, iaddrD_sl, iaddrD_msl, Int.toNat_natCast, Int.toNat_zero, List.getElem?_map, Option.map_some, Int.le_refl, hS.len, uRows_len, hbig, hR, rulesD, twD, hf, beq_self_eq_true, bne_self_eq_false, Bool.and_self, Bool.not_true, Int.reduceBNe, hG.len, ruRows_len, ho1, hcap, hw, hia, hig, q1, q3, hfd.len, hNi.len, strRows_len] <;> exact rfl) ?_
    refine ow_op (by simp only [opd, zv, exOp, aop, LOp.loud, lop, rowsOf, newAt, setAt, zh, zm, loadD_cptr, loadD_ptr, partD, List.take, List.drop, hS.len, uRows_len, hbig, hR, rulesD, twD, hf, beq_self_eq_true, bne_self_eq_false, Bool.and_self, Bool.not_true, Int.reduceBNe, hG.len, ruRows_len, ho1, hcap, hw, hia, hig, q1, q3, hfd.len, hNi.len, strRows_len] <;> exact rfl) ?_
    refine ow_op (by simp only [exOp, opd, zv, hS.len, uRows_len, hbig, hR, rulesD, twD, hf, beq_self_eq_true, bne_self_eq_false, Bool.and_self, Bool.not_true, Int.reduceBNe, hG.len, ruRows_len, ho1, hcap, hw, hia, hig, q1, q3, hfd.len, hNi.len, strRows_len]; exact names_run (by omega) _ _ _ _ l[i].hf) ?_
    refine ow_op (by simp only [opd, zv, exOp, aop, LOp.loud, pop, zp, hS.len, uRows_len, hbig, hR, rulesD, twD, hf, beq_self_eq_true, bne_self_eq_false, Bool.and_self, Bool.not_true, Int.reduceBNe, hG.len, ruRows_len, ho1, hcap, hw, hia, hig, q1, q3, hfd.len, hNi.len, strRows_len] <;> exact rfl) ?_
    refine ow_nil ?_
    refine sk_n (by simp only [exports, zn, zg] <;> exact rfl) ?_
    refine cw_seq ?_
    refine cw_seq ?_
    refine cw_drawn (by simp only [newsVals, List.length_nil, List.length_cons, List.range_succ, List.range_zero, List.nil_append, List.map_nil, List.reverse_nil, List.cons_append, List.map_cons, List.reverse_cons, Nat.zero_add, Nat.add_zero, Nat.reduceAdd] <;> exact rfl) (by simp only [List.map_nil, List.map_cons, newsObj, St.eta, List.append_nil, List.cons_append, List.nil_append, List.length_cons, List.length_nil] <;> exact rfl) ?_
    refine dw_quiet (by simp only [opd, zv, exOp, aop, LOp.loud, pop, zp, hS.len, uRows_len, hbig, hR, rulesD, twD, hf, beq_self_eq_true, bne_self_eq_false, Bool.and_self, Bool.not_true, Int.reduceBNe, hG.len, ruRows_len, ho1, hcap, hw, hia, hig, q1, q3, hfd.len, hNi.len, strRows_len] <;> exact rfl) rfl rfl ?_
    refine dw_quiet (by simp only [opd, zv, exOp, aop, LOp.loud, pop, zp, hS.len, uRows_len, hbig, hR, rulesD, twD, hf, beq_self_eq_true, bne_self_eq_false, Bool.and_self, Bool.not_true, Int.reduceBNe, hG.len, ruRows_len, ho1, hcap, hw, hia, hig, q1, q3, hfd.len, hNi.len, strRows_len] <;> exact rfl) rfl rfl ?_
    refine dw_op (by simp only [opd, zv, exOp, aop, LOp.loud, lop, rowsOf, newAt, setAt, zh, zm, iaddrD_sl, iaddrD_msl, Int.toNat_natCast, Int.toNat_zero, List.getElem?_map, Option.map_some, Int.le_refl, hS.len, uRows_len, hbig, hR, rulesD, twD, hf, beq_self_eq_true, bne_self_eq_false, Bool.and_self, Bool.not_true, Int.reduceBNe, hG.len, ruRows_len, ho1, hcap, hw, hia, hig, q1, q3, hfd.len, hNi.len, strRows_len] <;> exact rfl) (by simp only [fpHere, opd, List.map_cons, List.map_nil, List.getD_cons_zero, List.getD_cons_succ, zq, hS.fpi, (strsD_S _).fpi, hG.fpi, hfd.fpi] <;> exact rfl) rfl ?_
    refine dw_quiet (by simp only [opd, zv, exOp, aop, LOp.loud, pop, zp, faddrD_ptr, faddrD_cptr, zm, hS.len, uRows_len, hbig, hR, rulesD, twD, hf, beq_self_eq_true, bne_self_eq_false, Bool.and_self, Bool.not_true, Int.reduceBNe, hG.len, ruRows_len, ho1, hcap, hw, hia, hig, q1, q3, hfd.len, hNi.len, strRows_len] <;> exact rfl) rfl rfl ?_
    refine dw_op (by simp only [opd, zv, exOp, aop, LOp.loud, lop, rowsOf, newAt, setAt, zh, zm, loadD_cptr, loadD_ptr, partD, List.take, List.drop, hS.len, uRows_len, hbig, hR, rulesD, twD, hf, beq_self_eq_true, bne_self_eq_false, Bool.and_self, Bool.not_true, Int.reduceBNe, hG.len, ruRows_len, ho1, hcap, hw, hia, hig, q1, q3, hfd.len, hNi.len, strRows_len] <;> exact rfl) (by simp only [fpHere, opd, List.map_cons, List.map_nil, List.getD_cons_zero, List.getD_cons_succ, zq, hS.fpi, (strsD_S _).fpi, hG.fpi, hfd.fpi] <;> exact rfl) rfl ?_
    refine dw_quiet (by simp only [opd, zv, exOp, aop, LOp.loud, pop, zp, hS.len, uRows_len, hbig, hR, rulesD, twD, hf, beq_self_eq_true, bne_self_eq_false, Bool.and_self, Bool.not_true, Int.reduceBNe, hG.len, ruRows_len, ho1, hcap, hw, hia, hig, q1, q3, hfd.len, hNi.len, strRows_len] <;> exact rfl) rfl rfl ?_
    refine dw_op (by simp only [exOp, opd, zv, hS.len, uRows_len, hbig, hR, rulesD, twD, hf, beq_self_eq_true, bne_self_eq_false, Bool.and_self, Bool.not_true, Int.reduceBNe, hG.len, ruRows_len, ho1, hcap, hw, hia, hig, q1, q3, hfd.len, hNi.len, strRows_len]; exact section_run (by omega) _ i (by omega)) (by simp only [fpHere, opd, List.map_cons, List.map_nil, List.getD_cons_zero, List.getD_cons_succ, zq, hS.fpi, (strsD_S _).fpi, hG.fpi, hfd.fpi] <;> exact rfl) rfl ?_
    refine dw_quiet (by simp only [opd, zv, exOp, aop, LOp.loud, pop, zp, binD, eq_self, ne_eq, not_false_eq_true, true_and, Int.reduceEq, ite_true, ite_false, not_true_eq_false, Int.reduceToNat, Int.reduceLT, hS.len, uRows_len, hbig, hR, rulesD, twD, hf, beq_self_eq_true, bne_self_eq_false, Bool.and_self, Bool.not_true, Int.reduceBNe, hG.len, ruRows_len, ho1, hcap, hw, hia, hig, q1, q3, hfd.len, hNi.len, strRows_len] <;> exact rfl) rfl rfl ?_
    refine dw_quiet (by simp only [opd, zv, exOp, aop, LOp.loud, pop, zp, hS.len, uRows_len, hbig, hR, rulesD, twD, hf, beq_self_eq_true, bne_self_eq_false, Bool.and_self, Bool.not_true, Int.reduceBNe, hG.len, ruRows_len, ho1, hcap, hw, hia, hig, q1, q3, hfd.len, hNi.len, strRows_len] <;> exact rfl) rfl rfl ?_
    refine dw_know 0 (b := false) (by simp only [opd, zv, hS.len, uRows_len, hbig, hR, rulesD, twD, hf, beq_self_eq_true, bne_self_eq_false, Bool.and_self, Bool.not_true, Int.reduceBNe, hG.len, ruRows_len, ho1, hcap, hw, hia, hig, q1, q3, hfd.len, hNi.len, strRows_len] <;> rfl) (by simp only [zn] <;> exact rfl) ?_
    refine dw_on (by simp only [opd, zv]) ?_
    refine dw_quiet (by simp only [opd, zv, exOp, aop, LOp.loud, pop, zp, hS.len, uRows_len, hbig, hR, rulesD, twD, hf, beq_self_eq_true, bne_self_eq_false, Bool.and_self, Bool.not_true, Int.reduceBNe, hG.len, ruRows_len, ho1, hcap, hw, hia, hig, q1, q3, hfd.len, hNi.len, strRows_len] <;> exact rfl) rfl rfl ?_
    refine dw_on (by simp only [opd, zv]) ?_
    refine dw_quiet (by simp only [opd, zv, exOp, aop, LOp.loud, pop, zp, hS.len, uRows_len, hbig, hR, rulesD, twD, hf, beq_self_eq_true, bne_self_eq_false, Bool.and_self, Bool.not_true, Int.reduceBNe, hG.len, ruRows_len, ho1, hcap, hw, hia, hig, q1, q3, hfd.len, hNi.len, strRows_len] <;> exact rfl) rfl rfl ?_
    refine dw_on (by simp only [opd, zv]) ?_
    refine dw_op (by simp only [opd, zv, exOp, aop, LOp.loud, lop, rowsOf, newAt, setAt, zh, zm, iaddrD_sl, iaddrD_msl, Int.toNat_natCast, Int.toNat_zero, List.getElem?_map, Option.map_some, Int.le_refl, hS.len, uRows_len, hbig, hR, rulesD, twD, hf, beq_self_eq_true, bne_self_eq_false, Bool.and_self, Bool.not_true, Int.reduceBNe, hG.len, ruRows_len, ho1, hcap, hw, hia, hig, q1, q3, hfd.len, hNi.len, strRows_len] <;> exact rfl) (by simp only [fpHere, opd, List.map_cons, List.map_nil, List.getD_cons_zero, List.getD_cons_succ, zq, hS.fpi, (strsD_S _).fpi, hG.fpi, hfd.fpi] <;> exact rfl) rfl ?_
    refine dw_on (by simp only [opd, zv]) ?_
    refine dw_quiet (by simp only [opd, zv, exOp, aop, LOp.loud, pop, zp, faddrD_ptr, faddrD_cptr, zm, hS.len, uRows_len, hbig, hR, rulesD, twD, hf, beq_self_eq_true, bne_self_eq_false, Bool.and_self, Bool.not_true, Int.reduceBNe, hG.len, ruRows_len, ho1, hcap, hw, hia, hig, q1, q3, hfd.len, hNi.len, strRows_len] <;> exact rfl) rfl rfl ?_
    refine dw_on (by simp only [opd, zv]) ?_
    refine dw_op (by simp only [opd, zv, exOp, aop, LOp.loud, lop, rowsOf, newAt, setAt, zh, zm, loadD_cptr, loadD_ptr, partD, List.take, List.drop, hS.len, uRows_len, hbig, hR, rulesD, twD, hf, beq_self_eq_true, bne_self_eq_false, Bool.and_self, Bool.not_true, Int.reduceBNe, hG.len, ruRows_len, ho1, hcap, hw, hia, hig, q1, q3, hfd.len, hNi.len, strRows_len] <;> exact rfl) (by simp only [fpHere, opd, List.map_cons, List.map_nil, List.getD_cons_zero, List.getD_cons_succ, zq, hS.fpi, (strsD_S _).fpi, hG.fpi, hfd.fpi] <;> exact rfl) rfl ?_
    refine dw_on (by simp only [opd, zv]) ?_
    refine dw_quiet (by simp only [opd, zv, exOp, aop, LOp.loud, pop, zp, hS.len, uRows_len, hbig, hR, rulesD, twD, hf, beq_self_eq_true, bne_self_eq_false, Bool.and_self, Bool.not_true, Int.reduceBNe, hG.len, ruRows_len, ho1, hcap, hw, hia, hig, q1, q3, hfd.len, hNi.len, strRows_len] <;> exact rfl) rfl rfl ?_
    refine dw_on (by simp only [opd, zv]) ?_
    refine dw_quiet (by simp only [opd, zv, exOp, aop, LOp.loud, pop, zp, hS.len, uRows_len, hbig, hR, rulesD, twD, hf, beq_self_eq_true, bne_self_eq_false, Bool.and_self, Bool.not_true, Int.reduceBNe, hG.len, ruRows_len, ho1, hcap, hw, hia, hig, q1, q3, hfd.len, hNi.len, strRows_len] <;> exact rfl) rfl rfl ?_
    refine dw_on (by simp only [opd, zv]) ?_
    refine dw_op (by simp only [opd, zv, exOp, aop, LOp.loud, lop, rowsOf, newAt, setAt, zh, zm, iaddrD_sl, iaddrD_msl, Int.toNat_natCast, Int.toNat_zero, List.getElem?_map, Option.map_some, Int.le_refl, hS.len, uRows_len, hbig, hR, rulesD, twD, hf, beq_self_eq_true, bne_self_eq_false, Bool.and_self, Bool.not_true, Int.reduceBNe, hG.len, ruRows_len, ho1, hcap, hw, hia, hig, q1, q3, hfd.len, hNi.len, strRows_len] <;> exact rfl) (by simp only [fpHere, opd, List.map_cons, List.map_nil, List.getD_cons_zero, List.getD_cons_succ, zq, hS.fpi, (strsD_S _).fpi, hG.fpi, hfd.fpi] <;> exact rfl) rfl ?_
    refine dw_on (by simp only [opd, zv]) ?_
    refine dw_op (by simp only [opd, zv, exOp, aop, LOp.loud, lop, rowsOf, newAt, setAt, zh, zm, loadD_cptr, loadD_ptr, partD, List.take, List.drop, hS.len, uRows_len, hbig, hR, rulesD, twD, hf, beq_self_eq_true, bne_self_eq_false, Bool.and_self, Bool.not_true, Int.reduceBNe, hG.len, ruRows_len, ho1, hcap, hw, hia, hig, q1, q3, hfd.len, hNi.len, strRows_len] <;> exact rfl) (by simp only [fpHere, opd, List.map_cons, List.map_nil, List.getD_cons_zero, List.getD_cons_succ, zq, hS.fpi, (strsD_S _).fpi, hG.fpi, hfd.fpi] <;> exact rfl) rfl ?_
    refine dw_on (by simp only [opd, zv]) ?_
    refine dw_op (by simp only [exOp, opd, zv, hS.len, uRows_len, hbig, hR, rulesD, twD, hf, beq_self_eq_true, bne_self_eq_false, Bool.and_self, Bool.not_true, Int.reduceBNe, hG.len, ruRows_len, ho1, hcap, hw, hia, hig, q1, q3, hfd.len, hNi.len, strRows_len]; exact mode_run (by omega) _ _ _ _ l[i].hf) (by simp only [fpHere, opd, List.map_cons, List.map_nil, List.getD_cons_zero, List.getD_cons_succ, zq, hS.fpi, (strsD_S _).fpi, hG.fpi, hfd.fpi] <;> exact rfl) rfl ?_
    refine dw_on (by simp only [opd, zv]) ?_
    refine dw_quiet (by simp only [opd, zv, exOp, aop, LOp.loud, pop, zp, binD, eq_self, ne_eq, not_false_eq_true, true_and, Int.reduceEq, ite_true, ite_false, not_true_eq_false, Int.reduceToNat, Int.reduceLT, hS.len, uRows_len, hbig, hR, rulesD, twD, hf, beq_self_eq_true, bne_self_eq_false, Bool.and_self, Bool.not_true, Int.reduceBNe, hG.len, ruRows_len, ho1, hcap, hw, hia, hig, q1, q3, hfd.len, hNi.len, strRows_len] <;> exact rfl) rfl rfl ?_
    refine dw_quiet (by simp only [opd, zv, exOp, aop, LOp.loud, pop, zp, hS.len, uRows_len, hbig, hR, rulesD, twD, hf, beq_self_eq_true, bne_self_eq_false, Bool.and_self, Bool.not_true, Int.reduceBNe, hG.len, ruRows_len, ho1, hcap, hw, hia, hig, q1, q3, hfd.len, hNi.len, strRows_len] <;> exact rfl) rfl rfl ?_
    refine dw_quiet (by simp only [opd, zv, exOp, aop, LOp.loud, pop, zp, hS.len, uRows_len, hbig, hR, rulesD, twD, hf, beq_self_eq_true, bne_self_eq_false, Bool.and_self, Bool.not_true, Int.reduceBNe, hG.len, ruRows_len, ho1, hcap, hw, hia, hig, q1, q3, hfd.len, hNi.len, strRows_len] <;> exact rfl) rfl rfl ?_
    refine dw_know 0 (b := false) (by simp only [opd, zv, hS.len, uRows_len, hbig, hR, rulesD, twD, hf, beq_self_eq_true, bne_self_eq_false, Bool.and_self, Bool.not_true, Int.reduceBNe, hG.len, ruRows_len, ho1, hcap, hw, hia, hig, q1, q3, hfd.len, hNi.len, strRows_len] <;> rfl) (by simp only [zn] <;> exact rfl) ?_
    refine dw_on (by simp only [opd, zv]) ?_
    refine dw_quiet (by simp only [opd, zv, exOp, aop, LOp.loud, pop, zp, hS.len, uRows_len, hbig, hR, rulesD, twD, hf, beq_self_eq_true, bne_self_eq_false, Bool.and_self, Bool.not_true, Int.reduceBNe, hG.len, ruRows_len, ho1, hcap, hw, hia, hig, q1, q3, hfd.len, hNi.len, strRows_len] <;> exact rfl) rfl rfl ?_
    refine dw_on (by simp only [opd, zv]) ?_
    refine dw_quiet (by simp only [opd, zv, exOp, aop, LOp.loud, pop, zp, hS.len, uRows_len, hbig, hR, rulesD, twD, hf, beq_self_eq_true, bne_self_eq_false, Bool.and_self, Bool.not_true, Int.reduceBNe, hG.len, ruRows_len, ho1, hcap, hw, hia, hig, q1, q3, hfd.len, hNi.len, strRows_len] <;> exact rfl) rfl rfl ?_
    refine dw_on (by simp only [opd, zv]) ?_
    refine dw_op (by simp only [opd, zv, exOp, aop, LOp.loud, lop, rowsOf, newAt, setAt, zh, zm, iaddrD_sl, iaddrD_msl, Int.toNat_natCast, Int.toNat_zero, List.getElem?_map, Option.map_some, Int.le_refl, hS.len, uRows_len, hbig, hR, rulesD, twD, hf, beq_self_eq_true, bne_self_eq_false, Bool.and_self, Bool.not_true, Int.reduceBNe, hG.len, ruRows_len, ho1, hcap, hw, hia, hig, q1, q3, hfd.len, hNi.len, strRows_len] <;> exact rfl) (by simp only [fpHere, opd, List.map_cons, List.map_nil, List.getD_cons_zero, List.getD_cons_succ, zq, hS.fpi, (strsD_S _).fpi, hG.fpi, hfd.fpi] <;> exact rfl) rfl ?_
    refine dw_on (by simp only [opd, zv]) ?_
    refine dw_quiet (by simp only [opd, zv, exOp, aop, LOp.loud, pop, zp, faddrD_ptr, faddrD_cptr, zm, hS.len, uRows_len, hbig, hR, rulesD, twD, hf, beq_self_eq_true, bne_self_eq_false, Bool.and_self, Bool.not_true, Int.reduceBNe, hG.len, ruRows_len, ho1, hcap, hw, hia, hig, q1, q3, hfd.len, hNi.len, strRows_len] <;> exact rfl) rfl rfl ?_
    refine dw_on (by simp only [opd, zv]) ?_
    refine dw_op (by simp only [opd, zv, exOp, aop, LOp.loud, lop, rowsOf, newAt, setAt, zh, zm, loadD_cptr, loadD_ptr, partD, List.take, List.drop, hS.len, uRows_len, hbig, hR, rulesD, twD, hf, beq_self_eq_true, bne_self_eq_false, Bool.and_self, Bool.not_true, Int.reduceBNe, hG.len, ruRows_len, ho1, hcap, hw, hia, hig, q1, q3, hfd.len, hNi.len, strRows_len] <;> exact rfl) (by simp only [fpHere, opd, List.map_cons, List.map_nil, List.getD_cons_zero, List.getD_cons_succ, zq, hS.fpi, (strsD_S _).fpi, hG.fpi, hfd.fpi] <;> exact rfl) rfl ?_
    refine dw_on (by simp only [opd, zv]) ?_
    refine dw_quiet (by simp only [opd, zv, exOp, aop, LOp.loud, pop, zp, lenD_str, lenD_nils, lenD_sl, lenD_msl, hS.len, uRows_len, hbig, hR, rulesD, twD, hf, beq_self_eq_true, bne_self_eq_false, Bool.and_self, Bool.not_true, Int.reduceBNe, hG.len, ruRows_len, ho1, hcap, hw, hia, hig, q1, q3, hfd.len, hNi.len, strRows_len] <;> exact rfl) rfl rfl ?_
    refine dw_on (by simp only [opd, zv]) ?_
    refine dw_quiet (by simp only [opd, zv, exOp, aop, LOp.loud, pop, zp, hS.len, uRows_len, hbig, hR, rulesD, twD, hf, beq_self_eq_true, bne_self_eq_false, Bool.and_self, Bool.not_true, Int.reduceBNe, hG.len, ruRows_len, ho1, hcap, hw, hia, hig, q1, q3, hfd.len, hNi.len, strRows_len] <;> exact rfl) rfl rfl ?_
    refine dw_on (by simp only [opd, zv]) ?_
    refine dw_quiet (by simp only [opd, zv, exOp, aop, LOp.loud, pop, zp, lenD_str, lenD_nils, lenD_sl, lenD_msl, hS.len, uRows_len, hbig, hR, rulesD, twD, hf, beq_self_eq_true, bne_self_eq_false, Bool.and_self, Bool.not_true, Int.reduceBNe, hG.len, ruRows_len, ho1, hcap, hw, hia, hig, q1, q3, hfd.len, hNi.len, strRows_len] <;> exact rfl) rfl rfl ?_
    refine dw_on (by simp only [opd, zv]) ?_
    refine dw_quiet (by simp only [opd, zv, exOp, aop, LOp.loud, pop, zp, binD, eq_self, ne_eq, not_false_eq_true, true_and, Int.reduceEq, ite_true, ite_false, not_true_eq_false, Int.reduceToNat, Int.reduceLT, hS.len, uRows_len, hbig, hR, rulesD, twD, hf, beq_self_eq_true, bne_self_eq_false, Bool.and_self, Bool.not_true, Int.reduceBNe, hG.len, ruRows_len, ho1, hcap, hw, hia, hig, q1, q3, hfd.len, hNi.len, strRows_len] <;> exact rfl) rfl rfl ?_
    refine dw_quiet (by simp only [opd, zv, exOp, aop, LOp.loud, pop, zp, hS.len, uRows_len, hbig, hR, rulesD, twD, hf, beq_self_eq_true, bne_self_eq_false, Bool.and_self, Bool.not_true, Int.reduceBNe, hG.len, ruRows_len, ho1, hcap, hw, hia, hig, q1, q3, hfd.len, hNi.len, strRows_len] <;> exact rfl) rfl rfl ?_
    refine dw_nil ?_
    refine sk_n (by simp only [exports, zn, zg] <;> exact rfl) ?_
    skip
    refine cw_false (by simp only [opd, zv, hS.len, uRows_len, hbig, hR, rulesD, twD, hf, beq_self_eq_true, bne_self_eq_false, Bool.and_self, Bool.not_true, Int.reduceBNe, hG.len, ruRows_len, ho1, hcap, hw, hia, hig, q1, q3, hfd.len, hNi.len, strRows_len] <;> rfl) ?_
    refine cw_skip ?_
    refine sk_n rfl ?_
    refine cw_seq ?_
    refine cw_region ?_
    refine ow_op (by simp only [opd, zv, exOp, aop, LOp.loud, pop, zp, hS.len, uRows_len, hbig, hR, rulesD, twD, hf, beq_self_eq_true, bne_self_eq_false, Bool.and_self, Bool.not_true, Int.reduceBNe, hG.len, ruRows_len, ho1, hcap, hw, hia, hig, q1, q3, hfd.len, hNi.len, strRows_len] <;> exact rfl) ?_
    refine ow_nil ?_
    refine sk_n (by simp only [exports, zn, zg] <;> exact rfl) ?_
    refine cw_block ?_
    refine cw_loop (fun n env S' => ∃ (k : Nat) (v8 v9 v10 v11 v12 v13 v14 v15 : D), k ≤ (namesF l[i].f).length ∧ n = (namesF l[i].f).length - k ∧ S' = ⟨[⟨29, 3, [[.int .i64 0, .int .i64 0, .int .i64 0]], 0, 0, false⟩, ⟨29, 3, [[.int .i64 0, .int .i64 0, .int .i64 0]], 0, 0, false⟩], 0⟩ ∧ env = [x, .bool false, clipD (appY 3 (ruRows o)), .ptr 0 0 0 0, .ptr 1 0 0 0, .int .i64 i, strsD (namesF l[i].f), .int .i64 k, v8, v9, v10, v11, v12, v13, v14, v15]) ((namesF l[i].f).length) (by have := names_few l[i].f; omega) (⟨0, _, _, _, _, _, _, _, _, by omega, by omega, rfl, rfl⟩) ?_
    rintro n env S' ⟨k, v8, v9, v10, v11, v12, v13, v14, v15, hk, rfl, rfl, rfl⟩
    refine cw_seq ?_
    refine cw_seq ?_
    refine cw_region ?_
    refine ow_op (by simp only [opd, zv, exOp, aop, LOp.loud, pop, zp, hS.len, uRows_len, hbig, hR, rulesD, twD, hf, beq_self_eq_true, bne_self_eq_false, Bool.and_self, Bool.not_true, Int.reduceBNe, hG.len, ruRows_len, ho1, hcap, hw, hia, hig, q1, q3, hfd.len, hNi.len, strRows_len] <;> exact rfl) ?_
    refine ow_op (by simp only [opd, zv, exOp, aop, LOp.loud, pop, zp, hS.len, uRows_len, hbig, hR, rulesD, twD, hf, beq_self_eq_true, bne_self_eq_false, Bool.and_self, Bool.not_true, Int.reduceBNe, hG.len, ruRows_len, ho1, hcap, hw, hia, hig, q1, q3, hfd.len, hNi.len, strRows_len] <;> exact rfl) ?_
    refine ow_op (by simp only [opd, zv, exOp, aop, LOp.loud, pop, zp, lenD_str, lenD_nils, lenD_sl, lenD_msl, hS.len, uRows_len, hbig, hR, rulesD, twD, hf, beq_self_eq_true, bne_self_eq_false, Bool.and_self, Bool.not_true, Int.reduceBNe, hG.len, ruRows_len, ho1, hcap, hw, hia, hig, q1, q3, hfd.len, hNi.len, strRows_len] <;> exact rfl) ?_
    refine ow_op (by simp only [opd, zv, exOp, aop, LOp.loud, pop, zp, binD, eq_self, ne_eq, not_false_eq_true, true_and, Int.reduceEq, ite_true, ite_false, not_true_eq_false, Int.reduceToNat, Int.reduceLT, hS.len, uRows_len, hbig, hR, rulesD, twD, hf, beq_self_eq_true, bne_self_eq_false, Bool.and_self, Bool.not_true, Int.reduceBNe, hG.len, ruRows_len, ho1, hcap, hw, hia, hig, q1, q3, hfd.len, hNi.len, strRows_len] <;> exact rfl) ?_
    refine ow_nil ?_
    refine sk_n (by simp only [exports, zn, zg] <;> exact rfl) ?_
    refine cw_cond (by simp only [opd, zv, hS.len, uRows_len, hbig, hR, rulesD, twD, hf, beq_self_eq_true, bne_self_eq_false, Bool.and_self, Bool.not_true, Int.reduceBNe, hG.len, ruRows_len, ho1, hcap, hw, hia, hig, q1, q3, hfd.len, hNi.len, strRows_len] <;> exact rfl) (fun hcATB => ?_) (fun hcATB => ?_)
    · skip -- ATBT
      have hkl : k < (namesF l[i].f).length := by have := of_decide_eq_true hcATB; omega
      have hwk := wrap_nat k (by omega)
      have hin := fun (S : St) => hNi.iaddrN S .i64 (strRows_at hkl)
      have hif := fun (S : St) => hfd.iaddrN S .i64 (strRows_at hkl)
      refine cw_skip ?_
      refine sk_n rfl ?_
      refine cw_seq ?_
      refine cw_block ?_
      refine cw_seq ?_
      refine cw_drawn (by simp only [newsVals, List.length_nil, List.length_cons, List.range_succ, List.range_zero, List.nil_append, List.map_nil, List.reverse_nil, List.cons_append, List.map_cons, List.reverse_cons, Nat.zero_add, Nat.add_zero, Nat.reduceAdd] <;> exact rfl) (by simp only [List.map_nil, List.map_cons, newsObj, St.eta, List.append_nil, List.cons_append, List.nil_append, List.length_cons, List.length_nil] <;> exact rfl) ?_
      refine dw_quiet (by simp only [opd, zv, exOp, aop, LOp.loud, pop, zp, hS.len, uRows_len, hbig, hR, rulesD, twD, hf, beq_self_eq_true, bne_self_eq_false, Bool.and_self, Bool.not_true, Int.reduceBNe, hG.len, ruRows_len, ho1, hcap, hw, hia, hig, q1, q3, hfd.len, hNi.len, strRows_len, hwk, hin, hif] <;> exact rfl) rfl rfl ?_
      refine dw_quiet (by simp only [opd, zv, exOp, aop, LOp.loud, pop, zp, hS.len, uRows_len, hbig, hR, rulesD, twD, hf, beq_self_eq_true, bne_self_eq_false, Bool.and_self, Bool.not_true, Int.reduceBNe, hG.len, ruRows_len, ho1, hcap, hw, hia, hig, q1, q3, hfd.len, hNi.len, strRows_len, hwk, hin, hif] <;> exact rfl) rfl rfl ?_
      refine dw_op (by simp only [opd, zv, exOp, aop, LOp.loud, lop, rowsOf, newAt, setAt, zh, zm, iaddrD_sl, iaddrD_msl, Int.toNat_natCast, Int.toNat_zero, List.getElem?_map, Option.map_some, Int.le_refl, hS.len, uRows_len, hbig, hR, rulesD, twD, hf, beq_self_eq_true, bne_self_eq_false, Bool.and_self, Bool.not_true, Int.reduceBNe, hG.len, ruRows_len, ho1, hcap, hw, hia, hig, q1, q3, hfd.len, hNi.len, strRows_len, hwk, hin, hif] <;> exact rfl) (by simp only [fpHere, opd, List.map_cons, List.map_nil, List.getD_cons_zero, List.getD_cons_succ, zq, hS.fpi, (strsD_S _).fpi, hG.fpi, hfd.fpi] <;> exact rfl) rfl ?_
      refine dw_quiet (by simp only [opd, zv, exOp, aop, LOp.loud, pop, zp, faddrD_ptr, faddrD_cptr, zm, hS.len, uRows_len, hbig, hR, rulesD, twD, hf, beq_self_eq_true, bne_self_eq_false, Bool.and_self, Bool.not_true, Int.reduceBNe, hG.len, ruRows_len, ho1, hcap, hw, hia, hig, q1, q3, hfd.len, hNi.len, strRows_len, hwk, hin, hif] <;> exact rfl) rfl rfl ?_
      refine dw_op (by simp only [opd, zv, exOp, aop, LOp.loud, lop, rowsOf, newAt, setAt, zh, zm, loadD_cptr, loadD_ptr, partD, List.take, List.drop, hS.len, uRows_len, hbig, hR, rulesD, twD, hf, beq_self_eq_true, bne_self_eq_false, Bool.and_self, Bool.not_true, Int.reduceBNe, hG.len, ruRows_len, ho1, hcap, hw, hia, hig, q1, q3, hfd.len, hNi.len, strRows_len, hwk, hin, hif] <;> exact rfl) (by simp only [fpHere, opd, List.map_cons, List.map_nil, List.getD_cons_zero, List.getD_cons_succ, zq, hS.fpi, (strsD_S _).fpi, hG.fpi, hfd.fpi] <;> exact rfl) rfl ?_
      refine dw_quiet (by simp only [opd, zv, exOp, aop, LOp.loud, pop, zp, hS.len, uRows_len, hbig, hR, rulesD, twD, hf, beq_self_eq_true, bne_self_eq_false, Bool.and_self, Bool.not_true, Int.reduceBNe, hG.len, ruRows_len, ho1, hcap, hw, hia, hig, q1, q3, hfd.len, hNi.len, strRows_len, hwk, hin, hif] <;> exact rfl) rfl rfl ?_
      refine dw_op (by simp only [opd, zv, exOp, aop, LOp.loud, lop, rowsOf, newAt, setAt, zh, zm, iaddrD_sl, iaddrD_msl, Int.toNat_natCast, Int.toNat_zero, List.getElem?_map, Option.map_some, Int.le_refl, hS.len, uRows_len, hbig, hR, rulesD, twD, hf, beq_self_eq_true, bne_self_eq_false, Bool.and_self, Bool.not_true, Int.reduceBNe, hG.len, ruRows_len, ho1, hcap, hw, hia, hig, q1, q3, hfd.len, hNi.len, strRows_len, hwk, hin, hif] <;> exact rfl) (by simp only [fpHere, opd, List.map_cons, List.map_nil, List.getD_cons_zero, List.getD_cons_succ, zq, hS.fpi, (strsD_S _).fpi, hG.fpi, hfd.fpi] <;> exact rfl) rfl ?_
      refine dw_op (by simp only [opd, zv, exOp, aop, LOp.loud, lop, rowsOf, newAt, setAt, zh, zm, loadD_cptr, loadD_ptr, partD, List.take, List.drop, hS.len, uRows_len, hbig, hR, rulesD, twD, hf, beq_self_eq_true, bne_self_eq_false, Bool.and_self, Bool.not_true, Int.reduceBNe, hG.len, ruRows_len, ho1, hcap, hw, hia, hig, q1, q3, hfd.len, hNi.len, strRows_len, hwk, hin, hif] <;> exact rfl) (by simp only [fpHere, opd, List.map_cons, List.map_nil, List.getD_cons_zero, List.getD_cons_succ, zq, hS.fpi, (strsD_S _).fpi, hG.fpi, hfd.fpi] <;> exact rfl) rfl ?_
      refine dw_quiet (by simp only [opd, zv, exOp, aop, LOp.loud, pop, zp, hS.len, uRows_len, hbig, hR, rulesD, twD, hf, beq_self_eq_true, bne_self_eq_false, Bool.and_self, Bool.not_true, Int.reduceBNe, hG.len, ruRows_len, ho1, hcap, hw, hia, hig, q1, q3, hfd.len, hNi.len, strRows_len, hwk, hin, hif] <;> exact rfl) rfl rfl ?_
      refine dw_quiet (by simp only [opd, zv, exOp, aop, LOp.loud, pop, zp, hS.len, uRows_len, hbig, hR, rulesD, twD, hf, beq_self_eq_true, bne_self_eq_false, Bool.and_self, Bool.not_true, Int.reduceBNe, hG.len, ruRows_len, ho1, hcap, hw, hia, hig, q1, q3, hfd.len, hNi.len, strRows_len, hwk, hin, hif] <;> exact rfl) rfl rfl ?_
      refine dw_op (by simp only [opd, zv, exOp, aop, LOp.loud, lop, rowsOf, newAt, setAt, zh, zm, iaddrD_sl, iaddrD_msl, Int.toNat_natCast, Int.toNat_zero, List.getElem?_map, Option.map_some, Int.le_refl, hS.len, uRows_len, hbig, hR, rulesD, twD, hf, beq_self_eq_true, bne_self_eq_false, Bool.and_self, Bool.not_true, Int.reduceBNe, hG.len, ruRows_len, ho1, hcap, hw, hia, hig, q1, q3, hfd.len, hNi.len, strRows_len, hwk, hin, hif] <;> exact rfl) (by simp only [fpHere, opd, List.map_cons, List.map_nil, List.getD_cons_zero, List.getD_cons_succ, zq, hS.fpi, (strsD_S _).fpi, hG.fpi, hfd.fpi] <;> exact rfl) rfl ?_
      refine dw_op (by simp only [opd, zv, exOp, aop, LOp.loud, lop, rowsOf, newAt, setAt, zh, zm, loadD_cptr, loadD_ptr, partD, List.take, List.drop, hS.len, uRows_len, hbig, hR, rulesD, twD, hf, beq_self_eq_true, bne_self_eq_false, Bool.and_self, Bool.not_true, Int.reduceBNe, hG.len, ruRows_len, ho1, hcap, hw, hia, hig, q1, q3, hfd.len, hNi.len, strRows_len, hwk, hin, hif] <;> exact rfl) (by simp only [fpHere, opd, List.map_cons, List.map_nil, List.getD_cons_zero, List.getD_cons_succ, zq, hS.fpi, (strsD_S _).fpi, hG.fpi, hfd.fpi] <;> exact rfl) rfl ?_
      refine dw_quiet (by simp only [opd, zv, exOp, aop, LOp.loud, pop, zp, binD, eq_self, ne_eq, not_false_eq_true, true_and, Int.reduceEq, ite_true, ite_false, not_true_eq_false, Int.reduceToNat, Int.reduceLT, hS.len, uRows_len, hbig, hR, rulesD, twD, hf, beq_self_eq_true, bne_self_eq_false, Bool.and_self, Bool.not_true, Int.reduceBNe, hG.len, ruRows_len, ho1, hcap, hw, hia, hig, q1, q3, hfd.len, hNi.len, strRows_len, hwk, hin, hif] <;> exact rfl) rfl rfl ?_
      refine dw_nil ?_
      refine sk_n (by simp only [exports, zn, zg] <;> exact rfl) ?_
      skip
      refine cw_false (by simp only [opd, zv, hS.len, uRows_len, hbig, hR, rulesD, twD, hf, beq_self_eq_true, bne_self_eq_false, Bool.and_self, Bool.not_true, Int.reduceBNe, hG.len, ruRows_len, ho1, hcap, hw, hia, hig, q1, q3, hfd.len, hNi.len, strRows_len, hwk, hin, hif] <;> rfl) ?_
      refine cw_skip ?_
      refine bk_n ?_
      refine sk_n rfl ?_
      refine cw_region ?_
      refine ow_op (by simp only [opd, zv, exOp, aop, LOp.loud, pop, zp, hS.len, uRows_len, hbig, hR, rulesD, twD, hf, beq_self_eq_true, bne_self_eq_false, Bool.and_self, Bool.not_true, Int.reduceBNe, hG.len, ruRows_len, ho1, hcap, hw, hia, hig, q1, q3, hfd.len, hNi.len, strRows_len, hwk, hin, hif] <;> exact rfl) ?_
      refine ow_op (by simp only [opd, zv, exOp, aop, LOp.loud, pop, zp, binD, eq_self, ne_eq, not_false_eq_true, true_and, Int.reduceEq, ite_true, ite_false, not_true_eq_false, Int.reduceToNat, Int.reduceLT, hS.len, uRows_len, hbig, hR, rulesD, twD, hf, beq_self_eq_true, bne_self_eq_false, Bool.and_self, Bool.not_true, Int.reduceBNe, hG.len, ruRows_len, ho1, hcap, hw, hia, hig, q1, q3, hfd.len, hNi.len, strRows_len, hwk, hin, hif] <;> exact rfl) ?_
      refine ow_op (by simp only [opd, zv, exOp, aop, LOp.loud, pop, zp, hS.len, uRows_len, hbig, hR, rulesD, twD, hf, beq_self_eq_true, bne_self_eq_false, Bool.and_self, Bool.not_true, Int.reduceBNe, hG.len, ruRows_len, ho1, hcap, hw, hia, hig, q1, q3, hfd.len, hNi.len, strRows_len, hwk, hin, hif] <;> exact rfl) ?_
      refine ow_nil ?_
      refine lk_n (by simp only [exports, zn, zg] <;> exact rfl) ?_
      exact ⟨(namesF l[i].f).length - (k + 1), by omega, k + 1, _, _, _, _, _, _, _, _, by omega, rfl, rfl, rfl⟩
    · skip -- ATBF
      refine cw_exit ?_
      refine sk_e ?_
      refine lk_e ?_
      refine bk_e ?_
      refine bk_n ?_
      refine sk_n rfl ?_
      refine cw_region ?_
      refine ow_op (by simp only [opd, zv, exOp, aop, LOp.loud, pop, zp, hS.len, uRows_len, hbig, hR, rulesD, twD, hf, beq_self_eq_true, bne_self_eq_false, Bool.and_self, Bool.not_true, Int.reduceBNe, hG.len, ruRows_len, ho1, hcap, hw, hia, hig, q1, q3, hfd.len, hNi.len, strRows_len] <;> exact rfl) ?_
      refine ow_op (by simp only [opd, zv, exOp, aop, LOp.loud, pop, zp, binD, eq_self, ne_eq, not_false_eq_true, true_and, Int.reduceEq, ite_true, ite_false, not_true_eq_false, Int.reduceToNat, Int.reduceLT, hS.len, uRows_len, hbig, hR, rulesD, twD, hf, beq_self_eq_true, bne_self_eq_false, Bool.and_self, Bool.not_true, Int.reduceBNe, hG.len, ruRows_len, ho1, hcap, hw, hia, hig, q1, q3, hfd.len, hNi.len, strRows_len] <;> exact rfl) ?_
      refine ow_op (by simp only [opd, zv, exOp, aop, LOp.loud, pop, zp, hS.len, uRows_len, hbig, hR, rulesD, twD, hf, beq_self_eq_true, bne_self_eq_false, Bool.and_self, Bool.not_true, Int.reduceBNe, hG.len, ruRows_len, ho1, hcap, hw, hia, hig, q1, q3, hfd.len, hNi.len, strRows_len] <;> exact rfl) ?_
      refine ow_nil ?_
      refine lk_n (by simp only [exports, zn, zg] <;> exact rfl) ?_
      exact ⟨l.length - (i + 1), by omega, i + 1, _, _, _, _, _, _, _, _, _, _, by omega, rfl, rfl, rfl⟩
  · skip -- AF
    refine cw_exit ?_
    refine sk_e ?_
    refine lk_e ?_
    refine bk_e ?_
    refine sk_n rfl ?_
    refine cw_seq ?_
    refine cw_region ?_
    refine ow_op (by simp only [exOp, opd, zv, hS.len, uRows_len, hbig, hR, rulesD, twD, hf, beq_self_eq_true, bne_self_eq_false, Bool.and_self, Bool.not_true, Int.reduceBNe, hG.len, ruRows_len, ho1, hcap]; exact lives_run (by omega) _) ?_
    refine ow_op (by simp only [opd, zv, exOp, aop, LOp.loud, pop, zp, hS.len, uRows_len, hbig, hR, rulesD, twD, hf, beq_self_eq_true, bne_self_eq_false, Bool.and_self, Bool.not_true, Int.reduceBNe, hG.len, ruRows_len, ho1, hcap] <;> exact rfl) ?_
    refine ow_nil ?_
    refine sk_n (by simp only [exports, zn, zg] <;> exact rfl) ?_
    refine cw_ret ?_
    refine ⟨_, by simp only [F3, resultD, resDs, resD, List.getD_cons_zero, List.getD_cons_succ, loadD_cptr, loadD_ptr, rowsOf, partD, List.getElem?_cons_zero, List.getElem?_cons_succ, if_true, if_false, Bool.false_eq_true, List.take, List.drop, zm] <;> exact rfl, ?_⟩
    rfl

theorem lawRules_big {d : Nat} (hd : 9 ≤ d) (S : St) {x : D} {l : List Uu} (hS : SlD 3 (uRows l) x) (hl : ¬ l.length ≤ 6) :
    runF LP NN d 3 [x] S = some (.bool true, S, false) := by
  have hbig : decide (((l.length : Nat) : Int) > 6) = true := decide_eq_true (by omega)
  refine run_pure (F := F3) rfl (by simp only [LP, fnOf, snapVs, snaps, zs, Bool.false_eq_true, if_false, Option.map_some, List.map_cons, List.map_nil, hS.snapV, hS.freeV] <;> exact rfl) rfl (by simp only [LP, zf, List.all_cons, List.all_nil, Bool.and_true, Bool.true_and, hS.snapV, hS.freeV]; try rfl) (by simp only [F3, zv] <;> exact rfl) (by omega) ?_
  rintro d rfl
  refine cw_seq ?_
  refine cw_region ?_
  refine ow_op (by simp only [opd, zv, exOp, aop, LOp.loud, pop, zp, hS.len, uRows_len, hbig] <;> exact rfl) ?_
  refine ow_nil ?_
  refine sk_n (by simp only [exports, zn, zg] <;> exact rfl) ?_
  refine cw_seq ?_
  refine cw_seq ?_
  refine cw_region ?_
  refine ow_op (by simp only [opd, zv, exOp, aop, LOp.loud, pop, zp, hS.len, uRows_len, hbig] <;> exact rfl) ?_
  refine ow_op (by simp only [opd, zv, exOp, aop, LOp.loud, pop, zp, lenD_str, lenD_nils, lenD_sl, lenD_msl, hS.len, uRows_len, hbig] <;> exact rfl) ?_
  refine ow_op (by simp only [opd, zv, exOp, aop, LOp.loud, pop, zp, binD, eq_self, ne_eq, not_false_eq_true, true_and, Int.reduceEq, ite_true, ite_false, not_true_eq_false, Int.reduceToNat, Int.reduceLT, hS.len, uRows_len, hbig] <;> exact rfl) ?_
  refine ow_nil ?_
  refine sk_n (by simp only [exports, zn, zg] <;> exact rfl) ?_
  skip
  refine cw_true (by simp only [opd, zv, hS.len, uRows_len, hbig] <;> rfl) ?_
  refine cw_seq ?_
  refine cw_region ?_
  refine ow_op (by simp only [exOp, opd, zv, hS.len, uRows_len, hbig]; exact lives_run (by omega) _) ?_
  refine ow_op (by simp only [opd, zv, exOp, aop, LOp.loud, pop, zp, hS.len, uRows_len, hbig] <;> exact rfl) ?_
  refine ow_nil ?_
  refine sk_n (by simp only [exports, zn, zg] <;> exact rfl) ?_
  refine cw_ret ?_
  refine sk_r ?_
  refine ⟨_, by simp only [F3, resultD, resDs, resD, List.getD_cons_zero, List.getD_cons_succ, loadD_cptr, loadD_ptr, rowsOf, partD, List.getElem?_cons_zero, List.getElem?_cons_succ, if_true, if_false, Bool.false_eq_true, List.take, List.drop, zm] <;> exact rfl, ?_⟩
  rfl

theorem lawRules_run {d : Nat} (hd : 9 ≤ d) (S : St) {x : D} {l : List Uu} (hS : SlD 3 (uRows l) x) : runF LP NN d 3 [x] S = some (.bool true, S, false) := by
  by_cases hl : l.length ≤ 6
  · have h := rules_law l
    cases hf : firstDup l with
    | none =>
      rw [hf] at h
      obtain ⟨o, h1, h2⟩ := h
      exact lawRules_ok hd S hS hl o hf h1 h2
    | some p =>
      obtain ⟨i, c⟩ := p
      rw [hf] at h
      exact lawRules_dup hd S hS hl i c hf h
  · exact lawRules_big hd S hS hl

end Go.Proofs.Ytnihohodcogpeaa

/- Proved here: what the functions of package declaratives and of the law compute, in the abstract machine; no condition. -/
import Derived.Test.YtnihohodcogpeaaE1
namespace Go.Proofs.Ytnihohodcogpeaa
set_option linter.unusedSimpArgs false
set_option linter.unusedVariables false
set_option maxRecDepth 10000

def selP1 (s : ByteArray) (r : Ru) : Bool := r.names.any fun x => s.toList == x.toList
def selP2 (m : Nat) (r : Ru) : Bool := ((r.names.length : Int) == 0) && ((r.mode : Int) == (m : Int))
/-- what Select finds -/
def selI (l : List Ru) (s : ByteArray) (m : Nat) : Int := if idxI (selP1 s) l < 0 ∧ m ≠ 0 then idxI (selP2 m) l else idxI (selP1 s) l
theorem max_wr (i : Int) : (if (0 : Int) > i then (0 : Int) else i) = max i 0 := by split <;> omega

theorem select_run {d : Nat} (hd : 5 ≤ d) (S : St) {x : D} {l : List Ru} (hS : SlD 3 (ruRows l) x) (hl : l.length ≤ 1000000) (s : ByteArray) (m : Nat) :
    runF LP NN d 13 [x, .str s, .int .u8 m] S = some (.tup [.int .i64 (max (selI l s m) 0), .bool (decide (selI l s m ≥ 0))], S, false) := by
  refine run_pure (F := F13) rfl (by simp only [LP, fnOf, snapVs, snaps, snap_int, snapV_int, snap_bool, snapV_bool, snap_str, snapV_str, snap_nilp, snapV_nilp, snap_nils, snapV_nils, snap_nilfn, snapV_nilfn, snap_nilm, snapV_nilm, snap_sl, snapV_sl, snap_cptr, snapV_cptr, snap_mp, snapV_mp, snap_ptr, snapV_ptr, snap_fn, snapV_fn, snapV_msl, snapV_mref, snap_msl, snap_mref, snapV_agg, snapR_tup, snapR_int, snapR_bool, snapR_str, snapR_nilp, snapR_nils, snapR_nilfn, snapR_nilm, snapR_sl, snapR_cptr, snapR_mp, snapR_ptr, snapR_fn, snapR_msl, snapR_mref, snapR_agg, Bool.false_eq_true, if_false, Option.map_some, List.map_cons, List.map_nil, hS.snapV, hS.freeV]; exact rfl) rfl (by simp only [LP, free_int, freeV_int, freeR_int, free_bool, freeV_bool, freeR_bool, free_str, freeV_str, freeR_str, free_nilp, freeV_nilp, freeR_nilp, free_nils, freeV_nils, freeR_nils, free_nilfn, freeV_nilfn, freeR_nilfn, free_nilm, freeV_nilm, freeR_nilm, free_sl, freeV_sl, freeR_sl, free_cptr, freeV_cptr, freeR_cptr, free_mp, freeV_mp, freeR_mp, free_ptr, freeV_ptr, freeR_ptr, free_fn, freeV_fn, freeR_fn, free_msl, freeV_msl, freeR_msl, free_mref, freeV_mref, freeR_mref, freeV_agg, freeR_agg, freeR_tup, List.all_cons, List.all_nil, Bool.and_true, Bool.true_and, hS.snapV, hS.freeV]; try rfl) (by simp only [F13, List.map_cons, List.map_nil, List.getD_cons_zero, List.getD_cons_succ, List.getD_nil]; exact rfl) (by omega) ?_
  rintro d rfl
  refine cw_seq ?_
  refine cw_region ?_
  refine ow_op (by simp only [opd, List.map_cons, List.map_nil, List.getD_cons_zero, List.getD_cons_succ, List.getD_nil, exOp, aop, LOp.loud, lop, rowsOf, newAt, setAt, at_app, at_app0, set_app, set_app0, min_low, List.append_assoc, List.length_append, List.length_set, List.set_cons_zero, List.set_cons_succ, Nat.min_self, Nat.zero_min, Nat.min_zero, if_true, if_false, ite_true, ite_false, true_and, and_true, and_self, ne_eq, not_true_eq_false, not_false_eq_true, Bool.false_eq_true, Option.map_some, Option.map_none, List.length_cons, List.length_nil, List.drop_zero, List.drop_succ_cons, List.take_succ_cons, List.take_zero, List.cons_append, List.nil_append, List.all_cons, List.all_nil, Bool.and_true, Bool.true_and, List.getElem?_cons_zero, List.getElem?_cons_succ, beq_self_eq_true, decide_true, Nat.zero_add, Nat.add_zero, isCell_int, val_int, cells_int, isCell_bool, val_bool, cells_bool, isCell_str, val_str, cells_str, isCell_nilp, val_nilp, cells_nilp, isCell_nils, val_nils, cells_nils, isCell_nilfn, val_nilfn, cells_nilfn, isCell_nilm, val_nilm, cells_nilm, isCell_sl, val_sl, cells_sl, isCell_cptr, val_cptr, cells_cptr, isCell_mp, val_mp, cells_mp, isCell_ptr, val_ptr, cells_ptr, isCell_fn, val_fn, cells_fn, isCell_msl, val_msl, cells_msl, isCell_mref, val_mref, cells_mref, val_agg, cells_agg, max_wr]; exact rfl) ?_
  refine ow_op (by simp only [opd, List.map_cons, List.map_nil, List.getD_cons_zero, List.getD_cons_succ, List.getD_nil, exOp, aop, LOp.loud, lop, rowsOf, newAt, setAt, at_app, at_app0, set_app, set_app0, min_low, List.append_assoc, List.length_append, List.length_set, List.set_cons_zero, List.set_cons_succ, Nat.min_self, Nat.zero_min, Nat.min_zero, if_true, if_false, ite_true, ite_false, true_and, and_true, and_self, ne_eq, not_true_eq_false, not_false_eq_true, Bool.false_eq_true, Option.map_some, Option.map_none, List.length_cons, List.length_nil, List.drop_zero, List.drop_succ_cons, List.take_succ_cons, List.take_zero, List.cons_append, List.nil_append, List.all_cons, List.all_nil, Bool.and_true, Bool.true_and, List.getElem?_cons_zero, List.getElem?_cons_succ, beq_self_eq_true, decide_true, Nat.zero_add, Nat.add_zero, isCell_int, val_int, cells_int, isCell_bool, val_bool, cells_bool, isCell_str, val_str, cells_str, isCell_nilp, val_nilp, cells_nilp, isCell_nils, val_nils, cells_nils, isCell_nilfn, val_nilfn, cells_nilfn, isCell_nilm, val_nilm, cells_nilm, isCell_sl, val_sl, cells_sl, isCell_cptr, val_cptr, cells_cptr, isCell_mp, val_mp, cells_mp, isCell_ptr, val_ptr, cells_ptr, isCell_fn, val_fn, cells_fn, isCell_msl, val_msl, cells_msl, isCell_mref, val_mref, cells_mref, val_agg, cells_agg, max_wr]; exact rfl) ?_
  refine ow_op (by simp only [opd, List.map_cons, List.map_nil, List.getD_cons_zero, List.getD_cons_succ, List.getD_nil, exOp, aop, LOp.loud, pop, if_false, if_true, Bool.false_eq_true, Option.map_some, max_wr]; exact rfl) ?_
  refine ow_op (by simp only [opd, List.map_cons, List.map_nil, List.getD_cons_zero, List.getD_cons_succ, List.getD_nil, exOp, aop, LOp.loud, pop, if_false, if_true, Bool.false_eq_true, Option.map_some, max_wr]; exact rfl) ?_
  refine ow_nil ?_
  refine sk_n (by simp only [exports, List.set_cons_zero, List.set_cons_succ, List.getD_cons_zero, List.getD_cons_succ, List.getD_nil]; exact rfl) ?_
  refine cw_seq ?_
  refine cw_region ?_
  refine ow_op (by simp only [opd, List.map_cons, List.map_nil, List.getD_cons_zero, List.getD_cons_succ, List.getD_nil, exOp, aop, LOp.loud, pop, if_false, if_true, Bool.false_eq_true, Option.map_some, max_wr]; exact rfl) ?_
  refine ow_op (by simp only [opd, List.map_cons, List.map_nil, List.getD_cons_zero, List.getD_cons_succ, List.getD_nil, exOp, aop, LOp.loud, pop, if_false, if_true, Bool.false_eq_true, Option.map_some, max_wr]; exact rfl) ?_
  refine ow_op (by simp only [exOp, opd, List.map_cons, List.map_nil, List.getD_cons_zero, List.getD_cons_succ, List.getD_nil, max_wr]; exact indexFunc_run (by omega) _ hS hl 18 [.ptr 0 0 0 0] rfl (selP1 s) (fun he r hr => by cases he; exact sel1_run (by omega) _ r _ 0 9 rfl (by simp))) ?_
  refine ow_op (by simp only [opd, List.map_cons, List.map_nil, List.getD_cons_zero, List.getD_cons_succ, List.getD_nil, exOp, aop, LOp.loud, pop, if_false, if_true, Bool.false_eq_true, Option.map_some, max_wr]; exact rfl) ?_
  refine ow_nil ?_
  refine sk_n (by simp only [exports, List.set_cons_zero, List.set_cons_succ, List.getD_cons_zero, List.getD_cons_succ, List.getD_nil]; exact rfl) ?_
  refine cw_seq ?_
  refine cw_seq ?_
  refine cw_region ?_
  refine ow_op (by simp only [opd, List.map_cons, List.map_nil, List.getD_cons_zero, List.getD_cons_succ, List.getD_nil, exOp, aop, LOp.loud, pop, if_false, if_true, Bool.false_eq_true, Option.map_some, max_wr]; exact rfl) ?_
  refine ow_op (by simp only [opd, List.map_cons, List.map_nil, List.getD_cons_zero, List.getD_cons_succ, List.getD_nil, exOp, aop, LOp.loud, pop, if_false, if_true, Bool.false_eq_true, Option.map_some, binD, eq_self, ne_eq, not_false_eq_true, true_and, Int.reduceEq, ite_true, ite_false, not_true_eq_false, Int.reduceToNat, Int.reduceLT, max_wr]; exact rfl) ?_
  refine ow_op (by simp only [opd, List.map_cons, List.map_nil, List.getD_cons_zero, List.getD_cons_succ, List.getD_nil, exOp, aop, LOp.loud, pop, if_false, if_true, Bool.false_eq_true, Option.map_some, max_wr]; exact rfl) ?_
  refine ow_split 0 (by simp only [opd, List.map_cons, List.map_nil, List.getD_cons_zero, List.getD_cons_succ, List.getD_nil]; exact rfl) (by simp only [List.set_cons_zero, List.set_cons_succ]; exact rfl) (by simp only [List.set_cons_zero, List.set_cons_succ]; exact rfl) (fun hg => ?_) (fun hg => ?_)
  · skip -- T
    refine ow_on (by simp only [opd, List.map_cons, List.map_nil, List.getD_cons_zero, List.getD_cons_succ, List.getD_nil]) ?_
    refine ow_op (by simp only [opd, List.map_cons, List.map_nil, List.getD_cons_zero, List.getD_cons_succ, List.getD_nil, exOp, aop, LOp.loud, lop, rowsOf, newAt, setAt, at_app, at_app0, set_app, set_app0, min_low, List.append_assoc, List.length_append, List.length_set, List.set_cons_zero, List.set_cons_succ, Nat.min_self, Nat.zero_min, Nat.min_zero, if_true, if_false, ite_true, ite_false, true_and, and_true, and_self, ne_eq, not_true_eq_false, not_false_eq_true, Bool.false_eq_true, Option.map_some, Option.map_none, List.length_cons, List.length_nil, List.drop_zero, List.drop_succ_cons, List.take_succ_cons, List.take_zero, List.cons_append, List.nil_append, List.all_cons, List.all_nil, Bool.and_true, Bool.true_and, List.getElem?_cons_zero, List.getElem?_cons_succ, beq_self_eq_true, decide_true, Nat.zero_add, Nat.add_zero, loadD_cptr, loadD_ptr, partD, List.take, List.drop, max_wr]; exact rfl) ?_
    refine ow_on (by simp only [opd, List.map_cons, List.map_nil, List.getD_cons_zero, List.getD_cons_succ, List.getD_nil]) ?_
    refine ow_op (by simp only [opd, List.map_cons, List.map_nil, List.getD_cons_zero, List.getD_cons_succ, List.getD_nil, exOp, aop, LOp.loud, pop, if_false, if_true, Bool.false_eq_true, Option.map_some, binD, eq_self, ne_eq, not_false_eq_true, true_and, Int.reduceEq, ite_true, ite_false, not_true_eq_false, Int.reduceToNat, Int.reduceLT, max_wr]; exact rfl) ?_
    refine ow_op (by simp only [opd, List.map_cons, List.map_nil, List.getD_cons_zero, List.getD_cons_succ, List.getD_nil, exOp, aop, LOp.loud, pop, if_false, if_true, Bool.false_eq_true, Option.map_some, max_wr]; exact rfl) ?_
    refine ow_nil ?_
    refine sk_n (by simp only [exports, List.set_cons_zero, List.set_cons_succ, List.getD_cons_zero, List.getD_cons_succ, List.getD_nil]; exact rfl) ?_
    refine cw_cond (by simp only [opd, List.map_cons, List.map_nil, List.getD_cons_zero, List.getD_cons_succ, List.getD_nil, max_wr]; exact rfl) (fun hcT => ?_) (fun hcT => ?_)
    · skip -- TT
      refine cw_region ?_
      refine ow_op (by simp only [opd, List.map_cons, List.map_nil, List.getD_cons_zero, List.getD_cons_succ, List.getD_nil, exOp, aop, LOp.loud, pop, if_false, if_true, Bool.false_eq_true, Option.map_some, max_wr]; exact rfl) ?_
      refine ow_op (by simp only [opd, List.map_cons, List.map_nil, List.getD_cons_zero, List.getD_cons_succ, List.getD_nil, exOp, aop, LOp.loud, pop, if_false, if_true, Bool.false_eq_true, Option.map_some, max_wr]; exact rfl) ?_
      refine ow_op (by simp only [exOp, opd, List.map_cons, List.map_nil, List.getD_cons_zero, List.getD_cons_succ, List.getD_nil, max_wr]; exact indexFunc_run (by omega) _ hS hl 20 [.ptr 1 0 0 0] rfl (selP2 m) (fun he r hr => by cases he; exact sel2_run (by omega) _ r _ 1 45 rfl (by simp))) ?_
      refine ow_op (by simp only [opd, List.map_cons, List.map_nil, List.getD_cons_zero, List.getD_cons_succ, List.getD_nil, exOp, aop, LOp.loud, pop, if_false, if_true, Bool.false_eq_true, Option.map_some, max_wr]; exact rfl) ?_
      refine ow_nil ?_
      refine sk_n (by simp only [exports, List.set_cons_zero, List.set_cons_succ, List.getD_cons_zero, List.getD_cons_succ, List.getD_nil]; exact rfl) ?_
      refine cw_seq ?_
      refine cw_region ?_
      refine ow_op (by simp only [opd, List.map_cons, List.map_nil, List.getD_cons_zero, List.getD_cons_succ, List.getD_nil, exOp, aop, LOp.loud, pop, if_false, if_true, Bool.false_eq_true, Option.map_some, max_wr]; exact rfl) ?_
      refine ow_op (by simp only [opd, List.map_cons, List.map_nil, List.getD_cons_zero, List.getD_cons_succ, List.getD_nil, exOp, aop, LOp.loud, pop, if_false, if_true, Bool.false_eq_true, Option.map_some, maxD, max_wr]; exact rfl) ?_
      refine ow_op (by simp only [opd, List.map_cons, List.map_nil, List.getD_cons_zero, List.getD_cons_succ, List.getD_nil, exOp, aop, LOp.loud, pop, if_false, if_true, Bool.false_eq_true, Option.map_some, max_wr]; exact rfl) ?_
      refine ow_op (by simp only [opd, List.map_cons, List.map_nil, List.getD_cons_zero, List.getD_cons_succ, List.getD_nil, exOp, aop, LOp.loud, pop, if_false, if_true, Bool.false_eq_true, Option.map_some, binD, eq_self, ne_eq, not_false_eq_true, true_and, Int.reduceEq, ite_true, ite_false, not_true_eq_false, Int.reduceToNat, Int.reduceLT, max_wr]; exact rfl) ?_
      refine ow_op (by simp only [opd, List.map_cons, List.map_nil, List.getD_cons_zero, List.getD_cons_succ, List.getD_nil, exOp, aop, LOp.loud, pop, if_false, if_true, Bool.false_eq_true, Option.map_some, max_wr]; exact rfl) ?_
      refine ow_op (by simp only [opd, List.map_cons, List.map_nil, List.getD_cons_zero, List.getD_cons_succ, List.getD_nil, exOp, aop, LOp.loud, pop, if_false, if_true, Bool.false_eq_true, Option.map_some, max_wr]; exact rfl) ?_
      refine ow_nil ?_
      refine sk_n (by simp only [exports, List.set_cons_zero, List.set_cons_succ, List.getD_cons_zero, List.getD_cons_succ, List.getD_nil]; exact rfl) ?_
      refine cw_ret ?_
      refine ⟨_, by simp only [F13, resultD, resDs, resD, List.getD_cons_zero, List.getD_cons_succ, loadD_cptr, loadD_ptr, rowsOf, partD, List.getElem?_cons_zero, List.getElem?_cons_succ, if_true, if_false, Bool.false_eq_true, List.take, List.drop, if_true, if_false, ite_true, ite_false, true_and, and_true, and_self, ne_eq, not_true_eq_false, not_false_eq_true, Bool.false_eq_true, Option.map_some, Option.map_none, List.length_cons, List.length_nil, List.drop_zero, List.drop_succ_cons, List.take_succ_cons, List.take_zero, List.cons_append, List.nil_append, List.all_cons, List.all_nil, Bool.and_true, Bool.true_and, List.getElem?_cons_zero, List.getElem?_cons_succ, beq_self_eq_true, decide_true, Nat.zero_add, Nat.add_zero]; exact rfl, ?_⟩
      have h1 := of_decide_eq_true hg
      have h2 : m ≠ 0 := by intro h; subst h; simp at hcT
      rw [show selI l s m = _ from if_pos ⟨h1, h2⟩]; rfl
    · skip -- TF
      refine cw_skip ?_
      refine sk_n rfl ?_
      refine cw_seq ?_
      refine cw_region ?_
      refine ow_op (by simp only [opd, List.map_cons, List.map_nil, List.getD_cons_zero, List.getD_cons_succ, List.getD_nil, exOp, aop, LOp.loud, pop, if_false, if_true, Bool.false_eq_true, Option.map_some, max_wr]; exact rfl) ?_
      refine ow_op (by simp only [opd, List.map_cons, List.map_nil, List.getD_cons_zero, List.getD_cons_succ, List.getD_nil, exOp, aop, LOp.loud, pop, if_false, if_true, Bool.false_eq_true, Option.map_some, maxD, max_wr]; exact rfl) ?_
      refine ow_op (by simp only [opd, List.map_cons, List.map_nil, List.getD_cons_zero, List.getD_cons_succ, List.getD_nil, exOp, aop, LOp.loud, pop, if_false, if_true, Bool.false_eq_true, Option.map_some, max_wr]; exact rfl) ?_
      refine ow_op (by simp only [opd, List.map_cons, List.map_nil, List.getD_cons_zero, List.getD_cons_succ, List.getD_nil, exOp, aop, LOp.loud, pop, if_false, if_true, Bool.false_eq_true, Option.map_some, binD, eq_self, ne_eq, not_false_eq_true, true_and, Int.reduceEq, ite_true, ite_false, not_true_eq_false, Int.reduceToNat, Int.reduceLT, max_wr]; exact rfl) ?_
      refine ow_op (by simp only [opd, List.map_cons, List.map_nil, List.getD_cons_zero, List.getD_cons_succ, List.getD_nil, exOp, aop, LOp.loud, pop, if_false, if_true, Bool.false_eq_true, Option.map_some, max_wr]; exact rfl) ?_
      refine ow_op (by simp only [opd, List.map_cons, List.map_nil, List.getD_cons_zero, List.getD_cons_succ, List.getD_nil, exOp, aop, LOp.loud, pop, if_false, if_true, Bool.false_eq_true, Option.map_some, max_wr]; exact rfl) ?_
      refine ow_nil ?_
      refine sk_n (by simp only [exports, List.set_cons_zero, List.set_cons_succ, List.getD_cons_zero, List.getD_cons_succ, List.getD_nil]; exact rfl) ?_
      refine cw_ret ?_
      refine ⟨_, by simp only [F13, resultD, resDs, resD, List.getD_cons_zero, List.getD_cons_succ, loadD_cptr, loadD_ptr, rowsOf, partD, List.getElem?_cons_zero, List.getElem?_cons_succ, if_true, if_false, Bool.false_eq_true, List.take, List.drop, if_true, if_false, ite_true, ite_false, true_and, and_true, and_self, ne_eq, not_true_eq_false, not_false_eq_true, Bool.false_eq_true, Option.map_some, Option.map_none, List.length_cons, List.length_nil, List.drop_zero, List.drop_succ_cons, List.take_succ_cons, List.take_zero, List.cons_append, List.nil_append, List.all_cons, List.all_nil, Bool.and_true, Bool.true_and, List.getElem?_cons_zero, List.getElem?_cons_succ, beq_self_eq_true, decide_true, Nat.zero_add, Nat.add_zero]; exact rfl, ?_⟩
      have h2 : ¬ m ≠ 0 := by simpa using hcT
      rw [show selI l s m = _ from if_neg (fun h => h2 h.2)]; rfl
  · skip -- F
    refine ow_off (b' := false) (by simp only [opd, List.map_cons, List.map_nil, List.getD_cons_zero, List.getD_cons_succ, List.getD_nil]) rfl ?_
    refine ow_off (b' := false) (by simp only [opd, List.map_cons, List.map_nil, List.getD_cons_zero, List.getD_cons_succ, List.getD_nil]) rfl ?_
    refine ow_op (by simp only [opd, List.map_cons, List.map_nil, List.getD_cons_zero, List.getD_cons_succ, List.getD_nil, exOp, aop, LOp.loud, pop, if_false, if_true, Bool.false_eq_true, Option.map_some, max_wr]; exact rfl) ?_
    refine ow_nil ?_
    refine sk_n (by simp only [exports, List.set_cons_zero, List.set_cons_succ, List.getD_cons_zero, List.getD_cons_succ, List.getD_nil]; exact rfl) ?_
    refine cw_false (by simp only [opd, List.map_cons, List.map_nil, List.getD_cons_zero, List.getD_cons_succ, List.getD_nil, max_wr]) ?_
    refine cw_skip ?_
    refine sk_n rfl ?_
    refine cw_seq ?_
    refine cw_region ?_
    refine ow_op (by simp only [opd, List.map_cons, List.map_nil, List.getD_cons_zero, List.getD_cons_succ, List.getD_nil, exOp, aop, LOp.loud, pop, if_false, if_true, Bool.false_eq_true, Option.map_some, max_wr]; exact rfl) ?_
    refine ow_op (by simp only [opd, List.map_cons, List.map_nil, List.getD_cons_zero, List.getD_cons_succ, List.getD_nil, exOp, aop, LOp.loud, pop, if_false, if_true, Bool.false_eq_true, Option.map_some, maxD, max_wr]; exact rfl) ?_
    refine ow_op (by simp only [opd, List.map_cons, List.map_nil, List.getD_cons_zero, List.getD_cons_succ, List.getD_nil, exOp, aop, LOp.loud, pop, if_false, if_true, Bool.false_eq_true, Option.map_some, max_wr]; exact rfl) ?_
    refine ow_op (by simp only [opd, List.map_cons, List.map_nil, List.getD_cons_zero, List.getD_cons_succ, List.getD_nil, exOp, aop, LOp.loud, pop, if_false, if_true, Bool.false_eq_true, Option.map_some, binD, eq_self, ne_eq, not_false_eq_true, true_and, Int.reduceEq, ite_true, ite_false, not_true_eq_false, Int.reduceToNat, Int.reduceLT, max_wr]; exact rfl) ?_
    refine ow_op (by simp only [opd, List.map_cons, List.map_nil, List.getD_cons_zero, List.getD_cons_succ, List.getD_nil, exOp, aop, LOp.loud, pop, if_false, if_true, Bool.false_eq_true, Option.map_some, max_wr]; exact rfl) ?_
    refine ow_op (by simp only [opd, List.map_cons, List.map_nil, List.getD_cons_zero, List.getD_cons_succ, List.getD_nil, exOp, aop, LOp.loud, pop, if_false, if_true, Bool.false_eq_true, Option.map_some, max_wr]; exact rfl) ?_
    refine ow_nil ?_
    refine sk_n (by simp only [exports, List.set_cons_zero, List.set_cons_succ, List.getD_cons_zero, List.getD_cons_succ, List.getD_nil]; exact rfl) ?_
    refine cw_ret ?_
    refine ⟨_, by simp only [F13, resultD, resDs, resD, List.getD_cons_zero, List.getD_cons_succ, loadD_cptr, loadD_ptr, rowsOf, partD, List.getElem?_cons_zero, List.getElem?_cons_succ, if_true, if_false, Bool.false_eq_true, List.take, List.drop, if_true, if_false, ite_true, ite_false, true_and, and_true, and_self, ne_eq, not_true_eq_false, not_false_eq_true, Bool.false_eq_true, Option.map_some, Option.map_none, List.length_cons, List.length_nil, List.drop_zero, List.drop_succ_cons, List.take_succ_cons, List.take_zero, List.cons_append, List.nil_append, List.all_cons, List.all_nil, Bool.and_true, Bool.true_and, List.getElem?_cons_zero, List.getElem?_cons_succ, beq_self_eq_true, decide_true, Nat.zero_add, Nat.add_zero]; exact rfl, ?_⟩
    have h1 := of_decide_eq_false hg
    rw [show selI l s m = _ from if_neg (fun h => h1 h.1)]; rfl

theorem lives_run {d : Nat} (hd : 8 ≤ d) (S : St) : runF LP NN d 5 [] S = some (.bool true, S, false) := by
  obtain ⟨d, rfl⟩ : ∃ d', d = d' + 8 := ⟨d - 8, by omega⟩
  kernel_rfl

end Go.Proofs.Ytnihohodcogpeaa

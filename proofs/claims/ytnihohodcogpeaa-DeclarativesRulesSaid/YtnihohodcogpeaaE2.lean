/- Proved here: what the functions of package declaratives and of the law compute, in the abstract machine; no condition. -/
import Derived.Test.YtnihohodcogpeaaE1
import Derived.Test.YtnihohodcogpeaaLoZ
namespace Go.Proofs.Ytnihohodcogpeaa
set_option linter.unusedSimpArgs false
set_option linter.unusedVariables false
set_option maxRecDepth 10000

def selP1 (s : ByteArray) (r : Ru) : Bool := r.names.any fun x => s.toList == x.toList
def selP2 (m : Nat) (r : Ru) : Bool := ((r.names.length : Int) == 0) && ((r.mode : Int) == (m : Int))
/-- what Select finds -/
def selI (l : List Ru) (s : ByteArray) (m : Nat) : Int := if idxI (selP1 s) l < 0 ∧ m ≠ 0 then idxI (selP2 m) l else idxI (selP1 s) l
theorem max_wr (i : Int) : (if (0 : Int) > i then (0 : Int) else i) = max i 0 := by split <;> omega

theorem select_run {d : Nat} (hd : 5 ≤ d) (S : St) {x : D} {l : List Ru} (hS : SlD 3 (ruRows l) x) (hl : l.length ≤ 1000000) (s : ByteArray) (m : Nat) :
    runF LP NN d 13 [x, .str s, .int .u8 m] S = some (.tup [.int .i64 (max (selI l s m) 0), .bool (decide (selI l s m ≥ 0))], S, false) := by
  refine run_pure (F := F13) rfl (by simp only [LP, fnOf, snapVs, snaps, zs, Bool.false_eq_true, if_false, Option.map_some, List.map_cons, List.map_nil, hS.snapV, hS.freeV] <;> exact rfl) rfl (by simp only [LP, zf, List.all_cons, List.all_nil, Bool.and_true, Bool.true_and, hS.snapV, hS.freeV]; try rfl) (by simp only [F13, zv] <;> exact rfl) (by omega) ?_
  rintro d rfl
  refine cw_seq ?_
  refine cw_region ?_
  refine ow_op (by simp only [opd, zv, exOp, aop, LOp.loud, lop, rowsOf, newAt, setAt, zh, zm, zc, max_wr] <;> exact rfl) ?_
  refine ow_op (by simp only [opd, zv, exOp, aop, LOp.loud, lop, rowsOf, newAt, setAt, zh, zm, zc, max_wr] <;> exact rfl) ?_
  refine ow_op (by simp only [opd, zv, exOp, aop, LOp.loud, pop, zp, max_wr] <;> exact rfl) ?_
  refine ow_op (by simp only [opd, zv, exOp, aop, LOp.loud, pop, zp, max_wr] <;> exact rfl) ?_
  refine ow_nil ?_
  refine sk_n (by simp only [exports, zn, zg] <;> exact rfl) ?_
  refine cw_seq ?_
  refine cw_region ?_
  refine ow_op (by simp only [opd, zv, exOp, aop, LOp.loud, pop, zp, max_wr] <;> exact rfl) ?_
  refine ow_op (by simp only [opd, zv, exOp, aop, LOp.loud, pop, zp, max_wr] <;> exact rfl) ?_
  refine ow_op (by simp only [exOp, opd, zv, max_wr]; exact indexFunc_run (by omega) _ hS hl 18 [.ptr 0 0 0 0] rfl (selP1 s) (fun he r hr => by cases he; exact sel1_run (by omega) _ r _ 0 9 rfl (by simp))) ?_
  refine ow_op (by simp only [opd, zv, exOp, aop, LOp.loud, pop, zp, max_wr] <;> exact rfl) ?_
  refine ow_nil ?_
  refine sk_n (by simp only [exports, zn, zg] <;> exact rfl) ?_
  refine cw_seq ?_
  refine cw_seq ?_
  refine cw_region ?_
  refine ow_op (by simp only [opd, zv, exOp, aop, LOp.loud, pop, zp, max_wr] <;> exact rfl) ?_
  refine ow_op (by simp only [opd, zv, exOp, aop, LOp.loud, pop, zp, binD, eq_self, ne_eq, not_false_eq_true, true_and, Int.reduceEq, ite_true, ite_false, not_true_eq_false, Int.reduceToNat, Int.reduceLT, max_wr] <;> exact rfl) ?_
  refine ow_op (by simp only [opd, zv, exOp, aop, LOp.loud, pop, zp, max_wr] <;> exact rfl) ?_
  refine ow_split 0 (by simp only [opd, zv] <;> exact rfl) (by simp only [zn] <;> exact rfl) (by simp only [zn] <;> exact rfl) (fun hg => ?_) (fun hg => ?_)
  · skip -- T
    refine ow_on (by simp only [opd, zv]) ?_
    refine ow_op (by simp only [opd, zv, exOp, aop, LOp.loud, lop, rowsOf, newAt, setAt, zh, zm, loadD_cptr, loadD_ptr, partD, List.take, List.drop, max_wr] <;> exact rfl) ?_
    refine ow_on (by simp only [opd, zv]) ?_
    refine ow_op (by simp only [opd, zv, exOp, aop, LOp.loud, pop, zp, binD, eq_self, ne_eq, not_false_eq_true, true_and, Int.reduceEq, ite_true, ite_false, not_true_eq_false, Int.reduceToNat, Int.reduceLT, max_wr] <;> exact rfl) ?_
    refine ow_op (by simp only [opd, zv, exOp, aop, LOp.loud, pop, zp, max_wr] <;> exact rfl) ?_
    refine ow_nil ?_
    refine sk_n (by simp only [exports, zn, zg] <;> exact rfl) ?_
    refine cw_cond (by simp only [opd, zv, max_wr] <;> exact rfl) (fun hcT => ?_) (fun hcT => ?_)
    · skip -- TT
      refine cw_region ?_
      refine ow_op (by simp only [opd, zv, exOp, aop, LOp.loud, pop, zp, max_wr] <;> exact rfl) ?_
      refine ow_op (by simp only [opd, zv, exOp, aop, LOp.loud, pop, zp, max_wr] <;> exact rfl) ?_
      refine ow_op (by simp only [exOp, opd, zv, max_wr]; exact indexFunc_run (by omega) _ hS hl 20 [.ptr 1 0 0 0] rfl (selP2 m) (fun he r hr => by cases he; exact sel2_run (by omega) _ r _ 1 45 rfl (by simp))) ?_
      refine ow_op (by simp only [opd, zv, exOp, aop, LOp.loud, pop, zp, max_wr] <;> exact rfl) ?_
      refine ow_nil ?_
      refine sk_n (by simp only [exports, zn, zg] <;> exact rfl) ?_
      refine cw_seq ?_
      refine cw_region ?_
      refine ow_op (by simp only [opd, zv, exOp, aop, LOp.loud, pop, zp, max_wr] <;> exact rfl) ?_
      refine ow_op (by simp only [opd, zv, exOp, aop, LOp.loud, pop, zp, maxD, max_wr] <;> exact rfl) ?_
      refine ow_op (by simp only [opd, zv, exOp, aop, LOp.loud, pop, zp, max_wr] <;> exact rfl) ?_
      refine ow_op (by simp only [opd, zv, exOp, aop, LOp.loud, pop, zp, binD, eq_self, ne_eq, not_false_eq_true, true_and, Int.reduceEq, ite_true, ite_false, not_true_eq_false, Int.reduceToNat, Int.reduceLT, max_wr] <;> exact rfl) ?_
      refine ow_op (by simp only [opd, zv, exOp, aop, LOp.loud, pop, zp, max_wr] <;> exact rfl) ?_
      refine ow_op (by simp only [opd, zv, exOp, aop, LOp.loud, pop, zp, max_wr] <;> exact rfl) ?_
      refine ow_nil ?_
      refine sk_n (by simp only [exports, zn, zg] <;> exact rfl) ?_
      refine cw_ret ?_
      refine ⟨_, by simp only [F13, resultD, resDs, resD, List.getD_cons_zero, List.getD_cons_succ, loadD_cptr, loadD_ptr, rowsOf, partD, List.getElem?_cons_zero, List.getElem?_cons_succ, if_true, if_false, Bool.false_eq_true, List.take, List.drop, zm] <;> exact rfl, ?_⟩
      have h1 := of_decide_eq_true hg
      have h2 : m ≠ 0 := by intro h; subst h; simp at hcT
      rw [show selI l s m = _ from if_pos ⟨h1, h2⟩]; rfl
    · skip -- TF
      refine cw_skip ?_
      refine sk_n rfl ?_
      refine cw_seq ?_
      refine cw_region ?_
      refine ow_op (by simp only [opd, zv, exOp, aop, LOp.loud, pop, zp, max_wr] <;> exact rfl) ?_
      refine ow_op (by simp only [opd, zv, exOp, aop, LOp.loud, pop, zp, maxD, max_wr] <;> exact rfl) ?_
      refine ow_op (by simp only [opd, zv, exOp, aop, LOp.loud, pop, zp, max_wr] <;> exact rfl) ?_
      refine ow_op (by simp only [opd, zv, exOp, aop, LOp.loud, pop, zp, binD, eq_self, ne_eq, not_false_eq_true, true_and, Int.reduceEq, ite_true, ite_false, not_true_eq_false, Int.reduceToNat, Int.reduceLT, max_wr] <;> exact rfl) ?_
      refine ow_op (by simp only [opd, zv, exOp, aop, LOp.loud, pop, zp, max_wr] <;> exact rfl) ?_
      refine ow_op (by simp only [opd, zv, exOp, aop, LOp.loud, pop, zp, max_wr] <;> exact rfl) ?_
      refine ow_nil ?_
      refine sk_n (by simp only [exports, zn, zg] <;> exact rfl) ?_
      refine cw_ret ?_
      refine ⟨_, by simp only [F13, resultD, resDs, resD, List.getD_cons_zero, List.getD_cons_succ, loadD_cptr, loadD_ptr, rowsOf, partD, List.getElem?_cons_zero, List.getElem?_cons_succ, if_true, if_false, Bool.false_eq_true, List.take, List.drop, zm] <;> exact rfl, ?_⟩
      have h2 : ¬ m ≠ 0 := by simpa using hcT
      rw [show selI l s m = _ from if_neg (fun h => h2 h.2)]; rfl
  · skip -- F
    refine ow_off (b' := false) (by simp only [opd, zv]) rfl ?_
    refine ow_off (b' := false) (by simp only [opd, zv]) rfl ?_
    refine ow_op (by simp only [opd, zv, exOp, aop, LOp.loud, pop, zp, max_wr] <;> exact rfl) ?_
    refine ow_nil ?_
    refine sk_n (by simp only [exports, zn, zg] <;> exact rfl) ?_
    refine cw_false (by simp only [opd, zv, max_wr]) ?_
    refine cw_skip ?_
    refine sk_n rfl ?_
    refine cw_seq ?_
    refine cw_region ?_
    refine ow_op (by simp only [opd, zv, exOp, aop, LOp.loud, pop, zp, max_wr] <;> exact rfl) ?_
    refine ow_op (by simp only [opd, zv, exOp, aop, LOp.loud, pop, zp, maxD, max_wr] <;> exact rfl) ?_
    refine ow_op (by simp only [opd, zv, exOp, aop, LOp.loud, pop, zp, max_wr] <;> exact rfl) ?_
    refine ow_op (by simp only [opd, zv, exOp, aop, LOp.loud, pop, zp, binD, eq_self, ne_eq, not_false_eq_true, true_and, Int.reduceEq, ite_true, ite_false, not_true_eq_false, Int.reduceToNat, Int.reduceLT, max_wr] <;> exact rfl) ?_
    refine ow_op (by simp only [opd, zv, exOp, aop, LOp.loud, pop, zp, max_wr] <;> exact rfl) ?_
    refine ow_op (by simp only [opd, zv, exOp, aop, LOp.loud, pop, zp, max_wr] <;> exact rfl) ?_
    refine ow_nil ?_
    refine sk_n (by simp only [exports, zn, zg] <;> exact rfl) ?_
    refine cw_ret ?_
    refine ⟨_, by simp only [F13, resultD, resDs, resD, List.getD_cons_zero, List.getD_cons_succ, loadD_cptr, loadD_ptr, rowsOf, partD, List.getElem?_cons_zero, List.getElem?_cons_succ, if_true, if_false, Bool.false_eq_true, List.take, List.drop, zm] <;> exact rfl, ?_⟩
    have h1 := of_decide_eq_false hg
    rw [show selI l s m = _ from if_neg (fun h => h1 h.1)]; rfl

theorem lives_run {d : Nat} (hd : 8 ≤ d) (S : St) : runF LP NN d 5 [] S = some (.bool true, S, false) := by
  obtain ⟨d, rfl⟩ : ∃ d', d = d' + 8 := ⟨d - 8, by omega⟩
  kernel_rfl

end Go.Proofs.Ytnihohodcogpeaa

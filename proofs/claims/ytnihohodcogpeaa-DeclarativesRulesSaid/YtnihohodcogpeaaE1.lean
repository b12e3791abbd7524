/- Proved here: what the functions of package declaratives and of the law compute, in the abstract machine; no condition. -/
import Derived.Test.YtnihohodcogpeaaLow
import Derived.Test.YtnihohodcogpeaaLoZ
namespace Go.Proofs.Ytnihohodcogpeaa
set_option linter.unusedSimpArgs false
set_option linter.unusedVariables false
set_option maxRecDepth 10000

theorem index_run {d : Nat} (hd : 1 ≤ d) (S : St) {x : D} {l : List ByteArray} (hS : SlD 1 (strRows l) x) (s : ByteArray) (hl : l.length ≤ 1000000) :
    runF LP NN d 27 [x, .str s] S = some (.int .i64 (idxI (fun x => s.toList == x.toList) l), S, false) := by
  refine run_pure (F := F27) rfl (by simp only [LP, fnOf, snapVs, snaps, zs, Bool.false_eq_true, if_false, Option.map_some, List.map_cons, List.map_nil, hS.snapV, hS.freeV] <;> exact rfl) rfl (by simp only [LP, zf, List.all_cons, List.all_nil, Bool.and_true, Bool.true_and, hS.snapV, hS.freeV]; try rfl) (by simp only [F27, zv] <;> exact rfl) (by omega) ?_
  rintro d rfl
  refine cw_seq ?_
  refine cw_region ?_
  refine ow_op (by simp only [opd, zv, exOp, aop, LOp.loud, pop, zp, hS.len, strRows_len] <;> exact rfl) ?_
  refine ow_nil ?_
  refine sk_n (by simp only [exports, zn, zg] <;> exact rfl) ?_
  refine cw_seq ?_
  refine cw_seq ?_
  refine cw_region ?_
  refine ow_op (by simp only [opd, zv, exOp, aop, LOp.loud, pop, zp, hS.len, strRows_len] <;> exact rfl) ?_
  refine ow_op (by simp only [opd, zv, exOp, aop, LOp.loud, pop, zp, lenD_str, lenD_nils, lenD_sl, lenD_msl, hS.len, strRows_len] <;> exact rfl) ?_
  refine ow_op (by simp only [opd, zv, exOp, aop, LOp.loud, pop, zp, hS.len, strRows_len] <;> exact rfl) ?_
  refine ow_nil ?_
  refine sk_n (by simp only [exports, zn, zg] <;> exact rfl) ?_
  refine cw_block ?_
  refine cw_loop (fun n env S' => ∃ (i : Nat) (u3 u6 u7 : D), i ≤ l.length ∧ n = l.length - i ∧ ((l.take i).any fun x => s.toList == x.toList) = false ∧ S' = ⟨[], 0⟩ ∧ env = [x, .str s, .int .i64 0, u3, .int .i64 l.length, .int .i64 i, u6, u7]) (l.length) (by omega) (⟨0, _, _, _, by omega, by omega, by simp, rfl, rfl⟩) ?_
  rintro n env S' ⟨i, u3, u6, u7, hi, rfl, hany, rfl, rfl⟩
  have h0 : (0 : Int) ≤ (i : Int) := by omega
  refine cw_seq ?_
  refine cw_region ?_
  refine ow_op (by simp only [opd, zv, exOp, aop, LOp.loud, pop, zp, binD, eq_self, ne_eq, not_false_eq_true, true_and, Int.reduceEq, ite_true, ite_false, not_true_eq_false, Int.reduceToNat, Int.reduceLT, hS.len, strRows_len, h0] <;> exact rfl) ?_
  refine ow_nil ?_
  refine sk_n (by simp only [exports, zn, zg] <;> exact rfl) ?_
  refine cw_seq ?_
  refine cw_cond (by simp only [opd, zv, hS.len, strRows_len, h0] <;> exact rfl) (fun hcA => ?_) (fun hcA => ?_)
  · skip -- AT
    have hlt : i < l.length := by have := of_decide_eq_true hcA; omega
    have hw := wrap_nat i (by omega)
    have hx := List.getElem?_eq_getElem hlt
    have hia := fun (S : St) => hS.iaddrN S .i64 (strRows_at hlt)
    refine cw_skip ?_
    refine sk_n rfl ?_
    refine cw_seq ?_
    refine cw_block ?_
    refine cw_seq ?_
    refine cw_region ?_
    refine ow_op (by simp only [opd, zv, exOp, aop, LOp.loud, pop, zp, hS.len, strRows_len, h0, hw, hx, hia] <;> exact rfl) ?_
    refine ow_op (by simp only [opd, zv, exOp, aop, LOp.loud, pop, zp, hS.len, strRows_len, h0, hw, hx, hia] <;> exact rfl) ?_
    refine ow_nil ?_
    refine sk_n (by simp only [exports, zn, zg] <;> exact rfl) ?_
    refine cw_seq ?_
    refine cw_region ?_
    refine ow_op (by simp only [opd, zv, exOp, aop, LOp.loud, pop, zp, hS.len, strRows_len, h0, hw, hx, hia] <;> exact rfl) ?_
    refine ow_op (by simp only [opd, zv, exOp, aop, LOp.loud, pop, zp, hS.len, strRows_len, h0, hw, hx, hia] <;> exact rfl) ?_
    refine ow_op (by simp only [opd, zv, exOp, aop, LOp.loud, pop, zp, hS.len, strRows_len, h0, hw, hx, hia] <;> exact rfl) ?_
    refine ow_op (by simp only [opd, zv, exOp, aop, LOp.loud, lop, rowsOf, newAt, setAt, zh, zm, iaddrD_sl, iaddrD_msl, Int.toNat_natCast, Int.toNat_zero, List.getElem?_map, Option.map_some, Int.le_refl, hS.len, strRows_len, h0, hw, hx, hia] <;> exact rfl) ?_
    refine ow_op (by simp only [opd, zv, exOp, aop, LOp.loud, lop, rowsOf, newAt, setAt, zh, zm, loadD_cptr, loadD_ptr, partD, List.take, List.drop, hS.len, strRows_len, h0, hw, hx, hia] <;> exact rfl) ?_
    refine ow_op (by simp only [opd, zv, exOp, aop, LOp.loud, pop, zp, binD, eq_self, ne_eq, not_false_eq_true, true_and, Int.reduceEq, ite_true, ite_false, not_true_eq_false, Int.reduceToNat, Int.reduceLT, hS.len, strRows_len, h0, hw, hx, hia] <;> exact rfl) ?_
    refine ow_nil ?_
    refine sk_n (by simp only [exports, zn, zg] <;> exact rfl) ?_
    refine cw_cond (by simp only [opd, zv, hS.len, strRows_len, h0, hw, hx, hia] <;> exact rfl) (fun hcAT => ?_) (fun hcAT => ?_)
    · skip -- ATT
      refine cw_seq ?_
      refine cw_region ?_
      refine ow_op (by simp only [opd, zv, exOp, aop, LOp.loud, pop, zp, hS.len, strRows_len, h0, hw, hx, hia] <;> exact rfl) ?_
      refine ow_op (by simp only [opd, zv, exOp, aop, LOp.loud, pop, zp, hS.len, strRows_len, h0, hw, hx, hia] <;> exact rfl) ?_
      refine ow_nil ?_
      refine sk_n (by simp only [exports, zn, zg] <;> exact rfl) ?_
      refine cw_ret ?_
      refine bk_r ?_
      refine sk_r ?_
      refine lk_r ?_
      refine bk_r ?_
      refine sk_r ?_
      refine ⟨_, by simp only [F27, resultD, resDs, resD, List.getD_cons_zero, List.getD_cons_succ, loadD_cptr, loadD_ptr, rowsOf, partD, List.getElem?_cons_zero, List.getElem?_cons_succ, if_true, if_false, Bool.false_eq_true, List.take, List.drop, zm] <;> exact rfl, ?_⟩
      rw [idxI_at (p := fun x => s.toList == x.toList) hlt hcAT hany]; rfl
    · skip -- ATF
      refine cw_skip ?_
      refine bk_n ?_
      refine sk_n rfl ?_
      refine cw_region ?_
      refine ow_op (by simp only [opd, zv, exOp, aop, LOp.loud, pop, zp, binD, eq_self, ne_eq, not_false_eq_true, true_and, Int.reduceEq, ite_true, ite_false, not_true_eq_false, Int.reduceToNat, Int.reduceLT, hS.len, strRows_len, h0, hw, hx, hia] <;> exact rfl) ?_
      refine ow_op (by simp only [opd, zv, exOp, aop, LOp.loud, pop, zp, hS.len, strRows_len, h0, hw, hx, hia] <;> exact rfl) ?_
      refine ow_nil ?_
      refine lk_n (by simp only [exports, zn, zg] <;> exact rfl) ?_
      exact ⟨l.length - (i + 1), by omega, i + 1, _, _, _, by omega, rfl, any_take_succ hlt hany hcAT, rfl, rfl⟩
  · skip -- AF
    have hge : l.length ≤ i := by have := of_decide_eq_false hcA; omega
    refine cw_exit ?_
    refine sk_e ?_
    refine lk_e ?_
    refine bk_e ?_
    refine sk_n rfl ?_
    refine cw_seq ?_
    refine cw_region ?_
    refine ow_op (by simp only [opd, zv, exOp, aop, LOp.loud, pop, zp, hS.len, strRows_len, h0] <;> exact rfl) ?_
    refine ow_nil ?_
    refine sk_n (by simp only [exports, zn, zg] <;> exact rfl) ?_
    refine cw_ret ?_
    refine ⟨_, by simp only [F27, resultD, resDs, resD, List.getD_cons_zero, List.getD_cons_succ, loadD_cptr, loadD_ptr, rowsOf, partD, List.getElem?_cons_zero, List.getElem?_cons_succ, if_true, if_false, Bool.false_eq_true, List.take, List.drop, zm] <;> exact rfl, ?_⟩
    rw [List.take_of_length_le hge] at hany
    rw [idxI_none hany]; rfl

theorem contains_run {d : Nat} (hd : 2 ≤ d) (S : St) {x : D} {l : List ByteArray} (hS : SlD 1 (strRows l) x) (s : ByteArray) (hl : l.length ≤ 1000000) :
    runF LP NN d 19 [x, .str s] S = some (.bool (l.any fun x => s.toList == x.toList), S, false) := by
  refine run_pure (F := F19) rfl (by simp only [LP, fnOf, snapVs, snaps, zs, Bool.false_eq_true, if_false, Option.map_some, List.map_cons, List.map_nil, hS.snapV, hS.freeV] <;> exact rfl) rfl (by simp only [LP, zf, List.all_cons, List.all_nil, Bool.and_true, Bool.true_and, hS.snapV, hS.freeV]; try rfl) (by simp only [F19, zv] <;> exact rfl) (by omega) ?_
  rintro d rfl
  refine cw_seq ?_
  refine cw_region ?_
  refine ow_op (by simp only [opd, zv, exOp, aop, LOp.loud, pop, zp] <;> exact rfl) ?_
  refine ow_nil ?_
  refine sk_n (by simp only [exports, zn, zg] <;> exact rfl) ?_
  refine cw_seq ?_
  refine cw_region ?_
  refine ow_op (by simp only [opd, zv, exOp, aop, LOp.loud, pop, zp] <;> exact rfl) ?_
  refine ow_op (by simp only [opd, zv, exOp, aop, LOp.loud, pop, zp] <;> exact rfl) ?_
  refine ow_op (by simp only [exOp, opd, zv]; exact index_run (by omega) _ hS s hl) ?_
  refine ow_op (by simp only [opd, zv, exOp, aop, LOp.loud, pop, zp, binD, eq_self, ne_eq, not_false_eq_true, true_and, Int.reduceEq, ite_true, ite_false, not_true_eq_false, Int.reduceToNat, Int.reduceLT] <;> exact rfl) ?_
  refine ow_op (by simp only [opd, zv, exOp, aop, LOp.loud, pop, zp] <;> exact rfl) ?_
  refine ow_nil ?_
  refine sk_n (by simp only [exports, zn, zg] <;> exact rfl) ?_
  refine cw_ret ?_
  refine ⟨_, by simp only [F19, resultD, resDs, resD, List.getD_cons_zero, List.getD_cons_succ, loadD_cptr, loadD_ptr, rowsOf, partD, List.getElem?_cons_zero, List.getElem?_cons_succ, if_true, if_false, Bool.false_eq_true, List.take, List.drop, zm] <;> exact rfl, ?_⟩
  rw [idxI_nonneg]; rfl

theorem has_run {d : Nat} (hd : 1 ≤ d) (S : St) {x : D} {l : List ByteArray} (hS : SlD 1 (strRows l) x) (s : ByteArray) (hl : l.length ≤ 1000000) :
    runF LP NN d 12 [x, .str s] S = some (.bool (l.any fun x => x.toList == s.toList), S, false) := by
  refine run_pure (F := F12) rfl (by simp only [LP, fnOf, snapVs, snaps, zs, Bool.false_eq_true, if_false, Option.map_some, List.map_cons, List.map_nil, hS.snapV, hS.freeV] <;> exact rfl) rfl (by simp only [LP, zf, List.all_cons, List.all_nil, Bool.and_true, Bool.true_and, hS.snapV, hS.freeV]; try rfl) (by simp only [F12, zv] <;> exact rfl) (by omega) ?_
  rintro d rfl
  refine cw_seq ?_
  refine cw_region ?_
  refine ow_op (by simp only [opd, zv, exOp, aop, LOp.loud, pop, zp, hS.len, strRows_len] <;> exact rfl) ?_
  refine ow_nil ?_
  refine sk_n (by simp only [exports, zn, zg] <;> exact rfl) ?_
  refine cw_seq ?_
  refine cw_seq ?_
  refine cw_region ?_
  refine ow_op (by simp only [opd, zv, exOp, aop, LOp.loud, pop, zp, hS.len, strRows_len] <;> exact rfl) ?_
  refine ow_nil ?_
  refine sk_n (by simp only [exports, zn, zg] <;> exact rfl) ?_
  refine cw_block ?_
  refine cw_loop (fun n env S' => ∃ (i : Nat) (u4 u5 : D), i ≤ l.length ∧ n = l.length - i ∧ ((l.take i).any fun x => x.toList == s.toList) = false ∧ S' = ⟨[], 0⟩ ∧ env = [x, .str s, .bool false, .int .i64 i, u4, u5]) (l.length) (by omega) (⟨0, _, _, by omega, by omega, by simp, rfl, rfl⟩) ?_
  rintro n env S' ⟨i, u4, u5, hi, rfl, hany, rfl, rfl⟩
  have h0 : (0 : Int) ≤ (i : Int) := by omega
  refine cw_seq ?_
  refine cw_seq ?_
  refine cw_region ?_
  refine ow_op (by simp only [opd, zv, exOp, aop, LOp.loud, pop, zp, hS.len, strRows_len, h0] <;> exact rfl) ?_
  refine ow_op (by simp only [opd, zv, exOp, aop, LOp.loud, pop, zp, hS.len, strRows_len, h0] <;> exact rfl) ?_
  refine ow_op (by simp only [opd, zv, exOp, aop, LOp.loud, pop, zp, lenD_str, lenD_nils, lenD_sl, lenD_msl, hS.len, strRows_len, h0] <;> exact rfl) ?_
  refine ow_op (by simp only [opd, zv, exOp, aop, LOp.loud, pop, zp, binD, eq_self, ne_eq, not_false_eq_true, true_and, Int.reduceEq, ite_true, ite_false, not_true_eq_false, Int.reduceToNat, Int.reduceLT, hS.len, strRows_len, h0] <;> exact rfl) ?_
  refine ow_nil ?_
  refine sk_n (by simp only [exports, zn, zg] <;> exact rfl) ?_
  refine cw_cond (by simp only [opd, zv, hS.len, strRows_len, h0] <;> exact rfl) (fun hcA => ?_) (fun hcA => ?_)
  · skip -- AT
    have hlt : i < l.length := by have := of_decide_eq_true hcA; omega
    have hw := wrap_nat i (by omega)
    have hx := List.getElem?_eq_getElem hlt
    have hia := fun (S : St) => hS.iaddrN S .i64 (strRows_at hlt)
    refine cw_skip ?_
    refine sk_n rfl ?_
    refine cw_seq ?_
    refine cw_block ?_
    refine cw_seq ?_
    refine cw_region ?_
    refine ow_op (by simp only [opd, zv, exOp, aop, LOp.loud, pop, zp, hS.len, strRows_len, h0, hw, hx, hia] <;> exact rfl) ?_
    refine ow_op (by simp only [opd, zv, exOp, aop, LOp.loud, pop, zp, hS.len, strRows_len, h0, hw, hx, hia] <;> exact rfl) ?_
    refine ow_op (by simp only [opd, zv, exOp, aop, LOp.loud, lop, rowsOf, newAt, setAt, zh, zm, iaddrD_sl, iaddrD_msl, Int.toNat_natCast, Int.toNat_zero, List.getElem?_map, Option.map_some, Int.le_refl, hS.len, strRows_len, h0, hw, hx, hia] <;> exact rfl) ?_
    refine ow_op (by simp only [opd, zv, exOp, aop, LOp.loud, lop, rowsOf, newAt, setAt, zh, zm, loadD_cptr, loadD_ptr, partD, List.take, List.drop, hS.len, strRows_len, h0, hw, hx, hia] <;> exact rfl) ?_
    refine ow_op (by simp only [opd, zv, exOp, aop, LOp.loud, pop, zp, hS.len, strRows_len, h0, hw, hx, hia] <;> exact rfl) ?_
    refine ow_op (by simp only [opd, zv, exOp, aop, LOp.loud, pop, zp, binD, eq_self, ne_eq, not_false_eq_true, true_and, Int.reduceEq, ite_true, ite_false, not_true_eq_false, Int.reduceToNat, Int.reduceLT, hS.len, strRows_len, h0, hw, hx, hia] <;> exact rfl) ?_
    refine ow_nil ?_
    refine sk_n (by simp only [exports, zn, zg] <;> exact rfl) ?_
    refine cw_cond (by simp only [opd, zv, hS.len, strRows_len, h0, hw, hx, hia] <;> exact rfl) (fun hcAT => ?_) (fun hcAT => ?_)
    · skip -- ATT
      refine cw_seq ?_
      refine cw_region ?_
      refine ow_op (by simp only [opd, zv, exOp, aop, LOp.loud, pop, zp, hS.len, strRows_len, h0, hw, hx, hia] <;> exact rfl) ?_
      refine ow_nil ?_
      refine sk_n (by simp only [exports, zn, zg] <;> exact rfl) ?_
      refine cw_ret ?_
      refine bk_r ?_
      refine sk_r ?_
      refine lk_r ?_
      refine bk_r ?_
      refine sk_r ?_
      refine ⟨_, by simp only [F12, resultD, resDs, resD, List.getD_cons_zero, List.getD_cons_succ, loadD_cptr, loadD_ptr, rowsOf, partD, List.getElem?_cons_zero, List.getElem?_cons_succ, if_true, if_false, Bool.false_eq_true, List.take, List.drop, zm] <;> exact rfl, ?_⟩
      rw [show (l.any fun x => x.toList == s.toList) = true from List.any_eq_true.2 ⟨_, List.getElem_mem hlt, hcAT⟩]; rfl
    · skip -- ATF
      refine cw_skip ?_
      refine bk_n ?_
      refine sk_n rfl ?_
      refine cw_region ?_
      refine ow_op (by simp only [opd, zv, exOp, aop, LOp.loud, pop, zp, hS.len, strRows_len, h0, hw, hx, hia] <;> exact rfl) ?_
      refine ow_op (by simp only [opd, zv, exOp, aop, LOp.loud, pop, zp, binD, eq_self, ne_eq, not_false_eq_true, true_and, Int.reduceEq, ite_true, ite_false, not_true_eq_false, Int.reduceToNat, Int.reduceLT, hS.len, strRows_len, h0, hw, hx, hia] <;> exact rfl) ?_
      refine ow_op (by simp only [opd, zv, exOp, aop, LOp.loud, pop, zp, hS.len, strRows_len, h0, hw, hx, hia] <;> exact rfl) ?_
      refine ow_nil ?_
      refine lk_n (by simp only [exports, zn, zg] <;> exact rfl) ?_
      exact ⟨l.length - (i + 1), by omega, i + 1, _, _, by omega, rfl, any_take_succ hlt hany hcAT, rfl, rfl⟩
  · skip -- AF
    have hge : l.length ≤ i := by have := of_decide_eq_false hcA; omega
    refine cw_exit ?_
    refine sk_e ?_
    refine lk_e ?_
    refine bk_e ?_
    refine sk_n rfl ?_
    refine cw_seq ?_
    refine cw_region ?_
    refine ow_op (by simp only [opd, zv, exOp, aop, LOp.loud, pop, zp, hS.len, strRows_len, h0] <;> exact rfl) ?_
    refine ow_nil ?_
    refine sk_n (by simp only [exports, zn, zg] <;> exact rfl) ?_
    refine cw_ret ?_
    refine ⟨_, by simp only [F12, resultD, resDs, resD, List.getD_cons_zero, List.getD_cons_succ, loadD_cptr, loadD_ptr, rowsOf, partD, List.getElem?_cons_zero, List.getElem?_cons_succ, if_true, if_false, Bool.false_eq_true, List.take, List.drop, zm] <;> exact rfl, ?_⟩
    rw [List.take_of_length_le hge] at hany
    rw [hany]; rfl

def namesF (f : Nat) : List ByteArray := (List.range 4).filterMap fun i => if f / 2 ^ i % 2 = 1 then some ⟨#[70, (48 + i).toUInt8]⟩ else none
theorem names_tab (d : Nat) (S : St) (m w : Int) : (List.range 256).map (fun f => runF LP NN (d + 1) 9 [.agg [.int .u8 ((f : Nat) : Int), .int .u8 m, .int .u8 w]] S) = (List.range 256).map (fun f => some (strsD (namesF f), S, false)) := by kernel_rfl
theorem names_run {d : Nat} (hd : 1 ≤ d) (S : St) (f : Nat) (m w : Int) (hf : f < 256) : runF LP NN d 9 [.agg [.int .u8 f, .int .u8 m, .int .u8 w]] S = some (strsD (namesF f), S, false) := by
  obtain ⟨d, rfl⟩ : ∃ d', d = d' + 1 := ⟨d - 1, by omega⟩
  exact tab_at (names_tab d S m w) f hf
theorem names_few (f : Nat) : (namesF f).length ≤ 4 := by
  refine Nat.le_trans (List.length_filterMap_le _ _) (by simp)
def secF (i : Nat) : ByteArray := ⟨#[85, (48 + i).toUInt8]⟩
theorem section_tab (d : Nat) (S : St) : (List.range 6).map (fun i => runF LP NN (d + 1) 10 [.int .i64 ((i : Nat) : Int)] S) = (List.range 6).map (fun i => some (.str (secF i), S, false)) := by kernel_rfl
theorem section_run {d : Nat} (hd : 1 ≤ d) (S : St) (i : Nat) (hi : i < 6) : runF LP NN d 10 [.int .i64 i] S = some (.str (secF i), S, false) := by
  obtain ⟨d, rfl⟩ : ∃ d', d = d' + 1 := ⟨d - 1, by omega⟩
  exact tab_at (section_tab d S) i hi
/-- the mode of a section -/
def modeF (f m : Nat) : Nat := if (namesF f).length > 0 then 0 else 1 + m % 4
theorem u8_mode (m : Nat) : IntKind.u8.wrap (1 + ((m : Nat) : Int).tmod 4) = ((1 + m % 4 : Nat) : Int) := by
  rw [Int.tmod_eq_emod_of_nonneg (by omega)]
  simp only [IntKind.wrap, IntKind.signed, IntKind.bits]
  simp only [Bool.false_and, Bool.false_eq_true, if_false]
  omega

theorem mode_run {d : Nat} (hd : 2 ≤ d) (S : St) (f m : Nat) (w : Int) (hf : f < 256) :
    runF LP NN d 11 [.agg [.int .u8 f, .int .u8 m, .int .u8 w]] S = some (.int .u8 (modeF f m), S, false) := by
  refine run_pure (F := F11) rfl (by simp only [LP, fnOf, snapVs, snaps, zs, Bool.false_eq_true, if_false, Option.map_some, List.map_cons, List.map_nil] <;> exact rfl) rfl (by simp only [LP, zf, List.all_cons, List.all_nil, Bool.and_true, Bool.true_and]; try rfl) (by simp only [F11, zv] <;> exact rfl) (by omega) ?_
  rintro d rfl
  refine cw_seq ?_
  refine cw_region ?_
  refine ow_op (by simp only [opd, zv, exOp, aop, LOp.loud, lop, rowsOf, newAt, setAt, zh, zm, zc, (strsD_S (namesF f)).len, strRows_len, u8_mode] <;> exact rfl) ?_
  refine ow_op (by simp only [opd, zv, exOp, aop, LOp.loud, pop, zp, (strsD_S (namesF f)).len, strRows_len, u8_mode] <;> exact rfl) ?_
  refine ow_nil ?_
  refine sk_n (by simp only [exports, zn, zg] <;> exact rfl) ?_
  refine cw_seq ?_
  refine cw_seq ?_
  refine cw_region ?_
  refine ow_op (by simp only [opd, zv, exOp, aop, LOp.loud, lop, rowsOf, newAt, setAt, zh, zm, loadD_cptr, loadD_ptr, partD, List.take, List.drop, (strsD_S (namesF f)).len, strRows_len, u8_mode] <;> exact rfl) ?_
  refine ow_op (by simp only [exOp, opd, zv, (strsD_S (namesF f)).len, strRows_len, u8_mode]; exact names_run (by omega) _ f m w hf) ?_
  refine ow_op (by simp only [opd, zv, exOp, aop, LOp.loud, pop, zp, lenD_str, lenD_nils, lenD_sl, lenD_msl, (strsD_S (namesF f)).len, strRows_len, u8_mode] <;> exact rfl) ?_
  refine ow_op (by simp only [opd, zv, exOp, aop, LOp.loud, pop, zp, binD, eq_self, ne_eq, not_false_eq_true, true_and, Int.reduceEq, ite_true, ite_false, not_true_eq_false, Int.reduceToNat, Int.reduceLT, (strsD_S (namesF f)).len, strRows_len, u8_mode] <;> exact rfl) ?_
  refine ow_nil ?_
  refine sk_n (by simp only [exports, zn, zg] <;> exact rfl) ?_
  refine cw_cond (by simp only [opd, zv, (strsD_S (namesF f)).len, strRows_len, u8_mode] <;> exact rfl) (fun hc => ?_) (fun hc => ?_)
  · skip -- T
    refine cw_seq ?_
    refine cw_region ?_
    refine ow_op (by simp only [opd, zv, exOp, aop, LOp.loud, pop, zp, (strsD_S (namesF f)).len, strRows_len, u8_mode] <;> exact rfl) ?_
    refine ow_nil ?_
    refine sk_n (by simp only [exports, zn, zg] <;> exact rfl) ?_
    refine cw_ret ?_
    refine sk_r ?_
    refine ⟨_, by simp only [F11, resultD, resDs, resD, List.getD_cons_zero, List.getD_cons_succ, loadD_cptr, loadD_ptr, rowsOf, partD, List.getElem?_cons_zero, List.getElem?_cons_succ, if_true, if_false, Bool.false_eq_true, List.take, List.drop, zm] <;> exact rfl, ?_⟩
    have h : (namesF f).length > 0 := by have := of_decide_eq_true hc; omega
    rw [modeF, if_pos h]; rfl
  · skip -- F
    refine cw_skip ?_
    refine sk_n rfl ?_
    refine cw_seq ?_
    refine cw_region ?_
    refine ow_op (by simp only [opd, zv, exOp, aop, LOp.loud, pop, zp, faddrD_ptr, faddrD_cptr, zm, (strsD_S (namesF f)).len, strRows_len, u8_mode] <;> exact rfl) ?_
    refine ow_op (by simp only [opd, zv, exOp, aop, LOp.loud, lop, rowsOf, newAt, setAt, zh, zm, loadD_cptr, loadD_ptr, partD, List.take, List.drop, (strsD_S (namesF f)).len, strRows_len, u8_mode] <;> exact rfl) ?_
    refine ow_op (by simp only [opd, zv, exOp, aop, LOp.loud, pop, zp, binD, eq_self, ne_eq, not_false_eq_true, true_and, Int.reduceEq, ite_true, ite_false, not_true_eq_false, Int.reduceToNat, Int.reduceLT, (strsD_S (namesF f)).len, strRows_len, u8_mode] <;> exact rfl) ?_
    refine ow_op (by simp only [opd, zv, exOp, aop, LOp.loud, pop, zp, binD, eq_self, ne_eq, not_false_eq_true, true_and, Int.reduceEq, ite_true, ite_false, not_true_eq_false, Int.reduceToNat, Int.reduceLT, (strsD_S (namesF f)).len, strRows_len, u8_mode] <;> exact rfl) ?_
    refine ow_op (by simp only [opd, zv, exOp, aop, LOp.loud, pop, zp, (strsD_S (namesF f)).len, strRows_len, u8_mode] <;> exact rfl) ?_
    refine ow_nil ?_
    refine sk_n (by simp only [exports, zn, zg] <;> exact rfl) ?_
    refine cw_ret ?_
    refine ⟨_, by simp only [F11, resultD, resDs, resD, List.getD_cons_zero, List.getD_cons_succ, loadD_cptr, loadD_ptr, rowsOf, partD, List.getElem?_cons_zero, List.getElem?_cons_succ, if_true, if_false, Bool.false_eq_true, List.take, List.drop, zm] <;> exact rfl, ?_⟩
    have h : ¬ (namesF f).length > 0 := by have := of_decide_eq_false hc; omega
    rw [modeF, if_neg h]; rfl

/-- a rule in the machine -/
structure Ru where
  sec : ByteArray
  names : List ByteArray
  fd : D
  mode : Nat
  hfd : SlD 1 (strRows names) fd
  few : names.length ≤ 1000000
def Ru.row (r : Ru) : List D := [.str r.sec, r.fd, .int .u8 r.mode]
def ruRows (l : List Ru) : List (List D) := l.map Ru.row
theorem ruRows_at {l : List Ru} {i : Nat} (h : i < l.length) : (ruRows l)[i]? = some [.str l[i].sec, l[i].fd, .int .u8 l[i].mode] := by simp [ruRows, h, Ru.row]
theorem ruRows_len (l : List Ru) : (ruRows l).length = l.length := by simp [ruRows]

theorem sel1_run {d : Nat} (hd : 3 ≤ d) (S : St) (r : Ru) (s : ByteArray) (g : Nat) (e : TypeId) (hcap : S.heap[g]? = some ⟨e, 1, [[.str s]], 0, 0, false⟩) (hlt : g < S.heap.length) :
    runF LP NN d 18 [.agg [.str r.sec, r.fd, .int .u8 r.mode], .ptr g 0 0 0] S = some (.bool (r.names.any fun x => s.toList == x.toList), S, false) := by
  refine run_at (F := F18) rfl (by simp only [LP, fnOf, snapVs, snaps, zs, Bool.false_eq_true, if_false, Option.map_some, List.map_cons, List.map_nil, r.hfd.snap, r.hfd.freeV, r.hfd.free] <;> exact rfl) rfl (by simp only [LP, zf, List.all_cons, List.all_nil, Bool.and_true, Bool.true_and, r.hfd.snap, r.hfd.freeV, r.hfd.free]; try rfl) (by simp only [F18, zv] <;> exact rfl) (by omega) ?_
  rintro d rfl
  refine cw_seq ?_
  refine cw_region ?_
  refine ow_op (by simp only [opd, zv, exOp, aop, LOp.loud, lop, rowsOf, newAt, setAt, zh, zm, zc, r.hfd.isCell, r.hfd.val, r.hfd.cells, hcap, List.getElem?_append_left hlt] <;> exact rfl) ?_
  refine ow_op (by simp only [opd, zv, exOp, aop, LOp.loud, pop, zp, r.hfd.isCell, r.hfd.val, r.hfd.cells, hcap, List.getElem?_append_left hlt] <;> exact rfl) ?_
  refine ow_nil ?_
  refine sk_n (by simp only [exports, zn, zg] <;> exact rfl) ?_
  refine cw_seq ?_
  refine cw_region ?_
  refine ow_op (by simp only [opd, zv, exOp, aop, LOp.loud, pop, zp, faddrD_ptr, faddrD_cptr, zm, r.hfd.isCell, r.hfd.val, r.hfd.cells, hcap, List.getElem?_append_left hlt] <;> exact rfl) ?_
  refine ow_op (by simp only [opd, zv, exOp, aop, LOp.loud, lop, rowsOf, newAt, setAt, zh, zm, loadD_cptr, loadD_ptr, partD, List.take, List.drop, r.hfd.isCell, r.hfd.val, r.hfd.cells, hcap, List.getElem?_append_left hlt] <;> exact rfl) ?_
  refine ow_op (by simp only [opd, zv, exOp, aop, LOp.loud, lop, rowsOf, newAt, setAt, zh, zm, loadD_cptr, loadD_ptr, partD, List.take, List.drop, r.hfd.isCell, r.hfd.val, r.hfd.cells, hcap, List.getElem?_append_left hlt] <;> exact rfl) ?_
  refine ow_op (by simp only [exOp, opd, zv, r.hfd.isCell, r.hfd.val, r.hfd.cells, hcap, List.getElem?_append_left hlt]; exact contains_run (by omega) _ r.hfd s r.few) ?_
  refine ow_op (by simp only [opd, zv, exOp, aop, LOp.loud, pop, zp, r.hfd.isCell, r.hfd.val, r.hfd.cells, hcap, List.getElem?_append_left hlt] <;> exact rfl) ?_
  refine ow_nil ?_
  refine sk_n (by simp only [exports, zn, zg] <;> exact rfl) ?_
  refine cw_ret ?_
  refine ⟨_, by simp only [F18, resultD, resDs, resD, List.getD_cons_zero, List.getD_cons_succ, loadD_cptr, loadD_ptr, rowsOf, partD, List.getElem?_cons_zero, List.getElem?_cons_succ, if_true, if_false, Bool.false_eq_true, List.take, List.drop, zm] <;> exact rfl, ?_⟩
  simp [leave, LP, snapR, snapV, snap, D.freeR, D.freeV, D.free]

theorem fil2_run {d : Nat} (hd : 3 ≤ d) (S : St) (r : Ru) (s : ByteArray) (g : Nat) (e : TypeId) (hcap : S.heap[g]? = some ⟨e, 1, [[.str s]], 0, 0, false⟩) (hlt : g < S.heap.length) :
    runF LP NN d 31 [.agg [.str r.sec, r.fd, .int .u8 r.mode], .ptr g 0 0 0] S = some (.bool (r.names.any fun x => s.toList == x.toList), S, false) := by
  refine run_at (F := F31) rfl (by simp only [LP, fnOf, snapVs, snaps, zs, Bool.false_eq_true, if_false, Option.map_some, List.map_cons, List.map_nil, r.hfd.snap, r.hfd.freeV, r.hfd.free] <;> exact rfl) rfl (by simp only [LP, zf, List.all_cons, List.all_nil, Bool.and_true, Bool.true_and, r.hfd.snap, r.hfd.freeV, r.hfd.free]; try rfl) (by simp only [F31, zv] <;> exact rfl) (by omega) ?_
  rintro d rfl
  refine cw_seq ?_
  refine cw_region ?_
  refine ow_op (by simp only [opd, zv, exOp, aop, LOp.loud, lop, rowsOf, newAt, setAt, zh, zm, zc, r.hfd.isCell, r.hfd.val, r.hfd.cells, hcap, List.getElem?_append_left hlt] <;> exact rfl) ?_
  refine ow_op (by simp only [opd, zv, exOp, aop, LOp.loud, pop, zp, r.hfd.isCell, r.hfd.val, r.hfd.cells, hcap, List.getElem?_append_left hlt] <;> exact rfl) ?_
  refine ow_nil ?_
  refine sk_n (by simp only [exports, zn, zg] <;> exact rfl) ?_
  refine cw_seq ?_
  refine cw_region ?_
  refine ow_op (by simp only [opd, zv, exOp, aop, LOp.loud, pop, zp, faddrD_ptr, faddrD_cptr, zm, r.hfd.isCell, r.hfd.val, r.hfd.cells, hcap, List.getElem?_append_left hlt] <;> exact rfl) ?_
  refine ow_op (by simp only [opd, zv, exOp, aop, LOp.loud, lop, rowsOf, newAt, setAt, zh, zm, loadD_cptr, loadD_ptr, partD, List.take, List.drop, r.hfd.isCell, r.hfd.val, r.hfd.cells, hcap, List.getElem?_append_left hlt] <;> exact rfl) ?_
  refine ow_op (by simp only [opd, zv, exOp, aop, LOp.loud, lop, rowsOf, newAt, setAt, zh, zm, loadD_cptr, loadD_ptr, partD, List.take, List.drop, r.hfd.isCell, r.hfd.val, r.hfd.cells, hcap, List.getElem?_append_left hlt] <;> exact rfl) ?_
  refine ow_op (by simp only [exOp, opd, zv, r.hfd.isCell, r.hfd.val, r.hfd.cells, hcap, List.getElem?_append_left hlt]; exact contains_run (by omega) _ r.hfd s r.few) ?_
  refine ow_op (by simp only [opd, zv, exOp, aop, LOp.loud, pop, zp, r.hfd.isCell, r.hfd.val, r.hfd.cells, hcap, List.getElem?_append_left hlt] <;> exact rfl) ?_
  refine ow_nil ?_
  refine sk_n (by simp only [exports, zn, zg] <;> exact rfl) ?_
  refine cw_ret ?_
  refine ⟨_, by simp only [F31, resultD, resDs, resD, List.getD_cons_zero, List.getD_cons_succ, loadD_cptr, loadD_ptr, rowsOf, partD, List.getElem?_cons_zero, List.getElem?_cons_succ, if_true, if_false, Bool.false_eq_true, List.take, List.drop, zm] <;> exact rfl, ?_⟩
  simp [leave, LP, snapR, snapV, snap, D.freeR, D.freeV, D.free]

theorem rul1_run {d : Nat} (hd : 1 ≤ d) (S : St) (r : Ru) (m : Nat) (g : Nat) (e : TypeId) (hcap : S.heap[g]? = some ⟨e, 1, [[.int .u8 m]], 0, 0, false⟩) (hlt : g < S.heap.length) :
    runF LP NN d 25 [.agg [.str r.sec, r.fd, .int .u8 r.mode], .ptr g 0 0 0] S = some (.bool ((r.mode : Int) == (m : Int)), S, false) := by
  refine run_at (F := F25) rfl (by simp only [LP, fnOf, snapVs, snaps, zs, Bool.false_eq_true, if_false, Option.map_some, List.map_cons, List.map_nil, r.hfd.snap, r.hfd.freeV, r.hfd.free] <;> exact rfl) rfl (by simp only [LP, zf, List.all_cons, List.all_nil, Bool.and_true, Bool.true_and, r.hfd.snap, r.hfd.freeV, r.hfd.free]; try rfl) (by simp only [F25, zv] <;> exact rfl) (by omega) ?_
  rintro d rfl
  refine cw_seq ?_
  refine cw_region ?_
  refine ow_op (by simp only [opd, zv, exOp, aop, LOp.loud, lop, rowsOf, newAt, setAt, zh, zm, zc, r.hfd.isCell, r.hfd.val, r.hfd.cells, hcap, List.getElem?_append_left hlt] <;> exact rfl) ?_
  refine ow_op (by simp only [opd, zv, exOp, aop, LOp.loud, pop, zp, r.hfd.isCell, r.hfd.val, r.hfd.cells, hcap, List.getElem?_append_left hlt] <;> exact rfl) ?_
  refine ow_nil ?_
  refine sk_n (by simp only [exports, zn, zg] <;> exact rfl) ?_
  refine cw_seq ?_
  refine cw_region ?_
  refine ow_op (by simp only [opd, zv, exOp, aop, LOp.loud, pop, zp, faddrD_ptr, faddrD_cptr, zm, r.hfd.isCell, r.hfd.val, r.hfd.cells, hcap, List.getElem?_append_left hlt] <;> exact rfl) ?_
  refine ow_op (by simp only [opd, zv, exOp, aop, LOp.loud, lop, rowsOf, newAt, setAt, zh, zm, loadD_cptr, loadD_ptr, partD, List.take, List.drop, r.hfd.isCell, r.hfd.val, r.hfd.cells, hcap, List.getElem?_append_left hlt] <;> exact rfl) ?_
  refine ow_op (by simp only [opd, zv, exOp, aop, LOp.loud, lop, rowsOf, newAt, setAt, zh, zm, loadD_cptr, loadD_ptr, partD, List.take, List.drop, r.hfd.isCell, r.hfd.val, r.hfd.cells, hcap, List.getElem?_append_left hlt] <;> exact rfl) ?_
  refine ow_op (by simp only [opd, zv, exOp, aop, LOp.loud, pop, zp, binD, eq_self, ne_eq, not_false_eq_true, true_and, Int.reduceEq, ite_true, ite_false, not_true_eq_false, Int.reduceToNat, Int.reduceLT, r.hfd.isCell, r.hfd.val, r.hfd.cells, hcap, List.getElem?_append_left hlt] <;> exact rfl) ?_
  refine ow_op (by simp only [opd, zv, exOp, aop, LOp.loud, pop, zp, r.hfd.isCell, r.hfd.val, r.hfd.cells, hcap, List.getElem?_append_left hlt] <;> exact rfl) ?_
  refine ow_nil ?_
  refine sk_n (by simp only [exports, zn, zg] <;> exact rfl) ?_
  refine cw_ret ?_
  refine ⟨_, by simp only [F25, resultD, resDs, resD, List.getD_cons_zero, List.getD_cons_succ, loadD_cptr, loadD_ptr, rowsOf, partD, List.getElem?_cons_zero, List.getElem?_cons_succ, if_true, if_false, Bool.false_eq_true, List.take, List.drop, zm] <;> exact rfl, ?_⟩
  simp [leave, LP, snapR, snapV, snap, D.freeR, D.freeV, D.free]

theorem sel2_run {d : Nat} (hd : 1 ≤ d) (S : St) (r : Ru) (m : Nat) (g : Nat) (e : TypeId) (hcap : S.heap[g]? = some ⟨e, 1, [[.int .u8 m]], 0, 0, false⟩) (hlt : g < S.heap.length) :
    runF LP NN d 20 [.agg [.str r.sec, r.fd, .int .u8 r.mode], .ptr g 0 0 0] S = some (.bool (((r.names.length : Int) == 0) && ((r.mode : Int) == (m : Int))), S, false) := by
  refine run_at (F := F20) rfl (by simp only [LP, fnOf, snapVs, snaps, zs, Bool.false_eq_true, if_false, Option.map_some, List.map_cons, List.map_nil, r.hfd.snap, r.hfd.freeV, r.hfd.free] <;> exact rfl) rfl (by simp only [LP, zf, List.all_cons, List.all_nil, Bool.and_true, Bool.true_and, r.hfd.snap, r.hfd.freeV, r.hfd.free]; try rfl) (by simp only [F20, zv] <;> exact rfl) (by omega) ?_
  rintro d rfl
  refine cw_seq ?_
  refine cw_region ?_
  refine ow_op (by simp only [opd, zv, exOp, aop, LOp.loud, lop, rowsOf, newAt, setAt, zh, zm, zc, r.hfd.isCell, r.hfd.val, r.hfd.cells, r.hfd.len, strRows_len, hcap, List.getElem?_append_left hlt] <;> exact rfl) ?_
  refine ow_op (by simp only [opd, zv, exOp, aop, LOp.loud, pop, zp, r.hfd.isCell, r.hfd.val, r.hfd.cells, r.hfd.len, strRows_len, hcap, List.getElem?_append_left hlt] <;> exact rfl) ?_
  refine ow_nil ?_
  refine sk_n (by simp only [exports, zn, zg] <;> exact rfl) ?_
  refine cw_seq ?_
  refine cw_region ?_
  refine ow_op (by simp only [opd, zv, exOp, aop, LOp.loud, pop, zp, faddrD_ptr, faddrD_cptr, zm, r.hfd.isCell, r.hfd.val, r.hfd.cells, r.hfd.len, strRows_len, hcap, List.getElem?_append_left hlt] <;> exact rfl) ?_
  refine ow_op (by simp only [opd, zv, exOp, aop, LOp.loud, lop, rowsOf, newAt, setAt, zh, zm, loadD_cptr, loadD_ptr, partD, List.take, List.drop, r.hfd.isCell, r.hfd.val, r.hfd.cells, r.hfd.len, strRows_len, hcap, List.getElem?_append_left hlt] <;> exact rfl) ?_
  refine ow_op (by simp only [opd, zv, exOp, aop, LOp.loud, pop, zp, lenD_str, lenD_nils, lenD_sl, lenD_msl, r.hfd.isCell, r.hfd.val, r.hfd.cells, r.hfd.len, strRows_len, hcap, List.getElem?_append_left hlt] <;> exact rfl) ?_
  refine ow_op (by simp only [opd, zv, exOp, aop, LOp.loud, pop, zp, binD, eq_self, ne_eq, not_false_eq_true, true_and, Int.reduceEq, ite_true, ite_false, not_true_eq_false, Int.reduceToNat, Int.reduceLT, r.hfd.isCell, r.hfd.val, r.hfd.cells, r.hfd.len, strRows_len, hcap, List.getElem?_append_left hlt] <;> exact rfl) ?_
  refine ow_op (by simp only [opd, zv, exOp, aop, LOp.loud, pop, zp, r.hfd.isCell, r.hfd.val, r.hfd.cells, r.hfd.len, strRows_len, hcap, List.getElem?_append_left hlt] <;> exact rfl) ?_
  refine ow_split 0 (by simp only [opd, zv] <;> exact rfl) (by simp only [zn] <;> exact rfl) (by simp only [zn] <;> exact rfl) (fun hg => ?_) (fun hg => ?_)
  · skip -- T
    refine ow_on (by simp only [opd, zv]) ?_
    refine ow_op (by simp only [opd, zv, exOp, aop, LOp.loud, pop, zp, faddrD_ptr, faddrD_cptr, zm, r.hfd.isCell, r.hfd.val, r.hfd.cells, r.hfd.len, strRows_len, hcap, List.getElem?_append_left hlt] <;> exact rfl) ?_
    refine ow_on (by simp only [opd, zv]) ?_
    refine ow_op (by simp only [opd, zv, exOp, aop, LOp.loud, lop, rowsOf, newAt, setAt, zh, zm, loadD_cptr, loadD_ptr, partD, List.take, List.drop, r.hfd.isCell, r.hfd.val, r.hfd.cells, r.hfd.len, strRows_len, hcap, List.getElem?_append_left hlt] <;> exact rfl) ?_
    refine ow_on (by simp only [opd, zv]) ?_
    refine ow_op (by simp only [opd, zv, exOp, aop, LOp.loud, lop, rowsOf, newAt, setAt, zh, zm, loadD_cptr, loadD_ptr, partD, List.take, List.drop, r.hfd.isCell, r.hfd.val, r.hfd.cells, r.hfd.len, strRows_len, hcap, List.getElem?_append_left hlt] <;> exact rfl) ?_
    refine ow_on (by simp only [opd, zv]) ?_
    refine ow_op (by simp only [opd, zv, exOp, aop, LOp.loud, pop, zp, binD, eq_self, ne_eq, not_false_eq_true, true_and, Int.reduceEq, ite_true, ite_false, not_true_eq_false, Int.reduceToNat, Int.reduceLT, r.hfd.isCell, r.hfd.val, r.hfd.cells, r.hfd.len, strRows_len, hcap, List.getElem?_append_left hlt] <;> exact rfl) ?_
    refine ow_op (by simp only [opd, zv, exOp, aop, LOp.loud, pop, zp, r.hfd.isCell, r.hfd.val, r.hfd.cells, r.hfd.len, strRows_len, hcap, List.getElem?_append_left hlt] <;> exact rfl) ?_
    refine ow_op (by simp only [opd, zv, exOp, aop, LOp.loud, pop, zp, r.hfd.isCell, r.hfd.val, r.hfd.cells, r.hfd.len, strRows_len, hcap, List.getElem?_append_left hlt] <;> exact rfl) ?_
    refine ow_nil ?_
    refine sk_n (by simp only [exports, zn, zg] <;> exact rfl) ?_
    refine cw_ret ?_
    refine ⟨_, by simp only [F20, resultD, resDs, resD, List.getD_cons_zero, List.getD_cons_succ, loadD_cptr, loadD_ptr, rowsOf, partD, List.getElem?_cons_zero, List.getElem?_cons_succ, if_true, if_false, Bool.false_eq_true, List.take, List.drop, zm] <;> exact rfl, ?_⟩
    rw [hg]
    simp [leave, LP, snapR, snapV, snap, D.freeR, D.freeV, D.free]
  · skip -- F
    refine ow_off (b' := false) (by simp only [opd, zv]) rfl ?_
    refine ow_off (b' := false) (by simp only [opd, zv]) rfl ?_
    refine ow_off (b' := false) (by simp only [opd, zv]) rfl ?_
    refine ow_off (b' := false) (by simp only [opd, zv]) rfl ?_
    refine ow_op (by simp only [opd, zv, exOp, aop, LOp.loud, pop, zp, r.hfd.isCell, r.hfd.val, r.hfd.cells, r.hfd.len, strRows_len, hcap, List.getElem?_append_left hlt] <;> exact rfl) ?_
    refine ow_op (by simp only [opd, zv, exOp, aop, LOp.loud, pop, zp, r.hfd.isCell, r.hfd.val, r.hfd.cells, r.hfd.len, strRows_len, hcap, List.getElem?_append_left hlt] <;> exact rfl) ?_
    refine ow_nil ?_
    refine sk_n (by simp only [exports, zn, zg] <;> exact rfl) ?_
    refine cw_ret ?_
    refine ⟨_, by simp only [F20, resultD, resDs, resD, List.getD_cons_zero, List.getD_cons_succ, loadD_cptr, loadD_ptr, rowsOf, partD, List.getElem?_cons_zero, List.getElem?_cons_succ, if_true, if_false, Bool.false_eq_true, List.take, List.drop, zm] <;> exact rfl, ?_⟩
    rw [hg]
    simp [leave, LP, snapR, snapV, snap, D.freeR, D.freeV, D.free]

theorem indexFunc_run {d : Nat} (hd : 1 ≤ d) (S : St) {x : D} {l : List Ru} (hS : SlD 3 (ruRows l) x) (hl : l.length ≤ 1000000) (f : FuncId) (caps : List D) (hne : caps.isEmpty = false) (p : Ru → Bool)
    (hcall : ∀ {d'}, d = d' + 1 → ∀ r ∈ l, runF LP NN d' f (.agg [.str r.sec, r.fd, .int .u8 r.mode] :: caps) ⟨S.heap, S.heap.length⟩ = some (.bool (p r), ⟨S.heap, S.heap.length⟩, false)) :
    runF LP NN d 17 [x, .fn f caps] S = some (.int .i64 (idxI p l), S, false) := by
  refine run_at (F := F17) rfl (by simp only [LP, fnOf, snapVs, snaps, zs, Bool.false_eq_true, if_false, Option.map_some, List.map_cons, List.map_nil, hS.snapV, hS.freeV, hne, Bool.and_false] <;> exact rfl) rfl (by simp only [LP, zf, List.all_cons, List.all_nil, Bool.and_true, Bool.true_and, hS.snapV, hS.freeV, hne, Bool.and_false]; try rfl) (by simp only [F17, zv] <;> exact rfl) (by omega) ?_
  rintro d rfl
  refine cw_seq ?_
  refine cw_region ?_
  refine ow_op (by simp only [opd, zv, exOp, aop, LOp.loud, pop, zp, hS.len, ruRows_len] <;> exact rfl) ?_
  refine ow_nil ?_
  refine sk_n (by simp only [exports, zn, zg] <;> exact rfl) ?_
  refine cw_seq ?_
  refine cw_seq ?_
  refine cw_region ?_
  refine ow_op (by simp only [opd, zv, exOp, aop, LOp.loud, pop, zp, hS.len, ruRows_len] <;> exact rfl) ?_
  refine ow_op (by simp only [opd, zv, exOp, aop, LOp.loud, pop, zp, lenD_str, lenD_nils, lenD_sl, lenD_msl, hS.len, ruRows_len] <;> exact rfl) ?_
  refine ow_op (by simp only [opd, zv, exOp, aop, LOp.loud, pop, zp, hS.len, ruRows_len] <;> exact rfl) ?_
  refine ow_nil ?_
  refine sk_n (by simp only [exports, zn, zg] <;> exact rfl) ?_
  refine cw_block ?_
  refine cw_loop (fun n env S' => ∃ (i : Nat) (u3 u6 u7 : D), i ≤ l.length ∧ n = l.length - i ∧ ((l.take i).any fun x => p x) = false ∧ S' = ⟨S.heap, S.heap.length⟩ ∧ env = [x, .fn f caps, .int .i64 0, u3, .int .i64 l.length, .int .i64 i, u6, u7]) (l.length) (by omega) (⟨0, _, _, _, by omega, by omega, by simp, rfl, rfl⟩) ?_
  rintro n env S' ⟨i, u3, u6, u7, hi, rfl, hany, rfl, rfl⟩
  have h0 : (0 : Int) ≤ (i : Int) := by omega
  refine cw_seq ?_
  refine cw_region ?_
  refine ow_op (by simp only [opd, zv, exOp, aop, LOp.loud, pop, zp, binD, eq_self, ne_eq, not_false_eq_true, true_and, Int.reduceEq, ite_true, ite_false, not_true_eq_false, Int.reduceToNat, Int.reduceLT, hS.len, ruRows_len, h0] <;> exact rfl) ?_
  refine ow_nil ?_
  refine sk_n (by simp only [exports, zn, zg] <;> exact rfl) ?_
  refine cw_seq ?_
  refine cw_cond (by simp only [opd, zv, hS.len, ruRows_len, h0] <;> exact rfl) (fun hcA => ?_) (fun hcA => ?_)
  · skip -- AT
    have hlt : i < l.length := by have := of_decide_eq_true hcA; omega
    have hw := wrap_nat i (by omega)
    have hx := List.getElem?_eq_getElem hlt
    have hia := fun (S : St) => hS.iaddrN S .i64 (ruRows_at hlt)
    refine cw_skip ?_
    refine sk_n rfl ?_
    refine cw_seq ?_
    refine cw_block ?_
    refine cw_seq ?_
    refine cw_region ?_
    refine ow_op (by simp only [opd, zv, exOp, aop, LOp.loud, pop, zp, hS.len, ruRows_len, h0, hw, hx, hia] <;> exact rfl) ?_
    refine ow_op (by simp only [opd, zv, exOp, aop, LOp.loud, pop, zp, hS.len, ruRows_len, h0, hw, hx, hia] <;> exact rfl) ?_
    refine ow_nil ?_
    refine sk_n (by simp only [exports, zn, zg] <;> exact rfl) ?_
    refine cw_seq ?_
    refine cw_region ?_
    refine ow_op (by simp only [opd, zv, exOp, aop, LOp.loud, pop, zp, hS.len, ruRows_len, h0, hw, hx, hia] <;> exact rfl) ?_
    refine ow_op (by simp only [opd, zv, exOp, aop, LOp.loud, pop, zp, hS.len, ruRows_len, h0, hw, hx, hia] <;> exact rfl) ?_
    refine ow_op (by simp only [opd, zv, exOp, aop, LOp.loud, pop, zp, hS.len, ruRows_len, h0, hw, hx, hia] <;> exact rfl) ?_
    refine ow_op (by simp only [opd, zv, exOp, aop, LOp.loud, lop, rowsOf, newAt, setAt, zh, zm, iaddrD_sl, iaddrD_msl, Int.toNat_natCast, Int.toNat_zero, List.getElem?_map, Option.map_some, Int.le_refl, hS.len, ruRows_len, h0, hw, hx, hia] <;> exact rfl) ?_
    refine ow_op (by simp only [opd, zv, exOp, aop, LOp.loud, lop, rowsOf, newAt, setAt, zh, zm, loadD_cptr, loadD_ptr, partD, List.take, List.drop, hS.len, ruRows_len, h0, hw, hx, hia] <;> exact rfl) ?_
    refine ow_op (by simp only [exOp, opd, zv, hS.len, ruRows_len, h0, hw, hx, hia]; exact hcall rfl _ (List.getElem_mem hlt)) ?_
    refine ow_nil ?_
    refine sk_n (by simp only [exports, zn, zg] <;> exact rfl) ?_
    refine cw_cond (by simp only [opd, zv, hS.len, ruRows_len, h0, hw, hx, hia] <;> exact rfl) (fun hcAT => ?_) (fun hcAT => ?_)
    · skip -- ATT
      refine cw_seq ?_
      refine cw_region ?_
      refine ow_op (by simp only [opd, zv, exOp, aop, LOp.loud, pop, zp, hS.len, ruRows_len, h0, hw, hx, hia] <;> exact rfl) ?_
      refine ow_op (by simp only [opd, zv, exOp, aop, LOp.loud, pop, zp, hS.len, ruRows_len, h0, hw, hx, hia] <;> exact rfl) ?_
      refine ow_nil ?_
      refine sk_n (by simp only [exports, zn, zg] <;> exact rfl) ?_
      refine cw_ret ?_
      refine bk_r ?_
      refine sk_r ?_
      refine lk_r ?_
      refine bk_r ?_
      refine sk_r ?_
      refine ⟨_, by simp only [F17, resultD, resDs, resD, List.getD_cons_zero, List.getD_cons_succ, loadD_cptr, loadD_ptr, rowsOf, partD, List.getElem?_cons_zero, List.getElem?_cons_succ, if_true, if_false, Bool.false_eq_true, List.take, List.drop, zm] <;> exact rfl, ?_⟩
      rw [idxI_at hlt hcAT hany]
      simp [leave, LP, snapR, snapV, snap, D.freeR, D.freeV, D.free]
    · skip -- ATF
      refine cw_skip ?_
      refine bk_n ?_
      refine sk_n rfl ?_
      refine cw_region ?_
      refine ow_op (by simp only [opd, zv, exOp, aop, LOp.loud, pop, zp, binD, eq_self, ne_eq, not_false_eq_true, true_and, Int.reduceEq, ite_true, ite_false, not_true_eq_false, Int.reduceToNat, Int.reduceLT, hS.len, ruRows_len, h0, hw, hx, hia] <;> exact rfl) ?_
      refine ow_op (by simp only [opd, zv, exOp, aop, LOp.loud, pop, zp, hS.len, ruRows_len, h0, hw, hx, hia] <;> exact rfl) ?_
      refine ow_nil ?_
      refine lk_n (by simp only [exports, zn, zg] <;> exact rfl) ?_
      exact ⟨l.length - (i + 1), by omega, i + 1, _, _, _, by omega, rfl, any_take_succ hlt hany hcAT, rfl, rfl⟩
  · skip -- AF
    have hge : l.length ≤ i := by have := of_decide_eq_false hcA; omega
    refine cw_exit ?_
    refine sk_e ?_
    refine lk_e ?_
    refine bk_e ?_
    refine sk_n rfl ?_
    refine cw_seq ?_
    refine cw_region ?_
    refine ow_op (by simp only [opd, zv, exOp, aop, LOp.loud, pop, zp, hS.len, ruRows_len, h0] <;> exact rfl) ?_
    refine ow_nil ?_
    refine sk_n (by simp only [exports, zn, zg] <;> exact rfl) ?_
    refine cw_ret ?_
    refine ⟨_, by simp only [F17, resultD, resDs, resD, List.getD_cons_zero, List.getD_cons_succ, loadD_cptr, loadD_ptr, rowsOf, partD, List.getElem?_cons_zero, List.getElem?_cons_succ, if_true, if_false, Bool.false_eq_true, List.take, List.drop, zm] <;> exact rfl, ?_⟩
    rw [List.take_of_length_le hge] at hany
    rw [idxI_none hany]
    simp [leave, LP, snapR, snapV, snap, D.freeR, D.freeV, D.free]

end Go.Proofs.Ytnihohodcogpeaa

/- Proved here: what functions of the program compute, in the abstract machine; no condition. -/
import Derived.Test.YtabgobmeibjeeaaGreatDoorS7
namespace Go.Proofs.YtabgobmeibjeeaaGreatDoor
set_option linter.unusedSimpArgs false
set_option linter.unusedVariables false
set_option maxRecDepth 10000

theorem cpad_run {d : Nat} (hd : 1 ≤ d) (S : St) {x : D} {l : List UInt8} (hS : SlD 1 (bR l) x) (i : Nat) {c : UInt8} (hi : l[i]? = some c) : runF LP NN d 87 [x, .int .i64 i] S = some (.int .u8 c.toNat, S, false) := by
 have hlt : i < l.length := (List.getElem?_eq_some_iff.1 hi).1
 have hia := fun (S : St) => hS.iaddrN S .i64 (bR_at hi)
 refine run_pure (F := F87) rfl (by simp only [LP, fnOf, snapVs, snaps, zs, Bool.false_eq_true, if_false, Option.map_some, List.map_cons, List.map_nil, hS.snapV, hS.freeV] <;> exact rfl) rfl (by simp only [LP, zf, List.all_cons, List.all_nil, Bool.and_true, Bool.true_and, hS.snapV, hS.freeV]; try rfl) (by simp only [F87, zv] <;> exact rfl) (by omega) ?_
 rintro d rfl
 refine cw_seq (cw_region ?_)
 refine ow_op (by simp only [zo] <;> exact rfl) ?_
 refine ow_nil ?_
 refine sk_n (by simp only [exports, zn, zg] <;> exact rfl) ?_
 refine cw_seq (cw_seq (cw_region ?_))
 refine ow_op (by simp only [zo] <;> exact rfl) ?_
 refine ow_op (by simp only [zo] <;> exact rfl) ?_
 refine ow_op (by simp only [zo, lenD_str, lenD_nils, lenD_sl, lenD_msl, hS.len, bR_len, hia] <;> exact rfl) ?_
 refine ow_op (by simp only [zo, binD, eq_self, ne_eq, not_false_eq_true, true_and, Int.reduceEq, ite_true, ite_false, not_true_eq_false, Int.reduceToNat, Int.reduceLT, hS.len, bR_len, hia] <;> exact rfl) ?_
 refine ow_nil ?_
 refine sk_n (by simp only [exports, zn, zg] <;> exact rfl) ?_
 skip
 refine cw_false (by simp only [opd, zv, hS.len, bR_len, hia] <;> (rw [decide_eq_false]; omega)) ?_
 refine cw_skip (sk_n rfl (cw_seq (cw_region ?_)))
 refine ow_op (by simp only [zo] <;> exact rfl) ?_
 refine ow_op (by simp only [zo] <;> exact rfl) ?_
 refine ow_op (by simp only [zl, zm, iaddrD_sl, iaddrD_msl, Int.toNat_natCast, Int.toNat_zero, List.getElem?_map, Option.map_some, Int.le_refl, hS.len, bR_len, hia] <;> exact rfl) ?_
 refine ow_op (by simp only [zl, zm, loadD_cptr, loadD_ptr, partD, List.take, List.drop, hS.len, bR_len, hia] <;> exact rfl) ?_
 refine ow_op (by simp only [zo] <;> exact rfl) ?_
 refine ow_nil ?_
 refine sk_n (by simp only [exports, zn, zg] <;> exact rfl) ?_
 refine cw_ret ?_
 refine ⟨_, by simp only [F87, resultD, resDs, resD, List.getD_cons_zero, List.getD_cons_succ, loadD_cptr, loadD_ptr, rowsOf, partD, List.getElem?_cons_zero, List.getElem?_cons_succ, if_true, if_false, Bool.false_eq_true, List.take, List.drop, zm] <;> exact rfl, ?_⟩
 simp only [leaveP, leave, snapVs, snaps, zs, zf, Option.map_some, List.all_cons, List.all_nil, Bool.and_self, Bool.and_true, if_true, if_false, Bool.false_eq_true, List.length_nil, Nat.le_refl, Nat.zero_le]

/-- the order of two texts of one length, byte by byte -/
def cmpT : List UInt8 → List UInt8 → Int
 | a :: l, b :: m => if cmpI a.toNat b.toNat != 0 then cmpI a.toNat b.toNat else cmpT l m
 | _, _ => 0
theorem cmpT_nil : cmpT [] [] = 0 := rfl

theorem ccmp_run {d : Nat} (hd : 3 ≤ d) (S : St) {x y : D} {l m : List UInt8} (hS : SlD 1 (bR l) x) (hR : SlD 1 (bR m) y) (hl : l.length ≤ 1000000) (hlm : m.length = l.length) : runF LP NN d 53 [x, y] S = some (.int .i64 (cmpT l m), S, false) := by
 have hmx : (if (m.length : Int) > (l.length : Int) then (m.length : Int) else (l.length : Int)) = (l.length : Int) := by rw [hlm]; simp
 refine run_pure (F := F53) rfl (by simp only [LP, fnOf, snapVs, snaps, zs, Bool.false_eq_true, if_false, Option.map_some, List.map_cons, List.map_nil, hS.snapV, hS.freeV, hR.snapV, hR.freeV] <;> exact rfl) rfl (by simp only [LP, zf, List.all_cons, List.all_nil, Bool.and_true, Bool.true_and, hS.snapV, hS.freeV, hR.snapV, hR.freeV]; try rfl) (by simp only [F53, zv] <;> exact rfl) (by omega) ?_
 rintro d rfl
 refine cw_seq (cw_region ?_)
 refine ow_op (by simp only [zo] <;> exact rfl) ?_
 refine ow_nil ?_
 refine sk_n (by simp only [exports, zn, zg] <;> exact rfl) ?_
 refine cw_seq (cw_seq (cw_region ?_))
 refine ow_op (by simp only [zo] <;> exact rfl) ?_
 refine ow_op (by simp only [zo, lenD_str, lenD_nils, lenD_sl, lenD_msl, hS.len, hR.len, bR_len, hmx] <;> exact rfl) ?_
 refine ow_op (by simp only [zo] <;> exact rfl) ?_
 refine ow_op (by simp only [zo, lenD_str, lenD_nils, lenD_sl, lenD_msl, hS.len, hR.len, bR_len, hmx] <;> exact rfl) ?_
 refine ow_op (by simp only [zo, foldD, maxD, hS.len, hR.len, bR_len, hmx] <;> exact rfl) ?_
 refine ow_op (by simp only [zo] <;> exact rfl) ?_
 refine ow_nil ?_
 refine sk_n (by simp only [exports, zn, zg] <;> exact rfl) ?_
 refine cw_block ?_
 refine cw_loop (fun n env S' => ∃ (i : Nat) (u3 u4 u7 u8 : D), i ≤ l.length ∧ n = l.length - i ∧ cmpT (l.drop i) (m.drop i) = cmpT l m ∧ S' = ⟨[], 0⟩ ∧ env = [x, y, .int .i64 0, u3, u4, .int .i64 l.length, .int .i64 i, u7, u8]) (l.length) (by omega) (⟨0, _, _, _, _, by omega, by omega, rfl, rfl, rfl⟩) ?_
 rintro n env S' ⟨i, u3, u4, u7, u8, hi, rfl, hT, rfl, rfl⟩
 have h0 : (0 : Int) ≤ (i : Int) := by omega
 refine cw_seq (cw_region ?_)
 refine ow_op (by simp only [zo, binD, eq_self, ne_eq, not_false_eq_true, true_and, Int.reduceEq, ite_true, ite_false, not_true_eq_false, Int.reduceToNat, Int.reduceLT, hS.len, hR.len, bR_len, hmx, h0] <;> exact rfl) ?_
 refine ow_nil ?_
 refine sk_n (by simp only [exports, zn, zg] <;> exact rfl) ?_
 refine cw_seq ?_
 refine cw_cond (by simp only [opd, zv, hS.len, hR.len, bR_len, hmx, h0] <;> exact rfl) (fun hcA => ?_) (fun hcA => ?_)
 ·
  have hlt : i < l.length := by have := of_decide_eq_true hcA; omega
  have hw := wrap_nat i (by omega)
  have hx := List.getElem?_eq_getElem hlt
  have hy := List.getElem?_eq_getElem (show i < m.length by omega)
  refine cw_skip (sk_n rfl (cw_seq (cw_block (cw_seq (cw_region ?_)))))
  refine ow_op (by simp only [zo] <;> exact rfl) ?_
  refine ow_op (by simp only [zo] <;> exact rfl) ?_
  refine ow_nil ?_
  refine sk_n (by simp only [exports, zn, zg] <;> exact rfl) ?_
  refine cw_seq (cw_region ?_)
  refine ow_op (by simp only [zo] <;> exact rfl) ?_
  refine ow_op (by simp only [zo] <;> exact rfl) ?_
  first
   | refine ow_op (by simp only [zo, hS.len, hR.len, bR_len, hmx, h0, hw]; exact cpad_run (by omega) _ hS i hx) ?_
   | refine ow_op (by simp only [zo, hS.len, hR.len, bR_len, hmx, h0, hw]; exact cpad_run (by omega) _ hR i hy) ?_
  refine ow_op (by simp only [zo] <;> exact rfl) ?_
  refine ow_op (by simp only [zo] <;> exact rfl) ?_
  first
   | refine ow_op (by simp only [zo, hS.len, hR.len, bR_len, hmx, h0, hw]; exact cpad_run (by omega) _ hS i hx) ?_
   | refine ow_op (by simp only [zo, hS.len, hR.len, bR_len, hmx, h0, hw]; exact cpad_run (by omega) _ hR i hy) ?_
  refine ow_op (by simp only [zo, hS.len, hR.len, bR_len, hmx, h0, hw]; exact cmpB_run (by omega) _ _ _) ?_
  refine ow_op (by simp only [zo] <;> exact rfl) ?_
  refine ow_nil ?_
  refine sk_n (by simp only [exports, zn, zg] <;> exact rfl) ?_
  refine cw_seq (cw_region ?_)
  refine ow_op (by simp only [zo] <;> exact rfl) ?_
  refine ow_op (by simp only [zo, binD, eq_self, ne_eq, not_false_eq_true, true_and, Int.reduceEq, ite_true, ite_false, not_true_eq_false, Int.reduceToNat, Int.reduceLT, hS.len, hR.len, bR_len, hmx, h0, hw] <;> exact rfl) ?_
  refine ow_nil ?_
  refine sk_n (by simp only [exports, zn, zg] <;> exact rfl) ?_
  refine cw_cond (by simp only [opd, zv, hS.len, hR.len, bR_len, hmx, h0, hw] <;> exact rfl) (fun hcAT => ?_) (fun hcAT => ?_)
  ·
   refine cw_seq (cw_region ?_)
   refine ow_op (by simp only [zo] <;> exact rfl) ?_
   refine ow_op (by simp only [zo] <;> exact rfl) ?_
   refine ow_nil ?_
   refine sk_n (by simp only [exports, zn, zg] <;> exact rfl) ?_
   refine cw_ret (bk_r (sk_r (lk_r (bk_r (sk_r ?_)))))
   refine ⟨_, by simp only [F53, resultD, resDs, resD, List.getD_cons_zero, List.getD_cons_succ, loadD_cptr, loadD_ptr, rowsOf, partD, List.getElem?_cons_zero, List.getElem?_cons_succ, if_true, if_false, Bool.false_eq_true, List.take, List.drop, zm] <;> exact rfl, ?_⟩
   rw [← hT, List.drop_eq_getElem_cons hlt, List.drop_eq_getElem_cons (show i < m.length by omega), cmpT, if_pos (by simpa using hcAT)]
   simp only [leaveP, leave, snapVs, snaps, zs, zf, Option.map_some, List.all_cons, List.all_nil, Bool.and_self, Bool.and_true, if_true, if_false, Bool.false_eq_true, List.length_nil, Nat.le_refl, Nat.zero_le]
  ·
   refine cw_skip (bk_n (sk_n rfl (cw_region ?_)))
   refine ow_op (by simp only [zo, binD, eq_self, ne_eq, not_false_eq_true, true_and, Int.reduceEq, ite_true, ite_false, not_true_eq_false, Int.reduceToNat, Int.reduceLT, hS.len, hR.len, bR_len, hmx, h0, hw] <;> exact rfl) ?_
   refine ow_op (by simp only [zo] <;> exact rfl) ?_
   refine ow_nil ?_
   refine lk_n (by simp only [exports, zn, zg] <;> exact rfl) ?_
   exact ⟨l.length - (i + 1), by omega, i + 1, _, _, _, _, by omega, rfl, by rw [← hT, List.drop_eq_getElem_cons hlt, List.drop_eq_getElem_cons (show i < m.length by omega), cmpT, if_neg (by simpa using hcAT)], rfl, rfl⟩
 ·
  have hge : l.length ≤ i := by have := of_decide_eq_false hcA; omega
  refine cw_exit (sk_e (lk_e (bk_e (sk_n rfl (cw_seq (cw_region ?_))))))
  refine ow_op (by simp only [zo] <;> exact rfl) ?_
  refine ow_nil ?_
  refine sk_n (by simp only [exports, zn, zg] <;> exact rfl) ?_
  refine cw_ret ?_
  refine ⟨_, by simp only [F53, resultD, resDs, resD, List.getD_cons_zero, List.getD_cons_succ, loadD_cptr, loadD_ptr, rowsOf, partD, List.getElem?_cons_zero, List.getElem?_cons_succ, if_true, if_false, Bool.false_eq_true, List.take, List.drop, zm] <;> exact rfl, ?_⟩
  rw [← hT, List.drop_eq_nil_of_le hge, List.drop_eq_nil_of_le (show m.length ≤ i by omega), cmpT_nil]
  simp only [leaveP, leave, snapVs, snaps, zs, zf, Option.map_some, List.all_cons, List.all_nil, Bool.and_self, Bool.and_true, if_true, if_false, Bool.false_eq_true, List.length_nil, Nat.le_refl, Nat.zero_le]

end Go.Proofs.YtabgobmeibjeeaaGreatDoor

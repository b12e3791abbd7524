/- Proved here: what functions of the program compute, in the abstract machine; no condition. -/
import Derived.Test.YtabgobmeibjeeaaGreatDoorS1
namespace Go.Proofs.YtabgobmeibjeeaaGreatDoor
set_option linter.unusedSimpArgs false
set_option linter.unusedVariables false
set_option maxRecDepth 10000

theorem m48 : (⟨#[48]⟩ : ByteArray) = mkS [48] := rfl
theorem trimL0_run {d : Nat} (hd : 2 ≤ d) (S : St) (l : List UInt8) (hl : l.length ≤ 1000000) : runF LP NN d 64 [.str (mkS l), .str ⟨#[48]⟩] S = some (.str (mkS (strip0 l)), S, false) := by
 refine run_pure (F := F64) rfl (by simp only [LP, fnOf, snapVs, snaps, zs, Bool.false_eq_true, if_false, Option.map_some, List.map_cons, List.map_nil] <;> exact rfl) rfl (by simp only [LP, zf, List.all_cons, List.all_nil, Bool.and_true, Bool.true_and]; try rfl) (by simp only [F64, zv] <;> exact rfl) (by omega) ?_
 rintro d rfl
 refine cw_seq (cw_region ?_)
 refine ow_op (by simp only [zo] <;> exact rfl) ?_
 refine ow_nil ?_
 refine sk_n (by simp only [exports, zn, zg] <;> exact rfl) ?_
 refine cw_seq (cw_seq (cw_region ?_))
 refine ow_op (by simp only [zo] <;> exact rfl) ?_
 refine ow_op (by simp only [zo, binD, eq_self, ne_eq, not_false_eq_true, true_and, Int.reduceEq, ite_true, ite_false, not_true_eq_false, Int.reduceToNat, Int.reduceLT, mkS_toList, mkS_size, mkS_get, List.length_cons, List.length_nil, List.getElem?_cons_zero, nil_toList, m48] <;> exact rfl) ?_
 refine ow_op (by simp only [zo] <;> exact rfl) ?_
 refine ow_split 0 (by simp only [opd, zv] <;> exact rfl) (by simp only [zn] <;> exact rfl) (by simp only [zn] <;> exact rfl) (fun hg => ?_) (fun hg => ?_)
 ·
  refine ow_off (b' := true) (by simp only [opd, zv]) rfl ?_
  refine ow_off (b' := true) (by simp only [opd, zv]) rfl ?_
  refine ow_op (by simp only [zo, mkS_toList, mkS_size, mkS_get, List.length_cons, List.length_nil, List.getElem?_cons_zero, nil_toList, m48] <;> exact rfl) ?_
  refine ow_nil ?_
  refine sk_n (by simp only [exports, zn, zg] <;> exact rfl) ?_
  refine cw_true (by simp only [opd, zv, mkS_toList, mkS_size, mkS_get, List.length_cons, List.length_nil, List.getElem?_cons_zero, nil_toList, m48]) ?_
  refine cw_seq (cw_region ?_)
  refine ow_op (by simp only [zo] <;> exact rfl) ?_
  refine ow_op (by simp only [zo] <;> exact rfl) ?_
  refine ow_nil ?_
  refine sk_n (by simp only [exports, zn, zg] <;> exact rfl) ?_
  refine cw_ret (sk_r ?_)
  refine ⟨_, by simp only [F64, resultD, resDs, resD, List.getD_cons_zero, List.getD_cons_succ, loadD_cptr, loadD_ptr, rowsOf, partD, List.getElem?_cons_zero, List.getElem?_cons_succ, if_true, if_false, Bool.false_eq_true, List.take, List.drop, zm] <;> exact rfl, ?_⟩
  obtain rfl := (eqNil l).1 hg
  rfl
 ·
  refine ow_on (by simp only [opd, zv]) ?_
  refine ow_op (by simp only [zo] <;> exact rfl) ?_
  refine ow_on (by simp only [opd, zv]) ?_
  refine ow_op (by simp only [zo, binD, eq_self, ne_eq, not_false_eq_true, true_and, Int.reduceEq, ite_true, ite_false, not_true_eq_false, Int.reduceToNat, Int.reduceLT, mkS_toList, mkS_size, mkS_get, List.length_cons, List.length_nil, List.getElem?_cons_zero, nil_toList, m48] <;> exact rfl) ?_
  refine ow_op (by simp only [zo, mkS_toList, mkS_size, mkS_get, List.length_cons, List.length_nil, List.getElem?_cons_zero, nil_toList, m48] <;> exact rfl) ?_
  refine ow_nil ?_
  refine sk_n (by simp only [exports, zn, zg] <;> exact rfl) ?_
  skip
  refine cw_false (by simp only [opd, zv, mkS_toList, mkS_size, mkS_get, List.length_cons, List.length_nil, List.getElem?_cons_zero, nil_toList, m48] <;> rfl) ?_
  refine cw_skip (sk_n rfl (cw_seq (cw_seq (cw_region ?_))))
  refine ow_op (by simp only [zo] <;> exact rfl) ?_
  refine ow_op (by simp only [zo, lenD_str, lenD_nils, lenD_sl, lenD_msl, mkS_toList, mkS_size, mkS_get, List.length_cons, List.length_nil, List.getElem?_cons_zero, nil_toList, m48] <;> exact rfl) ?_
  refine ow_op (by simp only [zo, binD, eq_self, ne_eq, not_false_eq_true, true_and, Int.reduceEq, ite_true, ite_false, not_true_eq_false, Int.reduceToNat, Int.reduceLT, mkS_toList, mkS_size, mkS_get, List.length_cons, List.length_nil, List.getElem?_cons_zero, nil_toList, m48] <;> exact rfl) ?_
  refine ow_op (by simp only [zo] <;> exact rfl) ?_
  refine ow_know 0 (b := true) (by simp only [opd, zv, mkS_toList, mkS_size, mkS_get, List.length_cons, List.length_nil, List.getElem?_cons_zero, nil_toList, m48] <;> rfl) (by simp only [zn] <;> exact rfl) ?_
  refine ow_on (by simp only [opd, zv]) ?_
  refine ow_op (by simp only [zo] <;> exact rfl) ?_
  refine ow_on (by simp only [opd, zv]) ?_
  refine ow_op (by simp only [zo, indexD, zm, mkS_toList, mkS_size, mkS_get, List.length_cons, List.length_nil, List.getElem?_cons_zero, nil_toList, m48] <;> exact rfl) ?_
  refine ow_on (by simp only [opd, zv]) ?_
  refine ow_op (by simp only [zo, binD, eq_self, ne_eq, not_false_eq_true, true_and, Int.reduceEq, ite_true, ite_false, not_true_eq_false, Int.reduceToNat, Int.reduceLT, mkS_toList, mkS_size, mkS_get, List.length_cons, List.length_nil, List.getElem?_cons_zero, nil_toList, m48] <;> exact rfl) ?_
  refine ow_op (by simp only [zo, mkS_toList, mkS_size, mkS_get, List.length_cons, List.length_nil, List.getElem?_cons_zero, nil_toList, m48] <;> exact rfl) ?_
  refine ow_nil ?_
  refine sk_n (by simp only [exports, zn, zg] <;> exact rfl) ?_
  skip
  refine cw_true (by simp only [opd, zv, mkS_toList, mkS_size, mkS_get, List.length_cons, List.length_nil, List.getElem?_cons_zero, nil_toList, m48] <;> rfl) ?_
  refine cw_seq (cw_region ?_)
  refine ow_op (by simp only [zo] <;> exact rfl) ?_
  refine ow_op (by simp only [zo] <;> exact rfl) ?_
  refine ow_op (by simp only [zo, indexD, zm, mkS_toList, mkS_size, mkS_get, List.length_cons, List.length_nil, List.getElem?_cons_zero, nil_toList, m48] <;> exact rfl) ?_
  refine ow_op (by simp only [zo, mkS_toList, mkS_size, mkS_get, List.length_cons, List.length_nil, List.getElem?_cons_zero, nil_toList, m48]; exact trimLB_run (by omega) _ l hl) ?_
  refine ow_op (by simp only [zo] <;> exact rfl) ?_
  refine ow_nil ?_
  refine sk_n (by simp only [exports, zn, zg] <;> exact rfl) ?_
  refine cw_ret (sk_r ?_)
  refine ⟨_, by simp only [F64, resultD, resDs, resD, List.getD_cons_zero, List.getD_cons_succ, loadD_cptr, loadD_ptr, rowsOf, partD, List.getElem?_cons_zero, List.getElem?_cons_succ, if_true, if_false, Bool.false_eq_true, List.take, List.drop, zm] <;> exact rfl, ?_⟩
  rfl

def digOb : AObj := ⟨158, 256, [digTab], 0, 0, false⟩
theorem c256 (c : UInt8) : (0 : Int) ≤ (c.toNat : Int) ∧ (c.toNat : Int) < ((256 : Nat) : Int) := by have := c.toNat_lt; omega
theorem cont_run {d : Nat} (hd : 1 ≤ d) (S : St) (g : Nat) (hcap : S.heap[g]? = some digOb) (c : UInt8) : runF LP NN d 136 [.ptr g 0 0 0, .int .u8 c.toNat] S = some (.bool (isDig c), S, false) := by
 refine run_at (F := F136) rfl (by simp only [LP, fnOf, snapVs, snaps, zs, Bool.false_eq_true, if_false, Option.map_some, List.map_cons, List.map_nil] <;> exact rfl) rfl (by simp only [LP, zf, List.all_cons, List.all_nil, Bool.and_true, Bool.true_and]; try rfl) (by simp only [F136, zv] <;> exact rfl) (by omega) ?_
 rintro d rfl
 refine cw_seq (cw_region ?_)
 refine ow_op (by simp only [zo] <;> exact rfl) ?_
 refine ow_nil ?_
 refine sk_n (by simp only [exports, zn, zg] <;> exact rfl) ?_
 refine cw_seq (cw_region ?_)
 refine ow_op (by simp only [zo] <;> exact rfl) ?_
 refine ow_op (by simp only [zo] <;> exact rfl) ?_
 refine ow_op (by simp only [zo, hcap, digOb, Int.toNat_natCast, Nat.zero_add, Nat.mul_one, digTab_at, c256 c, and_self] <;> exact rfl) ?_
 refine ow_op (by simp only [zo, aaddrD, zm, hcap, digOb, Int.toNat_natCast, Nat.zero_add, Nat.mul_one, digTab_at, c256 c, and_self] <;> exact rfl) ?_
 refine ow_op (by simp only [zl, zm, loadD_cptr, loadD_ptr, partD, List.take, List.drop, hcap, digOb, Int.toNat_natCast, Nat.zero_add, Nat.mul_one, digTab_at, c256 c, and_self] <;> exact rfl) ?_
 refine ow_op (by simp only [zo] <;> exact rfl) ?_
 refine ow_nil ?_
 refine sk_n (by simp only [exports, zn, zg] <;> exact rfl) ?_
 refine cw_ret ?_
 refine ⟨_, by simp only [F136, resultD, resDs, resD, List.getD_cons_zero, List.getD_cons_succ, loadD_cptr, loadD_ptr, rowsOf, partD, List.getElem?_cons_zero, List.getElem?_cons_succ, if_true, if_false, Bool.false_eq_true, List.take, List.drop, zm] <;> exact rfl, ?_⟩
 simp [leave, LP, snapR, snapV, snap, D.freeR, D.freeV, D.free]

theorem trimLA_run {d : Nat} (hd : 2 ≤ d) (S : St) (g : Nat) (hcap : S.heap[g]? = some digOb) (l : List UInt8) (hl : l.length ≤ 1000000) : runF LP NN d 101 [.str (mkS l), .ptr g 0 0 0] S = some (.str (mkS (l.dropWhile isDig)), S, false) := by
 refine run_at (F := F101) rfl (by simp only [LP, fnOf, snapVs, snaps, zs, Bool.false_eq_true, if_false, Option.map_some, List.map_cons, List.map_nil] <;> exact rfl) rfl (by simp only [LP, zf, List.all_cons, List.all_nil, Bool.and_true, Bool.true_and]; try rfl) (by simp only [F101, zv] <;> exact rfl) (by omega) ?_
 rintro d rfl
 refine cw_seq (cw_region ?_)
 refine ow_op (by simp only [zo] <;> exact rfl) ?_
 refine ow_nil ?_
 refine sk_n (by simp only [exports, zn, zg] <;> exact rfl) ?_
 refine cw_seq (cw_block ?_)
 refine cw_loop (fun n env S' => ∃ (l' : List UInt8) (u3 u4 : D), l'.dropWhile isDig = l.dropWhile isDig ∧ l'.length = n ∧ S' = ⟨S.heap, S.heap.length⟩ ∧ env = [.str (mkS l'), .ptr g 0 0 0, .str ⟨#[]⟩, u3, u4]) (l.length) (by omega) (⟨l, _, _, rfl, rfl, rfl, rfl⟩) ?_
 rintro n env S' ⟨l', u3, u4, hl', rfl, rfl, rfl⟩
 refine cw_seq (cw_seq (cw_region ?_))
 refine ow_op (by simp only [zo] <;> exact rfl) ?_
 refine ow_op (by simp only [zo, lenD_str, lenD_nils, lenD_sl, lenD_msl, mkS_size, mkS_get] <;> exact rfl) ?_
 refine ow_op (by simp only [zo, binD, eq_self, ne_eq, not_false_eq_true, true_and, Int.reduceEq, ite_true, ite_false, not_true_eq_false, Int.reduceToNat, Int.reduceLT, mkS_size, mkS_get] <;> exact rfl) ?_
 refine ow_nil ?_
 refine sk_n (by simp only [exports, zn, zg] <;> exact rfl) ?_
 refine cw_cond (by simp only [opd, zv, mkS_size, mkS_get] <;> exact rfl) (fun hcA => ?_) (fun hcA => ?_)
 ·
  obtain ⟨c, l'', rfl⟩ : ∃ c l'', l' = c :: l'' := by
   cases l' with
   | nil => simp at hcA
   | cons c l => exact ⟨c, l, rfl⟩
  rename List UInt8 => l'
  refine cw_skip (sk_n rfl (cw_block (cw_seq (cw_seq (cw_region ?_)))))
  refine ow_op (by simp only [zo] <;> exact rfl) ?_
  refine ow_op (by simp only [zo] <;> exact rfl) ?_
  refine ow_op (by simp only [zo, indexD, zm, mkS_size, mkS_get, List.getElem?_cons_zero] <;> exact rfl) ?_
  refine ow_op (by simp only [zo, mkS_size, mkS_get, List.getElem?_cons_zero]; exact cont_run (by omega) ⟨S.heap, S.heap.length⟩ g hcap c) ?_
  refine ow_op (by simp only [zo, unD, mkS_size, mkS_get, List.getElem?_cons_zero] <;> exact rfl) ?_
  refine ow_nil ?_
  refine sk_n (by simp only [exports, zn, zg] <;> exact rfl) ?_
  refine cw_cond (by simp only [opd, zv, mkS_size, mkS_get, List.getElem?_cons_zero] <;> exact rfl) (fun hcAT => ?_) (fun hcAT => ?_)
  ·
   refine cw_exit (sk_e (bk_o rfl (lk_e (bk_e (sk_n rfl (cw_seq (cw_region ?_)))))))
   refine ow_op (by simp only [zo] <;> exact rfl) ?_
   refine ow_op (by simp only [zo] <;> exact rfl) ?_
   refine ow_nil ?_
   refine sk_n (by simp only [exports, zn, zg] <;> exact rfl) ?_
   refine cw_ret ?_
   refine ⟨_, by simp only [F101, resultD, resDs, resD, List.getD_cons_zero, List.getD_cons_succ, loadD_cptr, loadD_ptr, rowsOf, partD, List.getElem?_cons_zero, List.getElem?_cons_succ, if_true, if_false, Bool.false_eq_true, List.take, List.drop, zm] <;> exact rfl, ?_⟩
   rw [← hl', List.dropWhile_cons, if_neg (by simpa using hcAT)]
   simp [leave, LP, snapR, snapV, snap, D.freeR, D.freeV, D.free]
  ·
   refine cw_skip (sk_n rfl (cw_region ?_))
   refine ow_op (by simp only [zo] <;> exact rfl) ?_
   refine ow_op (by simp only [opd, zv, exOp, aop, LOp.loud, Bool.false_eq_true, if_false, mkS_size]; rw [str_from _ _ 1 1 rfl (by simp)]; exact rfl) ?_
   refine ow_op (by simp only [zo] <;> exact rfl) ?_
   refine ow_nil (bk_n ?_)
   refine lk_n (by simp only [exports, zn, zg] <;> exact rfl) ?_
   exact ⟨l'.length, by simp, l', _, _, by rw [← hl', List.dropWhile_cons, if_pos (by simpa using hcAT)], rfl, rfl, rfl⟩
 ·
  obtain rfl : l' = [] := by
   cases l' with
   | nil => rfl
   | cons c l => have := of_decide_eq_false hcA; simp at this
  refine cw_exit (sk_e (lk_e (bk_e (sk_n rfl (cw_seq (cw_region ?_))))))
  refine ow_op (by simp only [zo] <;> exact rfl) ?_
  refine ow_op (by simp only [zo] <;> exact rfl) ?_
  refine ow_nil ?_
  refine sk_n (by simp only [exports, zn, zg] <;> exact rfl) ?_
  refine cw_ret ?_
  refine ⟨_, by simp only [F101, resultD, resDs, resD, List.getD_cons_zero, List.getD_cons_succ, loadD_cptr, loadD_ptr, rowsOf, partD, List.getElem?_cons_zero, List.getElem?_cons_succ, if_true, if_false, Bool.false_eq_true, List.take, List.drop, zm] <;> exact rfl, ?_⟩
  rw [← hl']
  simp [leave, LP, snapR, snapV, snap, D.freeR, D.freeV, D.free]

theorem trimRA_run {d : Nat} (hd : 2 ≤ d) (S : St) (g : Nat) (hcap : S.heap[g]? = some digOb) (l : List UInt8) (hl : l.length ≤ 1000000) : runF LP NN d 105 [.str (mkS l), .ptr g 0 0 0] S = some (.str (mkS (rtrim l)), S, false) := by
 refine run_at (F := F105) rfl (by simp only [LP, fnOf, snapVs, snaps, zs, Bool.false_eq_true, if_false, Option.map_some, List.map_cons, List.map_nil] <;> exact rfl) rfl (by simp only [LP, zf, List.all_cons, List.all_nil, Bool.and_true, Bool.true_and]; try rfl) (by simp only [F105, zv] <;> exact rfl) (by omega) ?_
 rintro d rfl
 refine cw_seq (cw_region ?_)
 refine ow_op (by simp only [zo] <;> exact rfl) ?_
 refine ow_nil ?_
 refine sk_n (by simp only [exports, zn, zg] <;> exact rfl) ?_
 refine cw_seq (cw_block ?_)
 refine cw_loop (fun n env S' => ∃ (l' : List UInt8) (u3 u4 : D), rtrim l' = rtrim l ∧ l'.length = n ∧ n ≤ l.length ∧ S' = ⟨S.heap, S.heap.length⟩ ∧ env = [.str (mkS l'), .ptr g 0 0 0, .str ⟨#[]⟩, u3, u4]) (l.length) (by omega) (⟨l, _, _, rfl, rfl, by omega, rfl, rfl⟩) ?_
 rintro n env S' ⟨l', u3, u4, hl', rfl, hle, rfl, rfl⟩
 refine cw_seq (cw_seq (cw_region ?_))
 refine ow_op (by simp only [zo] <;> exact rfl) ?_
 refine ow_op (by simp only [zo, lenD_str, lenD_nils, lenD_sl, lenD_msl, mkS_size, mkS_get] <;> exact rfl) ?_
 refine ow_op (by simp only [zo, binD, eq_self, ne_eq, not_false_eq_true, true_and, Int.reduceEq, ite_true, ite_false, not_true_eq_false, Int.reduceToNat, Int.reduceLT, mkS_size, mkS_get] <;> exact rfl) ?_
 refine ow_nil ?_
 refine sk_n (by simp only [exports, zn, zg] <;> exact rfl) ?_
 refine cw_cond (by simp only [opd, zv, mkS_size, mkS_get] <;> exact rfl) (fun hcA => ?_) (fun hcA => ?_)
 ·
  obtain ⟨l'', c, rfl⟩ : ∃ l'' c, l' = l'' ++ [c] := by
   rcases List.eq_nil_or_concat l' with h | ⟨a, b, h⟩
   ·
    subst h; simp at hcA
   ·
    exact ⟨a, b, by simpa using h⟩
  rename List UInt8 => l'
  have hw : IntKind.i64.wrap (((l' ++ [c]).length : Nat) - 1 : Int) = (l'.length : Int) := by rw [IntKind.wrap_i64]; simp at hle ⊢; omega
  have hix : (l' ++ [c])[l'.length]? = some c := by simp
  have h0 : (0 : Int) ≤ (l'.length : Int) := by omega
  refine cw_skip (sk_n rfl (cw_block (cw_seq (cw_seq (cw_region ?_)))))
  refine ow_op (by simp only [zo] <;> exact rfl) ?_
  refine ow_op (by simp only [zo] <;> exact rfl) ?_
  refine ow_op (by simp only [zo] <;> exact rfl) ?_
  refine ow_op (by simp only [zo, lenD_str, lenD_nils, lenD_sl, lenD_msl, mkS_size, mkS_get, hw, hix, h0, Int.toNat_natCast] <;> exact rfl) ?_
  refine ow_op (by simp only [zo, binD, eq_self, ne_eq, not_false_eq_true, true_and, Int.reduceEq, ite_true, ite_false, not_true_eq_false, Int.reduceToNat, Int.reduceLT, mkS_size, mkS_get, hw, hix, h0, Int.toNat_natCast] <;> exact rfl) ?_
  refine ow_op (by simp only [zo, indexD, zm, mkS_size, mkS_get, hw, hix, h0, Int.toNat_natCast] <;> exact rfl) ?_
  refine ow_op (by simp only [zo, mkS_size, mkS_get, hw, hix, h0, Int.toNat_natCast]; exact cont_run (by omega) ⟨S.heap, S.heap.length⟩ g hcap c) ?_
  refine ow_op (by simp only [zo, unD, mkS_size, mkS_get, hw, hix, h0, Int.toNat_natCast] <;> exact rfl) ?_
  refine ow_nil ?_
  refine sk_n (by simp only [exports, zn, zg] <;> exact rfl) ?_
  refine cw_cond (by simp only [opd, zv, mkS_size, mkS_get, hw, hix, h0, Int.toNat_natCast] <;> exact rfl) (fun hcAT => ?_) (fun hcAT => ?_)
  ·
   refine cw_exit (sk_e (bk_o rfl (lk_e (bk_e (sk_n rfl (cw_seq (cw_region ?_)))))))
   refine ow_op (by simp only [zo] <;> exact rfl) ?_
   refine ow_op (by simp only [zo] <;> exact rfl) ?_
   refine ow_nil ?_
   refine sk_n (by simp only [exports, zn, zg] <;> exact rfl) ?_
   refine cw_ret ?_
   refine ⟨_, by simp only [F105, resultD, resDs, resD, List.getD_cons_zero, List.getD_cons_succ, loadD_cptr, loadD_ptr, rowsOf, partD, List.getElem?_cons_zero, List.getElem?_cons_succ, if_true, if_false, Bool.false_eq_true, List.take, List.drop, zm] <;> exact rfl, ?_⟩
   rw [← hl', rtrim_snoc, if_neg (by simpa using hcAT)]
   simp [leave, LP, snapR, snapV, snap, D.freeR, D.freeV, D.free]
  ·
   refine cw_skip (sk_n rfl (cw_region ?_))
   refine ow_op (by simp only [zo] <;> exact rfl) ?_
   refine ow_op (by simp only [zo] <;> exact rfl) ?_
   refine ow_op (by simp only [zo, lenD_str, lenD_nils, lenD_sl, lenD_msl, mkS_size, mkS_get, hw, hix, h0, Int.toNat_natCast] <;> exact rfl) ?_
   refine ow_op (by simp only [zo, binD, eq_self, ne_eq, not_false_eq_true, true_and, Int.reduceEq, ite_true, ite_false, not_true_eq_false, Int.reduceToNat, Int.reduceLT, mkS_size, mkS_get, hw, hix, h0, Int.toNat_natCast] <;> exact rfl) ?_
   refine ow_op (by simp only [opd, zv, exOp, aop, LOp.loud, Bool.false_eq_true, if_false]; rw [str_to _ (l' ++ [c]) l'.length _ rfl (by simp), List.take_left]; exact rfl) ?_
   refine ow_op (by simp only [zo] <;> exact rfl) ?_
   refine ow_nil (bk_n ?_)
   refine lk_n (by simp only [exports, zn, zg] <;> exact rfl) ?_
   exact ⟨l'.length, by simp, l', _, _, by rw [← hl', rtrim_snoc, if_pos (by simpa using hcAT)], rfl, by simp at hle; omega, rfl, rfl⟩
 ·
  obtain rfl : l' = [] := by
   cases l' with
   | nil => rfl
   | cons c l => have := of_decide_eq_false hcA; simp at this
  refine cw_exit (sk_e (lk_e (bk_e (sk_n rfl (cw_seq (cw_region ?_))))))
  refine ow_op (by simp only [zo] <;> exact rfl) ?_
  refine ow_op (by simp only [zo] <;> exact rfl) ?_
  refine ow_nil ?_
  refine sk_n (by simp only [exports, zn, zg] <;> exact rfl) ?_
  refine cw_ret ?_
  refine ⟨_, by simp only [F105, resultD, resDs, resD, List.getD_cons_zero, List.getD_cons_succ, loadD_cptr, loadD_ptr, rowsOf, partD, List.getElem?_cons_zero, List.getElem?_cons_succ, if_true, if_false, Bool.false_eq_true, List.take, List.drop, zm] <;> exact rfl, ?_⟩
  rw [← hl', show rtrim [] = [] from rfl]
  simp [leave, LP, snapR, snapV, snap, D.freeR, D.freeV, D.free]

theorem aset_run {d : Nat} (hd : 1 ≤ d) (S : St) : runF LP NN d 100 [.str ⟨#[48, 49, 50, 51, 52, 53, 54, 55, 56, 57]⟩] S = some (.tup [.agg digTab, .bool true], S, false) := by
 obtain ⟨d, rfl⟩ : ∃ d', d = d' + 1 := ⟨d - 1, by omega⟩
 kernel_rfl

theorem plain_S : (⟨#[48, 49, 50, 51, 52, 53, 54, 55, 56, 57]⟩ : ByteArray) = mkS [48, 49, 50, 51, 52, 53, 54, 55, 56, 57] := rfl
theorem trim_run {d : Nat} (hd : 4 ≤ d) (S : St) (l : List UInt8) (hl : l.length ≤ 1000000) : runF LP NN d 148 [.str (mkS l), .str ⟨#[48, 49, 50, 51, 52, 53, 54, 55, 56, 57]⟩] S = some (.str (mkS (trimD l)), S, false) := by
 refine run_pure (F := F148) rfl (by simp only [LP, fnOf, snapVs, snaps, zs, Bool.false_eq_true, if_false, Option.map_some, List.map_cons, List.map_nil] <;> exact rfl) rfl (by simp only [LP, zf, List.all_cons, List.all_nil, Bool.and_true, Bool.true_and]; try rfl) (by simp only [F148, zv] <;> exact rfl) (by omega) ?_
 rintro d rfl
 refine cw_seq (cw_region ?_)
 refine ow_op (by simp only [zo] <;> exact rfl) ?_
 refine ow_nil ?_
 refine sk_n (by simp only [exports, zn, zg] <;> exact rfl) ?_
 refine cw_seq (cw_seq (cw_region ?_))
 refine ow_op (by simp only [zo] <;> exact rfl) ?_
 refine ow_op (by simp only [zo, binD, eq_self, ne_eq, not_false_eq_true, true_and, Int.reduceEq, ite_true, ite_false, not_true_eq_false, Int.reduceToNat, Int.reduceLT, mkS_toList, nil_toList, plain_S] <;> exact rfl) ?_
 refine ow_op (by simp only [zo] <;> exact rfl) ?_
 refine ow_split 0 (by simp only [opd, zv] <;> exact rfl) (by simp only [zn] <;> exact rfl) (by simp only [zn] <;> exact rfl) (fun hg => ?_) (fun hg => ?_)
 ·
  refine ow_off (b' := true) (by simp only [opd, zv]) rfl ?_
  refine ow_off (b' := true) (by simp only [opd, zv]) rfl ?_
  refine ow_op (by simp only [zo, mkS_toList, nil_toList, plain_S] <;> exact rfl) ?_
  refine ow_nil ?_
  refine sk_n (by simp only [exports, zn, zg] <;> exact rfl) ?_
  refine cw_true (by simp only [opd, zv, mkS_toList, nil_toList, plain_S]) ?_
  refine cw_seq (cw_region ?_)
  refine ow_op (by simp only [zo] <;> exact rfl) ?_
  refine ow_op (by simp only [zo] <;> exact rfl) ?_
  refine ow_nil ?_
  refine sk_n (by simp only [exports, zn, zg] <;> exact rfl) ?_
  refine cw_ret (sk_r ?_)
  refine ⟨_, by simp only [F148, resultD, resDs, resD, List.getD_cons_zero, List.getD_cons_succ, loadD_cptr, loadD_ptr, rowsOf, partD, List.getElem?_cons_zero, List.getElem?_cons_succ, if_true, if_false, Bool.false_eq_true, List.take, List.drop, zm] <;> exact rfl, ?_⟩
  obtain rfl := (eqNil l).1 hg
  rfl
 ·
  refine ow_on (by simp only [opd, zv]) ?_
  refine ow_op (by simp only [zo] <;> exact rfl) ?_
  refine ow_on (by simp only [opd, zv]) ?_
  refine ow_op (by simp only [zo, binD, eq_self, ne_eq, not_false_eq_true, true_and, Int.reduceEq, ite_true, ite_false, not_true_eq_false, Int.reduceToNat, Int.reduceLT, mkS_toList, nil_toList, plain_S] <;> exact rfl) ?_
  refine ow_op (by simp only [zo, mkS_toList, nil_toList, plain_S] <;> exact rfl) ?_
  refine ow_nil ?_
  refine sk_n (by simp only [exports, zn, zg] <;> exact rfl) ?_
  skip
  refine cw_false (by simp only [opd, zv, mkS_toList, nil_toList, plain_S] <;> rfl) ?_
  refine cw_skip (sk_n rfl (cw_seq (cw_seq (cw_region ?_))))
  refine ow_op (by simp only [zo] <;> exact rfl) ?_
  refine ow_op (by simp only [zo, lenD_str, lenD_nils, lenD_sl, lenD_msl, mkS_toList, nil_toList, plain_S] <;> exact rfl) ?_
  refine ow_op (by simp only [zo, binD, eq_self, ne_eq, not_false_eq_true, true_and, Int.reduceEq, ite_true, ite_false, not_true_eq_false, Int.reduceToNat, Int.reduceLT, mkS_toList, nil_toList, plain_S] <;> exact rfl) ?_
  refine ow_op (by simp only [zo] <;> exact rfl) ?_
  refine ow_know 0 (b := false) (by simp only [opd, zv, mkS_toList, nil_toList, plain_S] <;> rfl) (by simp only [zn] <;> exact rfl) ?_
  refine ow_off (b' := false) (by simp only [opd, zv]) rfl ?_
  refine ow_off (b' := false) (by simp only [opd, zv]) rfl ?_
  refine ow_off (b' := false) (by simp only [opd, zv]) rfl ?_
  refine ow_op (by simp only [zo, mkS_toList, nil_toList, plain_S] <;> exact rfl) ?_
  refine ow_nil ?_
  refine sk_n (by simp only [exports, zn, zg] <;> exact rfl) ?_
  refine cw_false (by simp only [opd, zv, mkS_toList, nil_toList, plain_S]) ?_
  refine cw_skip (sk_n rfl (cw_seq (cw_seq (cw_region ?_))))
  refine ow_op (by simp only [zo] <;> exact rfl) ?_
  refine ow_op (by simp only [zo, mkS_toList, nil_toList, plain_S]; exact aset_run (by omega) _) ?_
  refine ow_op (by simp only [zo] <;> exact rfl) ?_
  refine ow_op (by simp only [zo, List.getElem?_cons_zero, List.getElem?_cons_succ, mkS_toList, nil_toList, plain_S] <;> exact rfl) ?_
  refine ow_op (by simp only [zo, List.getElem?_cons_zero, List.getElem?_cons_succ, mkS_toList, nil_toList, plain_S] <;> exact rfl) ?_
  refine ow_op (show _ = some (D.ptr 0 0 0 0, (⟨[⟨158, 256, [List.replicate 256 (.bool false)], 0, 0, false⟩], 0⟩ : St), true) by kernel_rfl) ?_
  refine ow_op (show _ = some (D.undef, (⟨[digOb], 0⟩ : St), true) by kernel_rfl) ?_
  refine ow_op (by simp only [zo] <;> exact rfl) ?_
  refine ow_nil ?_
  refine sk_n (by simp only [exports, zn, zg] <;> exact rfl) ?_
  refine cw_seq (cw_region ?_)
  refine ow_op (by simp only [zo] <;> exact rfl) ?_
  refine ow_nil ?_
  refine sk_n (by simp only [exports, zn, zg] <;> exact rfl) ?_
  skip
  refine cw_true (by simp only [opd, zv, mkS_toList, nil_toList, plain_S] <;> rfl) ?_
  refine cw_seq (cw_region ?_)
  refine ow_op (by simp only [zo] <;> exact rfl) ?_
  refine ow_op (by simp only [zo, mkS_toList, nil_toList, plain_S]; exact trimRA_run (by omega) ⟨[digOb], 0⟩ 0 rfl l hl) ?_
  refine ow_op (by simp only [zo, mkS_toList, nil_toList, plain_S]; exact trimLA_run (by omega) ⟨[digOb], 0⟩ 0 rfl (rtrim l) (by rw [rtrim, List.length_reverse]; have := (List.dropWhile_suffix isDig (l := l.reverse)).length_le; rw [List.length_reverse] at this; omega)) ?_
  refine ow_op (by simp only [zo] <;> exact rfl) ?_
  refine ow_nil ?_
  refine sk_n (by simp only [exports, zn, zg] <;> exact rfl) ?_
  refine cw_ret (sk_r ?_)
  refine ⟨_, by simp only [F148, resultD, resDs, resD, List.getD_cons_zero, List.getD_cons_succ, loadD_cptr, loadD_ptr, rowsOf, partD, List.getElem?_cons_zero, List.getElem?_cons_succ, if_true, if_false, Bool.false_eq_true, List.take, List.drop, zm] <;> exact rfl, ?_⟩
  rfl

end Go.Proofs.YtabgobmeibjeeaaGreatDoor

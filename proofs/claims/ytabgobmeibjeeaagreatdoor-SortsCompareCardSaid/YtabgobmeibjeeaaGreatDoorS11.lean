/- Proved here: what functions of the program compute, in the abstract machine; no condition. -/
import Derived.Test.YtabgobmeibjeeaaGreatDoorS10
namespace Go.Proofs.YtabgobmeibjeeaaGreatDoor
set_option linter.unusedSimpArgs false
set_option linter.unusedVariables false
set_option maxRecDepth 10000

theorem check_run {d : Nat} (hd : 17 ≤ d) (S : St) {x : D} {ks : List Ke} (hS : SlD 14 (keRows ks) x) (hne : 0 < ks.length) (h8 : ks.length ≤ 8) (size : Nat) (hs1 : 1 ≤ size) (hs : size ≤ 4096) (hk0 : ∀ k ∈ ks, KOK size k) : runF LP NN d 29 [x, .int .i64 size] S = some (.int .i64 0, S, false) := by
 have g1 : decide ((ks.length : Int) > 8) = false := decide_eq_false (by omega)
 have g2 : decide ((size : Int) > 4096) = false := decide_eq_false (by omega)
 have g3 : ((ks.length : Int) == 0) = false := by simp; exact fun h => by rw [h] at hne; simp at hne
 have g4 : decide ((size : Int) < 1) = false := decide_eq_false (by omega)
 refine run_pure (F := F29) rfl (by simp only [LP, fnOf, snapVs, snaps, zs, Bool.false_eq_true, if_false, Option.map_some, List.map_cons, List.map_nil, hS.snapV, hS.freeV] <;> exact rfl) rfl (by simp only [LP, zf, List.all_cons, List.all_nil, Bool.and_true, Bool.true_and, hS.snapV, hS.freeV]; try rfl) (by simp only [F29, zv] <;> exact rfl) (by omega) ?_
 rintro d rfl
 refine cw_seq (cw_region ?_)
 refine ow_op (by simp only [zo] <;> exact rfl) ?_
 refine ow_nil ?_
 refine sk_n (by simp only [exports, zn, zg] <;> exact rfl) ?_
 refine cw_seq (cw_block (cw_seq (cw_region ?_)))
 refine ow_op (by simp only [zo] <;> exact rfl) ?_
 refine ow_op (by simp only [zo, lenD_str, lenD_nils, lenD_sl, lenD_msl, hS.len, keRows_len, g1, g2, g3, g4, Bool.not_true] <;> exact rfl) ?_
 refine ow_op (by simp only [zo, binD, eq_self, ne_eq, not_false_eq_true, true_and, Int.reduceEq, ite_true, ite_false, not_true_eq_false, Int.reduceToNat, Int.reduceLT, hS.len, keRows_len, g1, g2, g3, g4, Bool.not_true] <;> exact rfl) ?_
 refine ow_op (by simp only [zo] <;> exact rfl) ?_
 refine ow_know 0 (b := false) (by simp only [opd, zv, hS.len, keRows_len, g1, g2, g3, g4, Bool.not_true] <;> rfl) (by simp only [zn] <;> exact rfl) ?_
 refine ow_on (by simp only [opd, zv]) ?_
 refine ow_op (by simp only [zo] <;> exact rfl) ?_
 refine ow_on (by simp only [opd, zv]) ?_
 refine ow_op (by simp only [zo, binD, eq_self, ne_eq, not_false_eq_true, true_and, Int.reduceEq, ite_true, ite_false, not_true_eq_false, Int.reduceToNat, Int.reduceLT, hS.len, keRows_len, g1, g2, g3, g4, Bool.not_true] <;> exact rfl) ?_
 refine ow_op (by simp only [zo, hS.len, keRows_len, g1, g2, g3, g4, Bool.not_true] <;> exact rfl) ?_
 refine ow_op (by simp only [zo] <;> exact rfl) ?_
 refine ow_nil ?_
 refine sk_n (by simp only [exports, zn, zg] <;> exact rfl) ?_
 skip
 refine cw_false (by simp only [opd, zv, hS.len, keRows_len, g1, g2, g3, g4, Bool.not_true] <;> rfl) ?_
 refine cw_seq (cw_region ?_)
 refine ow_op (by simp only [zo] <;> exact rfl) ?_
 refine ow_op (by simp only [zo, lenD_str, lenD_nils, lenD_sl, lenD_msl, hS.len, keRows_len, g1, g2, g3, g4, Bool.not_true] <;> exact rfl) ?_
 refine ow_op (by simp only [zo, binD, eq_self, ne_eq, not_false_eq_true, true_and, Int.reduceEq, ite_true, ite_false, not_true_eq_false, Int.reduceToNat, Int.reduceLT, hS.len, keRows_len, g1, g2, g3, g4, Bool.not_true] <;> exact rfl) ?_
 refine ow_op (by simp only [zo] <;> exact rfl) ?_
 refine ow_know 0 (b := false) (by simp only [opd, zv, hS.len, keRows_len, g1, g2, g3, g4, Bool.not_true] <;> rfl) (by simp only [zn] <;> exact rfl) ?_
 refine ow_on (by simp only [opd, zv]) ?_
 refine ow_op (by simp only [zo] <;> exact rfl) ?_
 refine ow_on (by simp only [opd, zv]) ?_
 refine ow_op (by simp only [zo, binD, eq_self, ne_eq, not_false_eq_true, true_and, Int.reduceEq, ite_true, ite_false, not_true_eq_false, Int.reduceToNat, Int.reduceLT, hS.len, keRows_len, g1, g2, g3, g4, Bool.not_true] <;> exact rfl) ?_
 refine ow_op (by simp only [zo, hS.len, keRows_len, g1, g2, g3, g4, Bool.not_true] <;> exact rfl) ?_
 refine ow_op (by simp only [zo] <;> exact rfl) ?_
 refine ow_nil ?_
 refine sk_n (by simp only [exports, zn, zg] <;> exact rfl) ?_
 skip
 refine cw_false (by simp only [opd, zv, hS.len, keRows_len, g1, g2, g3, g4, Bool.not_true] <;> rfl) ?_
 refine cw_skip (bk_n (sk_n rfl (cw_seq (cw_seq (cw_region ?_)))))
 refine ow_op (by simp only [zo] <;> exact rfl) ?_
 refine ow_op (by simp only [zo, lenD_str, lenD_nils, lenD_sl, lenD_msl, hS.len, keRows_len, g1, g2, g3, g4, Bool.not_true] <;> exact rfl) ?_
 refine ow_op (by simp only [zo] <;> exact rfl) ?_
 refine ow_nil ?_
 refine sk_n (by simp only [exports, zn, zg] <;> exact rfl) ?_
 refine cw_block ?_
 refine cw_loop (fun n env S' => ∃ (i : Nat) (H : List AObj) (u3 u4 u5 u9 u10 : D), i ≤ ks.length ∧ n = ks.length - i ∧ S' = ⟨H, 0⟩ ∧ env = [x, .int .i64 size, .int .i64 0, u3, u4, u5, x, .int .i64 ks.length, .int .i64 i, u9, u10]) (ks.length) (by omega) (⟨0, _, _, _, _, _, _, by omega, by omega, rfl, rfl⟩) ?_
 rintro n env S' ⟨i, H, u3, u4, u5, u9, u10, hi, rfl, rfl, rfl⟩
 have h0 : (0 : Int) ≤ (i : Int) := by omega
 refine cw_seq (cw_region ?_)
 refine ow_op (by simp only [zo, binD, eq_self, ne_eq, not_false_eq_true, true_and, Int.reduceEq, ite_true, ite_false, not_true_eq_false, Int.reduceToNat, Int.reduceLT, hS.len, keRows_len, g1, g2, g3, g4, Bool.not_true, h0] <;> exact rfl) ?_
 refine ow_nil ?_
 refine sk_n (by simp only [exports, zn, zg] <;> exact rfl) ?_
 refine cw_seq ?_
 refine cw_cond (by simp only [opd, zv, hS.len, keRows_len, g1, g2, g3, g4, Bool.not_true, h0] <;> exact rfl) (fun hcA => ?_) (fun hcA => ?_)
 ·
  have hlt : i < ks.length := by have := of_decide_eq_true hcA; omega
  have hw := wrap_nat i (by omega)
  obtain ⟨k, hk⟩ : ∃ k, ks[i]? = some k := ⟨_, List.getElem?_eq_getElem hlt⟩
  have hkm := List.mem_of_getElem? hk
  have hia := fun (S : St) => hS.iaddrN S .i64 (keRows_at hk)
  refine cw_skip (sk_n rfl (cw_seq (cw_block (cw_seq (cw_region ?_)))))
  refine ow_op (by simp only [zl, zm, iaddrD_sl, iaddrD_msl, Int.toNat_natCast, Int.toNat_zero, List.getElem?_map, Option.map_some, Int.le_refl, hS.len, keRows_len, g1, g2, g3, g4, Bool.not_true, h0, hw, hia] <;> exact rfl) ?_
  refine ow_op (by simp only [zl, zm, loadD_cptr, loadD_ptr, partD, List.take, List.drop, hS.len, keRows_len, g1, g2, g3, g4, Bool.not_true, h0, hw, hia] <;> exact rfl) ?_
  refine ow_op (by simp only [zl, zm, hS.len, keRows_len, g1, g2, g3, g4, Bool.not_true, h0, hw, hia] <;> exact rfl) ?_
  refine ow_op (by simp only [zl, zm, storeD, overlay, snapVs, snaps, zs, zc, zf, List.take, List.drop, hS.len, keRows_len, g1, g2, g3, g4, Bool.not_true, h0, hw, hia] <;> exact rfl) ?_
  refine ow_nil ?_
  refine sk_n (by simp only [exports, zn, zg] <;> exact rfl) ?_
  refine cw_seq (cw_region ?_)
  refine ow_op (by simp only [zl, zm, loadD_cptr, loadD_ptr, partD, List.take, List.drop, hS.len, keRows_len, g1, g2, g3, g4, Bool.not_true, h0, hw, hia] <;> exact rfl) ?_
  refine ow_op (by simp only [zo] <;> exact rfl) ?_
  refine ow_op (by simp only [zo, hS.len, keRows_len, g1, g2, g3, g4, Bool.not_true, h0, hw, hia]; exact keyV_run (by omega) _ k size hs (hk0 k hkm)) ?_
  refine ow_op (by simp only [zo, unD, hS.len, keRows_len, g1, g2, g3, g4, Bool.not_true, h0, hw, hia] <;> exact rfl) ?_
  refine ow_nil ?_
  refine sk_n (by simp only [exports, zn, zg] <;> exact rfl) ?_
  skip
  refine cw_false (by simp only [opd, zv, hS.len, keRows_len, g1, g2, g3, g4, Bool.not_true, h0, hw, hia] <;> rfl) ?_
  refine cw_skip (bk_n (sk_n rfl (cw_region ?_)))
  refine ow_op (by simp only [zo, binD, eq_self, ne_eq, not_false_eq_true, true_and, Int.reduceEq, ite_true, ite_false, not_true_eq_false, Int.reduceToNat, Int.reduceLT, hS.len, keRows_len, g1, g2, g3, g4, Bool.not_true, h0, hw, hia] <;> exact rfl) ?_
  refine ow_op (by simp only [zo] <;> exact rfl) ?_
  refine ow_nil ?_
  refine lk_n (by simp only [exports, zn, zg] <;> exact rfl) ?_
  exact ⟨ks.length - (i + 1), by omega, i + 1, _, _, _, _, _, _, by omega, rfl, rfl, rfl⟩
 ·
  have hge : ks.length ≤ i := by have := of_decide_eq_false hcA; omega
  refine cw_exit (sk_e (lk_e (bk_e (sk_n rfl (cw_seq (cw_region ?_))))))
  refine ow_op (by simp only [zo] <;> exact rfl) ?_
  refine ow_nil ?_
  refine sk_n (by simp only [exports, zn, zg] <;> exact rfl) ?_
  refine cw_ret ?_
  refine ⟨_, by simp only [F29, resultD, resDs, resD, List.getD_cons_zero, List.getD_cons_succ, loadD_cptr, loadD_ptr, rowsOf, partD, List.getElem?_cons_zero, List.getElem?_cons_succ, if_true, if_false, Bool.false_eq_true, List.take, List.drop, zm] <;> exact rfl, ?_⟩
  simp only [leaveP, leave, snapVs, snaps, zs, zf, Option.map_some, List.all_cons, List.all_nil, Bool.and_self, Bool.and_true, if_true, if_false, Bool.false_eq_true, List.length_nil, Nat.le_refl, Nat.zero_le]

end Go.Proofs.YtabgobmeibjeeaaGreatDoor

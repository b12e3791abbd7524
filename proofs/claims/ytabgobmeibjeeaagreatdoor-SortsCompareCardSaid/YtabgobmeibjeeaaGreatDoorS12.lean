/- Proved here: what functions of the program compute, in the abstract machine; no condition. -/
import Derived.Test.YtabgobmeibjeeaaGreatDoorS11
namespace Go.Proofs.YtabgobmeibjeeaaGreatDoor
set_option linter.unusedSimpArgs false
set_option linter.unusedVariables false
set_option maxRecDepth 10000

theorem valid_run {d : Nat} (hd : 15 ≤ d) (S : St) {x y : D} {ks : List Ke} {rows : List (List D)} (hS : SlD 14 (keRows ks) x) (hR : SlD 1 rows y) (h8 : ks.length ≤ 8) (hb : rows.length ≤ 1000000) (hk0 : ∀ k ∈ ks, KOK rows.length k) (hv : ∀ k ∈ ks, k.cat = 4 → ∀ (d : Nat) (S : St), 14 ≤ d → runF LP NN d 78 [.agg [.int .u8 k.cat, .int .u8 k.us, .str k.pic, .int .i64 k.dg, .int .i64 k.sc, .bool k.sg, .bool k.le, .bool k.se, .bool k.ju, .bool k.bl, .int .i64 k.sz, subD k.a k.n y]] S = some (.int .i64 0, S, false)) : runF LP NN d 44 [x, .int .i64 rows.length, y] S = some (.int .i64 0, S, false) := by
 refine run_pure (F := F44) rfl (by simp only [LP, fnOf, snapVs, snaps, zs, Bool.false_eq_true, if_false, Option.map_some, List.map_cons, List.map_nil, hS.snapV, hS.freeV, hR.snapV, hR.freeV] <;> exact rfl) rfl (by simp only [LP, zf, List.all_cons, List.all_nil, Bool.and_true, Bool.true_and, hS.snapV, hS.freeV, hR.snapV, hR.freeV]; try rfl) (by simp only [F44, zv] <;> exact rfl) (by omega) ?_
 rintro d rfl
 refine cw_seq (cw_region ?_)
 refine ow_op (by simp only [zo] <;> exact rfl) ?_
 refine ow_nil ?_
 refine sk_n (by simp only [exports, zn, zg] <;> exact rfl) ?_
 refine cw_seq (cw_seq (cw_region ?_))
 refine ow_op (by simp only [zo] <;> exact rfl) ?_
 refine ow_op (by simp only [zo, lenD_str, lenD_nils, lenD_sl, lenD_msl, hS.len, hR.len, keRows_len, bne_self_eq_false] <;> exact rfl) ?_
 refine ow_op (by simp only [zo] <;> exact rfl) ?_
 refine ow_op (by simp only [zo, binD, eq_self, ne_eq, not_false_eq_true, true_and, Int.reduceEq, ite_true, ite_false, not_true_eq_false, Int.reduceToNat, Int.reduceLT, hS.len, hR.len, keRows_len, bne_self_eq_false] <;> exact rfl) ?_
 refine ow_nil ?_
 refine sk_n (by simp only [exports, zn, zg] <;> exact rfl) ?_
 skip
 refine cw_false (by simp only [opd, zv, hS.len, hR.len, keRows_len, bne_self_eq_false] <;> rfl) ?_
 refine cw_skip (sk_n rfl (cw_seq (cw_seq (cw_region ?_))))
 refine ow_op (by simp only [zo] <;> exact rfl) ?_
 refine ow_op (by simp only [zo, lenD_str, lenD_nils, lenD_sl, lenD_msl, hS.len, hR.len, keRows_len, bne_self_eq_false] <;> exact rfl) ?_
 refine ow_op (by simp only [zo] <;> exact rfl) ?_
 refine ow_nil ?_
 refine sk_n (by simp only [exports, zn, zg] <;> exact rfl) ?_
 refine cw_block ?_
 refine cw_loop (fun n env S' => ∃ (i : Nat) (H : List AObj) (u4 u5 u9 u10 : D), i ≤ ks.length ∧ n = ks.length - i ∧ S' = ⟨H, 0⟩ ∧ env = [x, .int .i64 rows.length, y, .int .i64 0, u4, u5, x, .int .i64 ks.length, .int .i64 i, u9, u10]) (ks.length) (by omega) (⟨0, _, _, _, _, _, by omega, by omega, rfl, rfl⟩) ?_
 rintro n env S' ⟨i, H, u4, u5, u9, u10, hi, rfl, rfl, rfl⟩
 have h0 : (0 : Int) ≤ (i : Int) := by omega
 refine cw_seq (cw_region ?_)
 refine ow_op (by simp only [zo, binD, eq_self, ne_eq, not_false_eq_true, true_and, Int.reduceEq, ite_true, ite_false, not_true_eq_false, Int.reduceToNat, Int.reduceLT, hS.len, hR.len, keRows_len, bne_self_eq_false, h0] <;> exact rfl) ?_
 refine ow_nil ?_
 refine sk_n (by simp only [exports, zn, zg] <;> exact rfl) ?_
 refine cw_seq ?_
 refine cw_cond (by simp only [opd, zv, hS.len, hR.len, keRows_len, bne_self_eq_false, h0] <;> exact rfl) (fun hcA => ?_) (fun hcA => ?_)
 ·
  have hlt : i < ks.length := by have := of_decide_eq_true hcA; omega
  have hw := wrap_nat i (by omega)
  obtain ⟨k, hk⟩ : ∃ k, ks[i]? = some k := ⟨_, List.getElem?_eq_getElem hlt⟩
  have hkm := List.mem_of_getElem? hk
  have hia := fun (S : St) => hS.iaddrN S .i64 (keRows_at hk)
  refine cw_skip (sk_n rfl (cw_seq (cw_block (cw_seq (cw_region ?_)))))
  refine ow_op (by simp only [zl, zm, iaddrD_sl, iaddrD_msl, Int.toNat_natCast, Int.toNat_zero, List.getElem?_map, Option.map_some, Int.le_refl, hS.len, hR.len, keRows_len, bne_self_eq_false, h0, hw, hia] <;> exact rfl) ?_
  refine ow_op (by simp only [zl, zm, loadD_cptr, loadD_ptr, partD, List.take, List.drop, hS.len, hR.len, keRows_len, bne_self_eq_false, h0, hw, hia] <;> exact rfl) ?_
  refine ow_op (by simp only [zl, zm, hS.len, hR.len, keRows_len, bne_self_eq_false, h0, hw, hia] <;> exact rfl) ?_
  refine ow_op (by simp only [zl, zm, storeD, overlay, snapVs, snaps, zs, zc, zf, List.take, List.drop, hS.len, hR.len, keRows_len, bne_self_eq_false, h0, hw, hia] <;> exact rfl) ?_
  refine ow_nil ?_
  refine sk_n (by simp only [exports, zn, zg] <;> exact rfl) ?_
  refine cw_seq (cw_region ?_)
  refine ow_op (by simp only [zo, faddrD_ptr, faddrD_cptr, zm, hS.len, hR.len, keRows_len, bne_self_eq_false, h0, hw, hia] <;> exact rfl) ?_
  refine ow_op (by simp only [zo, faddrD_ptr, faddrD_cptr, zm, hS.len, hR.len, keRows_len, bne_self_eq_false, h0, hw, hia] <;> exact rfl) ?_
  refine ow_op (by simp only [zl, zm, loadD_cptr, loadD_ptr, partD, List.take, List.drop, hS.len, hR.len, keRows_len, bne_self_eq_false, h0, hw, hia] <;> exact rfl) ?_
  refine ow_op (by simp only [zo, binD, eq_self, ne_eq, not_false_eq_true, true_and, Int.reduceEq, ite_true, ite_false, not_true_eq_false, Int.reduceToNat, Int.reduceLT, hS.len, hR.len, keRows_len, bne_self_eq_false, h0, hw, hia] <;> exact rfl) ?_
  refine ow_op (by simp only [zo] <;> exact rfl) ?_
  refine ow_split 0 (by simp only [opd, zv] <;> exact rfl) (by simp only [zn] <;> exact rfl) (by simp only [zn] <;> exact rfl) (fun hgAT => ?_) (fun hgAT => ?_)
  ·
   refine ow_on (by simp only [opd, zv]) ?_
   refine ow_op (by simp only [zl, zm, loadD_cptr, loadD_ptr, partD, List.take, List.drop, hS.len, hR.len, keRows_len, bne_self_eq_false, h0, hw, hia, hR.isCell] <;> exact rfl) ?_
   refine ow_on (by simp only [opd, zv]) ?_
   refine ow_op (by simp only [zo] <;> exact rfl) ?_
   refine ow_on (by simp only [opd, zv]) ?_
   refine ow_op (by simp only [zo, hS.len, hR.len, keRows_len, bne_self_eq_false, h0, hw, hia, hR.isCell]; exact field_run (by omega) _ k hR (hk0 k hkm).fit hb) ?_
   refine ow_on (by simp only [opd, zv]) ?_
   refine ow_op (by simp only [zo, hS.len, hR.len, keRows_len, bne_self_eq_false, h0, hw, hia, hR.isCell]; exact hv k hkm (by simpa using hgAT) _ _ (by omega)) ?_
   refine ow_on (by simp only [opd, zv]) ?_
   refine ow_op (by simp only [zo, binD, eq_self, ne_eq, not_false_eq_true, true_and, Int.reduceEq, ite_true, ite_false, not_true_eq_false, Int.reduceToNat, Int.reduceLT, hS.len, hR.len, keRows_len, bne_self_eq_false, h0, hw, hia, hR.isCell] <;> exact rfl) ?_
   refine ow_op (by simp only [zo, hS.len, hR.len, keRows_len, bne_self_eq_false, h0, hw, hia, hR.isCell] <;> exact rfl) ?_
   refine ow_nil ?_
   refine sk_n (by simp only [exports, zn, zg] <;> exact rfl) ?_
   skip
   refine cw_false (by simp only [opd, zv, hS.len, hR.len, keRows_len, bne_self_eq_false, h0, hw, hia, hR.isCell] <;> rfl) ?_
   refine cw_skip (bk_n (sk_n rfl (cw_region ?_)))
   refine ow_op (by simp only [zo, binD, eq_self, ne_eq, not_false_eq_true, true_and, Int.reduceEq, ite_true, ite_false, not_true_eq_false, Int.reduceToNat, Int.reduceLT, hS.len, hR.len, keRows_len, bne_self_eq_false, h0, hw, hia, hR.isCell] <;> exact rfl) ?_
   refine ow_op (by simp only [zo] <;> exact rfl) ?_
   refine ow_nil ?_
   refine lk_n (by simp only [exports, zn, zg] <;> exact rfl) ?_
   exact ⟨ks.length - (i + 1), by omega, i + 1, _, _, _, _, _, by omega, rfl, rfl, rfl⟩
  ·
   refine ow_off (b' := false) (by simp only [opd, zv]) rfl ?_
   refine ow_off (b' := false) (by simp only [opd, zv]) rfl ?_
   refine ow_off (b' := false) (by simp only [opd, zv]) rfl ?_
   refine ow_off (b' := false) (by simp only [opd, zv]) rfl ?_
   refine ow_off (b' := false) (by simp only [opd, zv]) rfl ?_
   refine ow_op (by simp only [zo, hS.len, hR.len, keRows_len, bne_self_eq_false, h0, hw, hia] <;> exact rfl) ?_
   refine ow_nil ?_
   refine sk_n (by simp only [exports, zn, zg] <;> exact rfl) ?_
   refine cw_false (by simp only [opd, zv, hS.len, hR.len, keRows_len, bne_self_eq_false, h0, hw, hia]) ?_
   refine cw_skip (bk_n (sk_n rfl (cw_region ?_)))
   refine ow_op (by simp only [zo, binD, eq_self, ne_eq, not_false_eq_true, true_and, Int.reduceEq, ite_true, ite_false, not_true_eq_false, Int.reduceToNat, Int.reduceLT, hS.len, hR.len, keRows_len, bne_self_eq_false, h0, hw, hia] <;> exact rfl) ?_
   refine ow_op (by simp only [zo] <;> exact rfl) ?_
   refine ow_nil ?_
   refine lk_n (by simp only [exports, zn, zg] <;> exact rfl) ?_
   exact ⟨ks.length - (i + 1), by omega, i + 1, _, _, _, _, _, by omega, rfl, rfl, rfl⟩
 ·
  have hge : ks.length ≤ i := by have := of_decide_eq_false hcA; omega
  refine cw_exit (sk_e (lk_e (bk_e (sk_n rfl (cw_seq (cw_region ?_))))))
  refine ow_op (by simp only [zo] <;> exact rfl) ?_
  refine ow_nil ?_
  refine sk_n (by simp only [exports, zn, zg] <;> exact rfl) ?_
  refine cw_ret ?_
  refine ⟨_, by simp only [F44, resultD, resDs, resD, List.getD_cons_zero, List.getD_cons_succ, loadD_cptr, loadD_ptr, rowsOf, partD, List.getElem?_cons_zero, List.getElem?_cons_succ, if_true, if_false, Bool.false_eq_true, List.take, List.drop, zm] <;> exact rfl, ?_⟩
  simp only [leaveP, leave, snapVs, snaps, zs, zf, Option.map_some, List.all_cons, List.all_nil, Bool.and_self, Bool.and_true, if_true, if_false, Bool.false_eq_true, List.length_nil, Nat.le_refl, Nat.zero_le]

theorem Valid_run {d : Nat} (hd : 18 ≤ d) (S : St) {x y : D} {ks : List Ke} {rows : List (List D)} (hS : SlD 14 (keRows ks) x) (hR : SlD 1 rows y) (h8 : ks.length ≤ 8) (hb : rows.length ≤ 4096) (hk0 : ∀ k ∈ ks, KOK rows.length k) (hv : ∀ k ∈ ks, k.cat = 4 → ∀ (d : Nat) (S : St), 14 ≤ d → runF LP NN d 78 [.agg [.int .u8 k.cat, .int .u8 k.us, .str k.pic, .int .i64 k.dg, .int .i64 k.sc, .bool k.sg, .bool k.le, .bool k.se, .bool k.ju, .bool k.bl, .int .i64 k.sz, subD k.a k.n y]] S = some (.int .i64 0, S, false)) (hne : 0 < ks.length) (hs1 : 1 ≤ rows.length) : runF LP NN d 30 [x, .int .i64 rows.length, y] S = some (.int .i64 0, S, false) := by
 refine run_pure (F := F30) rfl (by simp only [LP, fnOf, snapVs, snaps, zs, Bool.false_eq_true, if_false, Option.map_some, List.map_cons, List.map_nil, hS.snapV, hS.freeV, hR.snapV, hR.freeV] <;> exact rfl) rfl (by simp only [LP, zf, List.all_cons, List.all_nil, Bool.and_true, Bool.true_and, hS.snapV, hS.freeV, hR.snapV, hR.freeV]; try rfl) (by simp only [F30, zv] <;> exact rfl) (by omega) ?_
 rintro d rfl
 refine cw_seq (cw_region ?_)
 refine ow_op (by simp only [zo] <;> exact rfl) ?_
 refine ow_nil ?_
 refine sk_n (by simp only [exports, zn, zg] <;> exact rfl) ?_
 refine cw_seq (cw_seq (cw_region ?_))
 refine ow_op (by simp only [zo] <;> exact rfl) ?_
 refine ow_op (by simp only [zo] <;> exact rfl) ?_
 refine ow_op (by simp only [zo]; exact check_run (by omega) _ hS hne h8 _ hs1 hb hk0) ?_
 refine ow_op (by simp only [zo] <;> exact rfl) ?_
 refine ow_nil ?_
 refine sk_n (by simp only [exports, zn, zg] <;> exact rfl) ?_
 refine cw_seq (cw_region ?_)
 refine ow_op (by simp only [zo] <;> exact rfl) ?_
 refine ow_op (by simp only [zo, binD, eq_self, ne_eq, not_false_eq_true, true_and, Int.reduceEq, ite_true, ite_false, not_true_eq_false, Int.reduceToNat, Int.reduceLT] <;> exact rfl) ?_
 refine ow_nil ?_
 refine sk_n (by simp only [exports, zn, zg] <;> exact rfl) ?_
 skip
 refine cw_false (by simp only [opd, zv] <;> rfl) ?_
 refine cw_skip (sk_n rfl (cw_seq (cw_region ?_)))
 refine ow_op (by simp only [zo] <;> exact rfl) ?_
 refine ow_op (by simp only [zo] <;> exact rfl) ?_
 refine ow_op (by simp only [zo] <;> exact rfl) ?_
 refine ow_op (by simp only [zo]; exact valid_run (by omega) _ hS hR h8 (by omega) hk0 hv) ?_
 refine ow_op (by simp only [zo] <;> exact rfl) ?_
 refine ow_nil ?_
 refine sk_n (by simp only [exports, zn, zg] <;> exact rfl) ?_
 refine cw_ret ?_
 refine ⟨_, by simp only [F30, resultD, resDs, resD, List.getD_cons_zero, List.getD_cons_succ, loadD_cptr, loadD_ptr, rowsOf, partD, List.getElem?_cons_zero, List.getElem?_cons_succ, if_true, if_false, Bool.false_eq_true, List.take, List.drop, zm] <;> exact rfl, ?_⟩
 simp only [leaveP, leave, snapVs, snaps, zs, zf, Option.map_some, List.all_cons, List.all_nil, Bool.and_self, Bool.and_true, if_true, if_false, Bool.false_eq_true, List.length_nil, Nat.le_refl, Nat.zero_le]

end Go.Proofs.YtabgobmeibjeeaaGreatDoor

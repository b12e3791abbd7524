/- Proved here: what functions of the program compute, in the abstract machine; no condition. -/
import Derived.Test.YtabgobmeibjeeaaGreatDoorS12
namespace Go.Proofs.YtabgobmeibjeeaaGreatDoor
set_option linter.unusedSimpArgs false
set_option linter.unusedVariables false
set_option maxRecDepth 10000

/-- the first key that tells -/
def firstC : List (Int × Bool) → Int
 | [] => 0
 | (c, dn) :: r => if c == 0 then firstC r else if dn then IntKind.i64.wrap (0 - c) else c

theorem compare_run {d : Nat} (hd : 15 ≤ d) (S : St) {x y z : D} {ks : List Ke} {r1 r2 : List (List D)} (hS : SlD 14 (keRows ks) x) (hR : SlD 1 r1 y) (hQ : SlD 1 r2 z) (h8 : ks.length ≤ 8) (hb1 : r1.length ≤ 1000000) (hb2 : r2.length ≤ 1000000) (hky : ∀ k ∈ ks, k.a + k.n ≤ r1.length) (hkz : ∀ k ∈ ks, k.a + k.n ≤ r2.length) (kc : Ke → Int) (hT : ∀ k ∈ ks, k.cat ≠ 4 → ∀ (d : Nat) (S : St), 3 ≤ d → runF LP NN d 53 [subD k.a k.n y, subD k.a k.n z] S = some (.int .i64 (kc k), S, false)) (hN : ∀ k ∈ ks, k.cat = 4 → ∃ (na nb : Bool) (sa sb : ByteArray), (∀ (d : Nat) (S : St), 14 ≤ d → runF LP NN d 51 [.agg [.int .u8 k.cat, .int .u8 k.us, .str k.pic, .int .i64 k.dg, .int .i64 k.sc, .bool k.sg, .bool k.le, .bool k.se, .bool k.ju, .bool k.bl, .int .i64 k.sz, subD k.a k.n y]] S = some (.tup [.agg [.bool na, .str sa, .int .i64 0], .int .i64 0], S, false)) ∧ (∀ (d : Nat) (S : St), 14 ≤ d → runF LP NN d 51 [.agg [.int .u8 k.cat, .int .u8 k.us, .str k.pic, .int .i64 k.dg, .int .i64 k.sc, .bool k.sg, .bool k.le, .bool k.se, .bool k.ju, .bool k.bl, .int .i64 k.sz, subD k.a k.n z]] S = some (.tup [.agg [.bool nb, .str sb, .int .i64 0], .int .i64 0], S, false)) ∧ (∀ (d : Nat) (S : St), 8 ≤ d → runF LP NN d 52 [.agg [.bool na, .str sa, .int .i64 0], .agg [.bool nb, .str sb, .int .i64 0]] S = some (.tup [.int .i64 (kc k), .int .i64 0], S, false))) : runF LP NN d 33 [x, y, z] S = some (.int .i64 (firstC (ks.map fun k => (kc k, k.dn))), S, false) := by
 refine run_pure (F := F33) rfl (by simp only [LP, fnOf, snapVs, snaps, zs, Bool.false_eq_true, if_false, Option.map_some, List.map_cons, List.map_nil, hS.snapV, hS.freeV, hR.snapV, hR.freeV, hQ.snapV, hQ.freeV] <;> exact rfl) rfl (by simp only [LP, zf, List.all_cons, List.all_nil, Bool.and_true, Bool.true_and, hS.snapV, hS.freeV, hR.snapV, hR.freeV, hQ.snapV, hQ.freeV]; try rfl) (by simp only [F33, zv] <;> exact rfl) (by omega) ?_
 rintro d rfl
 refine cw_seq (cw_region ?_)
 refine ow_op (by simp only [zo] <;> exact rfl) ?_
 refine ow_nil ?_
 refine sk_n (by simp only [exports, zn, zg] <;> exact rfl) ?_
 refine cw_seq (cw_skip (sk_n rfl (cw_seq (cw_seq (cw_region ?_)))))
 refine ow_op (by simp only [zo] <;> exact rfl) ?_
 refine ow_op (by simp only [zo, lenD_str, lenD_nils, lenD_sl, lenD_msl, hS.len, keRows_len, Nat.add_assoc, Nat.reduceAdd] <;> exact rfl) ?_
 refine ow_op (by simp only [zo] <;> exact rfl) ?_
 refine ow_nil ?_
 refine sk_n (by simp only [exports, zn, zg] <;> exact rfl) ?_
 refine cw_block ?_
 refine cw_loop (fun n env S' => ∃ (i : Nat) (H : List AObj) (u4 u5 u6 u7 u8 u9 u13 u14 u15 u16 : D), i ≤ ks.length ∧ n = ks.length - i ∧ firstC ((ks.drop i).map fun k => (kc k, k.dn)) = firstC (ks.map fun k => (kc k, k.dn)) ∧ S' = ⟨H, 0⟩ ∧ env = [x, y, z, .int .i64 0, u4, u5, u6, u7, u8, u9, x, .int .i64 ks.length, .int .i64 i, u13, u14, u15, u16]) (ks.length) (by omega) (⟨0, _, _, _, _, _, _, _, _, _, _, _, by omega, by omega, rfl, rfl, rfl⟩) ?_
 rintro n env S' ⟨i, H, u4, u5, u6, u7, u8, u9, u13, u14, u15, u16, hi, rfl, hF, rfl, rfl⟩
 have h0 : (0 : Int) ≤ (i : Int) := by omega
 refine cw_seq (cw_region ?_)
 refine ow_op (by simp only [zo, binD, eq_self, ne_eq, not_false_eq_true, true_and, Int.reduceEq, ite_true, ite_false, not_true_eq_false, Int.reduceToNat, Int.reduceLT, hS.len, keRows_len, Nat.add_assoc, Nat.reduceAdd, h0] <;> exact rfl) ?_
 refine ow_nil ?_
 refine sk_n (by simp only [exports, zn, zg] <;> exact rfl) ?_
 refine cw_seq ?_
 refine cw_cond (by simp only [opd, zv, hS.len, keRows_len, Nat.add_assoc, Nat.reduceAdd, h0] <;> exact rfl) (fun hcA => ?_) (fun hcA => ?_)
 ·
  have hlt : i < ks.length := by have := of_decide_eq_true hcA; omega
  have hw := wrap_nat i (by omega)
  obtain ⟨k, hk⟩ : ∃ k, ks[i]? = some k := ⟨_, List.getElem?_eq_getElem hlt⟩
  have hdr : ks.drop i = k :: ks.drop (i + 1) := by rw [List.drop_eq_getElem_cons hlt]; congr 1; exact (List.getElem?_eq_some_iff.1 hk).2
  have hkm := List.mem_of_getElem? hk
  have hia := fun (S : St) => hS.iaddrN S .i64 (keRows_at hk)
  have hsy := hR.sub k.a k.n
  have hsz := hQ.sub k.a k.n
  refine cw_skip (sk_n rfl (cw_seq (cw_block (cw_seq (cw_region ?_)))))
  refine ow_op (by simp only [zl, zm, iaddrD_sl, iaddrD_msl, Int.toNat_natCast, Int.toNat_zero, List.getElem?_map, Option.map_some, Int.le_refl, hS.len, keRows_len, Nat.add_assoc, Nat.reduceAdd, h0, hw, hia, hsy.isCell, hsz.isCell, hsy.val, hsz.val] <;> exact rfl) ?_
  refine ow_op (by simp only [zl, zm, loadD_cptr, loadD_ptr, partD, List.take, List.drop, hS.len, keRows_len, Nat.add_assoc, Nat.reduceAdd, h0, hw, hia, hsy.isCell, hsz.isCell, hsy.val, hsz.val] <;> exact rfl) ?_
  refine ow_op (by simp only [zl, zm, hS.len, keRows_len, Nat.add_assoc, Nat.reduceAdd, h0, hw, hia, hsy.isCell, hsz.isCell, hsy.val, hsz.val] <;> exact rfl) ?_
  refine ow_op (by simp only [zl, zm, storeD, overlay, snapVs, snaps, zs, zc, zf, List.take, List.drop, hS.len, keRows_len, Nat.add_assoc, Nat.reduceAdd, h0, hw, hia, hsy.isCell, hsz.isCell, hsy.val, hsz.val] <;> exact rfl) ?_
  refine ow_nil ?_
  refine sk_n (by simp only [exports, zn, zg] <;> exact rfl) ?_
  refine cw_seq ?_
  refine cw_drawn (by simp only [newsVals, List.length_nil, List.length_cons, List.range_succ, List.range_zero, List.nil_append, List.map_nil, List.reverse_nil, List.cons_append, List.map_cons, List.reverse_cons, Nat.zero_add, Nat.add_zero, Nat.reduceAdd] <;> exact rfl) (by simp only [List.map_nil, List.map_cons, newsObj, St.eta, List.append_nil, List.cons_append, List.nil_append, List.length_cons, List.length_nil] <;> exact rfl) ?_
  refine dw_op (by simp only [zl, zm, loadD_cptr, loadD_ptr, partD, List.take, List.drop, hS.len, keRows_len, Nat.add_assoc, Nat.reduceAdd, h0, hw, hia, hsy.isCell, hsz.isCell, hsy.val, hsz.val] <;> exact rfl) (by simp only [fpHere, opd, List.map_cons, List.map_nil, List.getD_cons_zero, List.getD_cons_succ, zq, hsy.plain, hsz.plain, plainV_agg, List.all_cons, List.all_nil, plain1_int, plain1_str, plain1_bool, plain1_nils, Bool.and_true, Bool.and_self, if_true] <;> exact rfl) rfl ?_
  refine dw_quiet (by simp only [zo] <;> exact rfl) rfl rfl ?_
  first
   | refine dw_op (by simp only [zo, hS.len, keRows_len, Nat.add_assoc, Nat.reduceAdd, h0, hw, hia, hsy.isCell, hsz.isCell, hsy.val, hsz.val]; exact field_run (by omega) _ k hR (hky k hkm) hb1) (by simp only [fpHere, opd, List.map_cons, List.map_nil, List.getD_cons_zero, List.getD_cons_succ, zq, hsy.plain, hsz.plain, plainV_agg, List.all_cons, List.all_nil, plain1_int, plain1_str, plain1_bool, plain1_nils, Bool.and_true, Bool.and_self, if_true] <;> exact rfl) rfl ?_
   | refine dw_op (by simp only [zo, hS.len, keRows_len, Nat.add_assoc, Nat.reduceAdd, h0, hw, hia, hsy.isCell, hsz.isCell, hsy.val, hsz.val]; exact field_run (by omega) _ k hQ (hkz k hkm) hb2) (by simp only [fpHere, opd, List.map_cons, List.map_nil, List.getD_cons_zero, List.getD_cons_succ, zq, hsy.plain, hsz.plain, plainV_agg, List.all_cons, List.all_nil, plain1_int, plain1_str, plain1_bool, plain1_nils, Bool.and_true, Bool.and_self, if_true] <;> exact rfl) rfl ?_
  refine dw_op (by simp only [zl, zm, loadD_cptr, loadD_ptr, partD, List.take, List.drop, hS.len, keRows_len, Nat.add_assoc, Nat.reduceAdd, h0, hw, hia, hsy.isCell, hsz.isCell, hsy.val, hsz.val] <;> exact rfl) (by simp only [fpHere, opd, List.map_cons, List.map_nil, List.getD_cons_zero, List.getD_cons_succ, zq, hsy.plain, hsz.plain, plainV_agg, List.all_cons, List.all_nil, plain1_int, plain1_str, plain1_bool, plain1_nils, Bool.and_true, Bool.and_self, if_true] <;> exact rfl) rfl ?_
  refine dw_quiet (by simp only [zo] <;> exact rfl) rfl rfl ?_
  first
   | refine dw_op (by simp only [zo, hS.len, keRows_len, Nat.add_assoc, Nat.reduceAdd, h0, hw, hia, hsy.isCell, hsz.isCell, hsy.val, hsz.val]; exact field_run (by omega) _ k hR (hky k hkm) hb1) (by simp only [fpHere, opd, List.map_cons, List.map_nil, List.getD_cons_zero, List.getD_cons_succ, zq, hsy.plain, hsz.plain, plainV_agg, List.all_cons, List.all_nil, plain1_int, plain1_str, plain1_bool, plain1_nils, Bool.and_true, Bool.and_self, if_true] <;> exact rfl) rfl ?_
   | refine dw_op (by simp only [zo, hS.len, keRows_len, Nat.add_assoc, Nat.reduceAdd, h0, hw, hia, hsy.isCell, hsz.isCell, hsy.val, hsz.val]; exact field_run (by omega) _ k hQ (hkz k hkm) hb2) (by simp only [fpHere, opd, List.map_cons, List.map_nil, List.getD_cons_zero, List.getD_cons_succ, zq, hsy.plain, hsz.plain, plainV_agg, List.all_cons, List.all_nil, plain1_int, plain1_str, plain1_bool, plain1_nils, Bool.and_true, Bool.and_self, if_true] <;> exact rfl) rfl ?_
  refine dw_op (by simp only [zo] <;> exact rfl) rfl rfl ?_
  refine dw_op (by simp only [zo] <;> exact rfl) rfl rfl ?_
  refine dw_op (by simp only [zl, zm, storeD, overlay, snapVs, snaps, zs, zc, zf, List.take, List.drop, hS.len, keRows_len, Nat.add_assoc, Nat.reduceAdd, h0, hw, hia, hsy.isCell, hsz.isCell, hsy.val, hsz.val] <;> exact rfl) (by simp only [fpHere, opd, List.map_cons, List.map_nil, List.getD_cons_zero, List.getD_cons_succ, zq, hsy.plain, hsz.plain, plainV_agg, List.all_cons, List.all_nil, plain1_int, plain1_str, plain1_bool, plain1_nils, Bool.and_true, Bool.and_self, if_true] <;> exact rfl) rfl ?_
  refine dw_op (by simp only [zl, zm, storeD, overlay, snapVs, snaps, zs, zc, zf, List.take, List.drop, hS.len, keRows_len, Nat.add_assoc, Nat.reduceAdd, h0, hw, hia, hsy.isCell, hsz.isCell, hsy.val, hsz.val] <;> exact rfl) (by simp only [fpHere, opd, List.map_cons, List.map_nil, List.getD_cons_zero, List.getD_cons_succ, zq, hsy.plain, hsz.plain, plainV_agg, List.all_cons, List.all_nil, plain1_int, plain1_str, plain1_bool, plain1_nils, Bool.and_true, Bool.and_self, if_true] <;> exact rfl) rfl ?_
  refine dw_nil ?_
  refine sk_n (by simp only [exports, zn, zg] <;> exact rfl) ?_
  refine cw_seq (cw_region ?_)
  refine ow_op (by simp only [zo] <;> exact rfl) ?_
  refine ow_nil ?_
  refine sk_n (by simp only [exports, zn, zg] <;> exact rfl) ?_
  refine cw_seq (cw_seq (cw_region ?_))
  refine ow_op (by simp only [zo, faddrD_ptr, faddrD_cptr, zm, hS.len, keRows_len, Nat.add_assoc, Nat.reduceAdd, h0, hw, hia, hsy.isCell, hsz.isCell, hsy.val, hsz.val] <;> exact rfl) ?_
  refine ow_op (by simp only [zo, faddrD_ptr, faddrD_cptr, zm, hS.len, keRows_len, Nat.add_assoc, Nat.reduceAdd, h0, hw, hia, hsy.isCell, hsz.isCell, hsy.val, hsz.val] <;> exact rfl) ?_
  refine ow_op (by simp only [zl, zm, loadD_cptr, loadD_ptr, partD, List.take, List.drop, hS.len, keRows_len, Nat.add_assoc, Nat.reduceAdd, h0, hw, hia, hsy.isCell, hsz.isCell, hsy.val, hsz.val] <;> exact rfl) ?_
  refine ow_op (by simp only [zo, binD, eq_self, ne_eq, not_false_eq_true, true_and, Int.reduceEq, ite_true, ite_false, not_true_eq_false, Int.reduceToNat, Int.reduceLT, hS.len, keRows_len, Nat.add_assoc, Nat.reduceAdd, h0, hw, hia, hsy.isCell, hsz.isCell, hsy.val, hsz.val] <;> exact rfl) ?_
  refine ow_nil ?_
  refine sk_n (by simp only [exports, zn, zg] <;> exact rfl) ?_
  refine cw_cond (by simp only [opd, zv, hS.len, keRows_len, Nat.add_assoc, Nat.reduceAdd, h0, hw, hia, hsy.isCell, hsz.isCell, hsy.val, hsz.val] <;> exact rfl) (fun hcAT => ?_) (fun hcAT => ?_)
  ·
   obtain ⟨na, nb, sa, sb, hga, hgb, hcm⟩ := hN k hkm (by simpa using hcAT)
   refine cw_seq (cw_region ?_)
   refine ow_op (by simp only [zl, zm, loadD_cptr, loadD_ptr, partD, List.take, List.drop, hS.len, keRows_len, Nat.add_assoc, Nat.reduceAdd, h0, hw, hia, hsy.isCell, hsz.isCell, hsy.val, hsz.val] <;> exact rfl) ?_
   first
    | refine ow_op (by simp only [zo, hS.len, keRows_len, Nat.add_assoc, Nat.reduceAdd, h0, hw, hia, hsy.isCell, hsz.isCell, hsy.val, hsz.val]; exact hga _ _ (by omega)) ?_
    | refine ow_op (by simp only [zo, hS.len, keRows_len, Nat.add_assoc, Nat.reduceAdd, h0, hw, hia, hsy.isCell, hsz.isCell, hsy.val, hsz.val]; exact hgb _ _ (by omega)) ?_
   refine ow_op (by simp only [zo] <;> exact rfl) ?_
   refine ow_op (by simp only [zo, List.getElem?_cons_zero, List.getElem?_cons_succ, hS.len, keRows_len, Nat.add_assoc, Nat.reduceAdd, h0, hw, hia, hsy.isCell, hsz.isCell, hsy.val, hsz.val] <;> exact rfl) ?_
   refine ow_op (by simp only [zo, List.getElem?_cons_zero, List.getElem?_cons_succ, hS.len, keRows_len, Nat.add_assoc, Nat.reduceAdd, h0, hw, hia, hsy.isCell, hsz.isCell, hsy.val, hsz.val] <;> exact rfl) ?_
   refine ow_op (by simp only [zl, zm, hS.len, keRows_len, Nat.add_assoc, Nat.reduceAdd, h0, hw, hia, hsy.isCell, hsz.isCell, hsy.val, hsz.val] <;> exact rfl) ?_
   refine ow_op (by simp only [zl, zm, storeD, overlay, snapVs, snaps, zs, zc, zf, List.take, List.drop, hS.len, keRows_len, Nat.add_assoc, Nat.reduceAdd, h0, hw, hia, hsy.isCell, hsz.isCell, hsy.val, hsz.val] <;> exact rfl) ?_
   refine ow_op (by simp only [zo] <;> exact rfl) ?_
   refine ow_nil ?_
   refine sk_n (by simp only [exports, zn, zg] <;> exact rfl) ?_
   refine cw_seq (cw_region ?_)
   refine ow_op (by simp only [zl, zm, loadD_cptr, loadD_ptr, partD, List.take, List.drop, hS.len, keRows_len, Nat.add_assoc, Nat.reduceAdd, h0, hw, hia, hsy.isCell, hsz.isCell, hsy.val, hsz.val] <;> exact rfl) ?_
   first
    | refine ow_op (by simp only [zo, hS.len, keRows_len, Nat.add_assoc, Nat.reduceAdd, h0, hw, hia, hsy.isCell, hsz.isCell, hsy.val, hsz.val]; exact hga _ _ (by omega)) ?_
    | refine ow_op (by simp only [zo, hS.len, keRows_len, Nat.add_assoc, Nat.reduceAdd, h0, hw, hia, hsy.isCell, hsz.isCell, hsy.val, hsz.val]; exact hgb _ _ (by omega)) ?_
   refine ow_op (by simp only [zo] <;> exact rfl) ?_
   refine ow_op (by simp only [zo, List.getElem?_cons_zero, List.getElem?_cons_succ, hS.len, keRows_len, Nat.add_assoc, Nat.reduceAdd, h0, hw, hia, hsy.isCell, hsz.isCell, hsy.val, hsz.val] <;> exact rfl) ?_
   refine ow_op (by simp only [zo, List.getElem?_cons_zero, List.getElem?_cons_succ, hS.len, keRows_len, Nat.add_assoc, Nat.reduceAdd, h0, hw, hia, hsy.isCell, hsz.isCell, hsy.val, hsz.val] <;> exact rfl) ?_
   refine ow_op (by simp only [zl, zm, hS.len, keRows_len, Nat.add_assoc, Nat.reduceAdd, h0, hw, hia, hsy.isCell, hsz.isCell, hsy.val, hsz.val] <;> exact rfl) ?_
   refine ow_op (by simp only [zl, zm, storeD, overlay, snapVs, snaps, zs, zc, zf, List.take, List.drop, hS.len, keRows_len, Nat.add_assoc, Nat.reduceAdd, h0, hw, hia, hsy.isCell, hsz.isCell, hsy.val, hsz.val] <;> exact rfl) ?_
   refine ow_op (by simp only [zo] <;> exact rfl) ?_
   refine ow_nil ?_
   refine sk_n (by simp only [exports, zn, zg] <;> exact rfl) ?_
   refine cw_region ?_
   refine ow_op (by simp only [zl, zm, loadD_cptr, loadD_ptr, partD, List.take, List.drop, hS.len, keRows_len, Nat.add_assoc, Nat.reduceAdd, h0, hw, hia, hsy.isCell, hsz.isCell, hsy.val, hsz.val] <;> exact rfl) ?_
   refine ow_op (by simp only [zl, zm, loadD_cptr, loadD_ptr, partD, List.take, List.drop, hS.len, keRows_len, Nat.add_assoc, Nat.reduceAdd, h0, hw, hia, hsy.isCell, hsz.isCell, hsy.val, hsz.val] <;> exact rfl) ?_
   refine ow_op (by simp only [zo, hS.len, keRows_len, Nat.add_assoc, Nat.reduceAdd, h0, hw, hia, hsy.isCell, hsz.isCell, hsy.val, hsz.val]; exact hcm _ _ (by omega)) ?_
   refine ow_op (by simp only [zo] <;> exact rfl) ?_
   refine ow_op (by simp only [zo, List.getElem?_cons_zero, List.getElem?_cons_succ, hS.len, keRows_len, Nat.add_assoc, Nat.reduceAdd, h0, hw, hia, hsy.isCell, hsz.isCell, hsy.val, hsz.val] <;> exact rfl) ?_
   refine ow_op (by simp only [zo, List.getElem?_cons_zero, List.getElem?_cons_succ, hS.len, keRows_len, Nat.add_assoc, Nat.reduceAdd, h0, hw, hia, hsy.isCell, hsz.isCell, hsy.val, hsz.val] <;> exact rfl) ?_
   refine ow_op (by simp only [zo] <;> exact rfl) ?_
   refine ow_nil ?_
   refine sk_n (by simp only [exports, zn, zg] <;> exact rfl) ?_
   refine cw_seq (cw_block (cw_seq (cw_region ?_)))
   refine ow_op (by simp only [zo] <;> exact rfl) ?_
   refine ow_op (by simp only [zo, binD, eq_self, ne_eq, not_false_eq_true, true_and, Int.reduceEq, ite_true, ite_false, not_true_eq_false, Int.reduceToNat, Int.reduceLT, hS.len, keRows_len, Nat.add_assoc, Nat.reduceAdd, h0, hw, hia, hsy.isCell, hsz.isCell, hsy.val, hsz.val] <;> exact rfl) ?_
   refine ow_op (by simp only [zo] <;> exact rfl) ?_
   refine ow_nil ?_
   refine sk_n (by simp only [exports, zn, zg] <;> exact rfl) ?_
   refine cw_cond (by simp only [opd, zv, hS.len, keRows_len, Nat.add_assoc, Nat.reduceAdd, h0, hw, hia, hsy.isCell, hsz.isCell, hsy.val, hsz.val] <;> exact rfl) (fun hcATT => ?_) (fun hcATT => ?_)
   ·
    have hz := hcATT
    refine cw_exit (bk_o rfl (sk_e (bk_e (sk_n rfl (cw_region ?_)))))
    refine ow_op (by simp only [zo, binD, eq_self, ne_eq, not_false_eq_true, true_and, Int.reduceEq, ite_true, ite_false, not_true_eq_false, Int.reduceToNat, Int.reduceLT, hS.len, keRows_len, Nat.add_assoc, Nat.reduceAdd, h0, hw, hia, hsy.isCell, hsz.isCell, hsy.val, hsz.val] <;> exact rfl) ?_
    refine ow_op (by simp only [zo] <;> exact rfl) ?_
    refine ow_nil ?_
    refine lk_n (by simp only [exports, zn, zg] <;> exact rfl) ?_
    exact ⟨ks.length - (i + 1), by omega, i + 1, _, _, _, _, _, _, _, _, _, _, _, by omega, rfl, by rw [← hF, hdr, List.map_cons, firstC, if_pos (by simpa using hz)], rfl, rfl⟩
   ·
    refine cw_seq (cw_region ?_)
    refine ow_op (by simp only [zo, faddrD_ptr, faddrD_cptr, zm, hS.len, keRows_len, Nat.add_assoc, Nat.reduceAdd, h0, hw, hia, hsy.isCell, hsz.isCell, hsy.val, hsz.val] <;> exact rfl) ?_
    refine ow_op (by simp only [zl, zm, loadD_cptr, loadD_ptr, partD, List.take, List.drop, hS.len, keRows_len, Nat.add_assoc, Nat.reduceAdd, h0, hw, hia, hsy.isCell, hsz.isCell, hsy.val, hsz.val] <;> exact rfl) ?_
    refine ow_op (by simp only [zo] <;> exact rfl) ?_
    refine ow_nil ?_
    refine sk_n (by simp only [exports, zn, zg] <;> exact rfl) ?_
    refine cw_cond (by simp only [opd, zv, hS.len, keRows_len, Nat.add_assoc, Nat.reduceAdd, h0, hw, hia, hsy.isCell, hsz.isCell, hsy.val, hsz.val] <;> exact rfl) (fun hcATTF => ?_) (fun hcATTF => ?_)
    ·
     refine cw_seq (cw_region ?_)
     refine ow_op (by simp only [zo] <;> exact rfl) ?_
     refine ow_op (by simp only [zo, unD, hS.len, keRows_len, Nat.add_assoc, Nat.reduceAdd, h0, hw, hia, hsy.isCell, hsz.isCell, hsy.val, hsz.val] <;> exact rfl) ?_
     refine ow_op (by simp only [zo] <;> exact rfl) ?_
     refine ow_nil ?_
     refine sk_n (by simp only [exports, zn, zg] <;> exact rfl) ?_
     refine cw_ret (bk_r (sk_r (bk_r (sk_r (lk_r (bk_r (sk_r ?_)))))))
     refine ⟨_, by simp only [F33, resultD, resDs, resD, List.getD_cons_zero, List.getD_cons_succ, loadD_cptr, loadD_ptr, rowsOf, partD, List.getElem?_cons_zero, List.getElem?_cons_succ, if_true, if_false, Bool.false_eq_true, List.take, List.drop, zm] <;> exact rfl, ?_⟩
     rw [← hF, hdr, List.map_cons, firstC, if_neg (by simpa using hcATT), if_pos hcATTF]
     simp only [leaveP, leave, snapVs, snaps, zs, zf, Option.map_some, List.all_cons, List.all_nil, Bool.and_self, Bool.and_true, if_true, if_false, Bool.false_eq_true, List.length_nil, Nat.le_refl, Nat.zero_le]
    ·
     refine cw_skip (bk_n (sk_n rfl (cw_seq (cw_region ?_))))
     refine ow_op (by simp only [zo] <;> exact rfl) ?_
     refine ow_op (by simp only [zo] <;> exact rfl) ?_
     refine ow_nil ?_
     refine sk_n (by simp only [exports, zn, zg] <;> exact rfl) ?_
     refine cw_ret (bk_r (sk_r (lk_r (bk_r (sk_r ?_)))))
     refine ⟨_, by simp only [F33, resultD, resDs, resD, List.getD_cons_zero, List.getD_cons_succ, loadD_cptr, loadD_ptr, rowsOf, partD, List.getElem?_cons_zero, List.getElem?_cons_succ, if_true, if_false, Bool.false_eq_true, List.take, List.drop, zm] <;> exact rfl, ?_⟩
     rw [← hF, hdr, List.map_cons, firstC, if_neg (by simpa using hcATT), if_neg (by simpa using hcATTF)]
     simp only [leaveP, leave, snapVs, snaps, zs, zf, Option.map_some, List.all_cons, List.all_nil, Bool.and_self, Bool.and_true, if_true, if_false, Bool.false_eq_true, List.length_nil, Nat.le_refl, Nat.zero_le]
  ·
   refine cw_region ?_
   refine ow_op (by simp only [zo, faddrD_ptr, faddrD_cptr, zm, hS.len, keRows_len, Nat.add_assoc, Nat.reduceAdd, h0, hw, hia, hsy.isCell, hsz.isCell, hsy.val, hsz.val] <;> exact rfl) ?_
   refine ow_op (by simp only [zl, zm, loadD_cptr, loadD_ptr, partD, List.take, List.drop, hS.len, keRows_len, Nat.add_assoc, Nat.reduceAdd, h0, hw, hia, hsy.isCell, hsz.isCell, hsy.val, hsz.val] <;> exact rfl) ?_
   refine ow_op (by simp only [zo, faddrD_ptr, faddrD_cptr, zm, hS.len, keRows_len, Nat.add_assoc, Nat.reduceAdd, h0, hw, hia, hsy.isCell, hsz.isCell, hsy.val, hsz.val] <;> exact rfl) ?_
   refine ow_op (by simp only [zl, zm, loadD_cptr, loadD_ptr, partD, List.take, List.drop, hS.len, keRows_len, Nat.add_assoc, Nat.reduceAdd, h0, hw, hia, hsy.isCell, hsz.isCell, hsy.val, hsz.val] <;> exact rfl) ?_
   refine ow_op (by simp only [zo, hS.len, keRows_len, Nat.add_assoc, Nat.reduceAdd, h0, hw, hia, hsy.isCell, hsz.isCell, hsy.val, hsz.val]; exact hT k hkm (by simpa using hcAT) _ _ (by omega)) ?_
   refine ow_op (by simp only [zo] <;> exact rfl) ?_
   refine ow_nil ?_
   refine sk_n (by simp only [exports, zn, zg] <;> exact rfl) ?_
   refine cw_seq (cw_block (cw_seq (cw_region ?_)))
   refine ow_op (by simp only [zo] <;> exact rfl) ?_
   refine ow_op (by simp only [zo, binD, eq_self, ne_eq, not_false_eq_true, true_and, Int.reduceEq, ite_true, ite_false, not_true_eq_false, Int.reduceToNat, Int.reduceLT, hS.len, keRows_len, Nat.add_assoc, Nat.reduceAdd, h0, hw, hia, hsy.isCell, hsz.isCell, hsy.val, hsz.val] <;> exact rfl) ?_
   refine ow_op (by simp only [zo] <;> exact rfl) ?_
   refine ow_nil ?_
   refine sk_n (by simp only [exports, zn, zg] <;> exact rfl) ?_
   refine cw_cond (by simp only [opd, zv, hS.len, keRows_len, Nat.add_assoc, Nat.reduceAdd, h0, hw, hia, hsy.isCell, hsz.isCell, hsy.val, hsz.val] <;> exact rfl) (fun hcATF => ?_) (fun hcATF => ?_)
   ·
    have hz := hcATF
    refine cw_exit (bk_o rfl (sk_e (bk_e (sk_n rfl (cw_region ?_)))))
    refine ow_op (by simp only [zo, binD, eq_self, ne_eq, not_false_eq_true, true_and, Int.reduceEq, ite_true, ite_false, not_true_eq_false, Int.reduceToNat, Int.reduceLT, hS.len, keRows_len, Nat.add_assoc, Nat.reduceAdd, h0, hw, hia, hsy.isCell, hsz.isCell, hsy.val, hsz.val] <;> exact rfl) ?_
    refine ow_op (by simp only [zo] <;> exact rfl) ?_
    refine ow_nil ?_
    refine lk_n (by simp only [exports, zn, zg] <;> exact rfl) ?_
    exact ⟨ks.length - (i + 1), by omega, i + 1, _, _, _, _, _, _, _, _, _, _, _, by omega, rfl, by rw [← hF, hdr, List.map_cons, firstC, if_pos (by simpa using hz)], rfl, rfl⟩
   ·
    refine cw_seq (cw_region ?_)
    refine ow_op (by simp only [zo, faddrD_ptr, faddrD_cptr, zm, hS.len, keRows_len, Nat.add_assoc, Nat.reduceAdd, h0, hw, hia, hsy.isCell, hsz.isCell, hsy.val, hsz.val] <;> exact rfl) ?_
    refine ow_op (by simp only [zl, zm, loadD_cptr, loadD_ptr, partD, List.take, List.drop, hS.len, keRows_len, Nat.add_assoc, Nat.reduceAdd, h0, hw, hia, hsy.isCell, hsz.isCell, hsy.val, hsz.val] <;> exact rfl) ?_
    refine ow_op (by simp only [zo] <;> exact rfl) ?_
    refine ow_nil ?_
    refine sk_n (by simp only [exports, zn, zg] <;> exact rfl) ?_
    refine cw_cond (by simp only [opd, zv, hS.len, keRows_len, Nat.add_assoc, Nat.reduceAdd, h0, hw, hia, hsy.isCell, hsz.isCell, hsy.val, hsz.val] <;> exact rfl) (fun hcATFF => ?_) (fun hcATFF => ?_)
    ·
     refine cw_seq (cw_region ?_)
     refine ow_op (by simp only [zo] <;> exact rfl) ?_
     refine ow_op (by simp only [zo, unD, hS.len, keRows_len, Nat.add_assoc, Nat.reduceAdd, h0, hw, hia, hsy.isCell, hsz.isCell, hsy.val, hsz.val] <;> exact rfl) ?_
     refine ow_op (by simp only [zo] <;> exact rfl) ?_
     refine ow_nil ?_
     refine sk_n (by simp only [exports, zn, zg] <;> exact rfl) ?_
     refine cw_ret (bk_r (sk_r (bk_r (sk_r (lk_r (bk_r (sk_r ?_)))))))
     refine ⟨_, by simp only [F33, resultD, resDs, resD, List.getD_cons_zero, List.getD_cons_succ, loadD_cptr, loadD_ptr, rowsOf, partD, List.getElem?_cons_zero, List.getElem?_cons_succ, if_true, if_false, Bool.false_eq_true, List.take, List.drop, zm] <;> exact rfl, ?_⟩
     rw [← hF, hdr, List.map_cons, firstC, if_neg (by simpa using hcATF), if_pos hcATFF]
     simp only [leaveP, leave, snapVs, snaps, zs, zf, Option.map_some, List.all_cons, List.all_nil, Bool.and_self, Bool.and_true, if_true, if_false, Bool.false_eq_true, List.length_nil, Nat.le_refl, Nat.zero_le]
    ·
     refine cw_skip (bk_n (sk_n rfl (cw_seq (cw_region ?_))))
     refine ow_op (by simp only [zo] <;> exact rfl) ?_
     refine ow_op (by simp only [zo] <;> exact rfl) ?_
     refine ow_nil ?_
     refine sk_n (by simp only [exports, zn, zg] <;> exact rfl) ?_
     refine cw_ret (bk_r (sk_r (lk_r (bk_r (sk_r ?_)))))
     refine ⟨_, by simp only [F33, resultD, resDs, resD, List.getD_cons_zero, List.getD_cons_succ, loadD_cptr, loadD_ptr, rowsOf, partD, List.getElem?_cons_zero, List.getElem?_cons_succ, if_true, if_false, Bool.false_eq_true, List.take, List.drop, zm] <;> exact rfl, ?_⟩
     rw [← hF, hdr, List.map_cons, firstC, if_neg (by simpa using hcATF), if_neg (by simpa using hcATFF)]
     simp only [leaveP, leave, snapVs, snaps, zs, zf, Option.map_some, List.all_cons, List.all_nil, Bool.and_self, Bool.and_true, if_true, if_false, Bool.false_eq_true, List.length_nil, Nat.le_refl, Nat.zero_le]
 ·
  have hge : ks.length ≤ i := by have := of_decide_eq_false hcA; omega
  refine cw_exit (sk_e (lk_e (bk_e (sk_n rfl (cw_seq (cw_region ?_))))))
  refine ow_op (by simp only [zo] <;> exact rfl) ?_
  refine ow_nil ?_
  refine sk_n (by simp only [exports, zn, zg] <;> exact rfl) ?_
  refine cw_ret ?_
  refine ⟨_, by simp only [F33, resultD, resDs, resD, List.getD_cons_zero, List.getD_cons_succ, loadD_cptr, loadD_ptr, rowsOf, partD, List.getElem?_cons_zero, List.getElem?_cons_succ, if_true, if_false, Bool.false_eq_true, List.take, List.drop, zm] <;> exact rfl, ?_⟩
  rw [← hF, List.drop_eq_nil_of_le hge, List.map_nil, firstC]
  simp only [leaveP, leave, snapVs, snaps, zs, zf, Option.map_some, List.all_cons, List.all_nil, Bool.and_self, Bool.and_true, if_true, if_false, Bool.false_eq_true, List.length_nil, Nat.le_refl, Nat.zero_le]

end Go.Proofs.YtabgobmeibjeeaaGreatDoor

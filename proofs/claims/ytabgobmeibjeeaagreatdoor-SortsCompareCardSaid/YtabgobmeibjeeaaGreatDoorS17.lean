/- Proved here: what functions of the program compute, in the abstract machine; no condition. -/
import Derived.Test.YtabgobmeibjeeaaGreatDoorS16
namespace Go.Proofs.YtabgobmeibjeeaaGreatDoor
set_option linter.unusedSimpArgs false
set_option linter.unusedVariables false
set_option maxRecDepth 10000

theorem cmpT_at {l m : List UInt8} {j e : Nat} {b c : UInt8} (hb : l[j]? = some b) (hc : m[j]? = some c) (h : j < e) : cmpT ((l.drop j).take (e - j)) ((m.drop j).take (e - j)) = if cmpI b.toNat c.toNat != 0 then cmpI b.toNat c.toNat else cmpT ((l.drop (j + 1)).take (e - (j + 1))) ((m.drop (j + 1)).take (e - (j + 1))) := by
 obtain ⟨h1, rfl⟩ := List.getElem?_eq_some_iff.1 hb
 obtain ⟨h2, rfl⟩ := List.getElem?_eq_some_iff.1 hc
 rw [List.drop_eq_getElem_cons h1, List.drop_eq_getElem_cons h2, show e - j = e - (j + 1) + 1 by omega, List.take_succ_cons, List.take_succ_cons, cmpT]

theorem ord_val {b c : UInt8} {dn : Bool} (hne : b.toNat ≠ c.toNat) (rest : Int) : (if cmpI b.toNat c.toNat == 0 then rest else if dn then IntKind.i64.wrap (0 - cmpI b.toNat c.toNat) else cmpI b.toNat c.toNat) = if ((decide ((b.toNat : Int) < (c.toNat : Int)) == dn) != true) = true then -1 else 1 := by
 rcases Nat.lt_or_gt_of_ne hne with h | h
 ·
  have e1 : cmpI b.toNat c.toNat = -1 := by rw [cmpI, if_pos (by omega)]
  have e2 : decide ((b.toNat : Int) < (c.toNat : Int)) = true := decide_eq_true (by omega)
  rw [e1, e2]; cases dn <;> rfl
 ·
  have e1 : cmpI b.toNat c.toNat = 1 := by rw [cmpI, if_neg (by omega), if_pos (by omega)]
  have e2 : decide ((b.toNat : Int) < (c.toNat : Int)) = false := decide_eq_false (by omega)
  rw [e1, e2]; cases dn <;> rfl

theorem order_run {d : Nat} (hd : 1 ≤ d) (S : St) {x y z : D} {ks : List Ke} {l m : List UInt8} (hS : SlD 14 (keRows ks) x) (hR : SlD 1 (bR l) y) (hQ : SlD 1 (bR m) z) (h8 : ks.length ≤ 8) (hb : l.length ≤ 4096) (hlm : m.length = l.length) (hky : ∀ k ∈ ks, k.a + k.n ≤ l.length) : runF LP NN d 17 [x, y, z] S = some (.int .i64 (firstC (ks.map fun k => (cmpT (k.sub l) (k.sub m), k.dn))), S, false) := by
 refine run_pure (F := F17) rfl (by simp only [LP, fnOf, snapVs, snaps, zs, Bool.false_eq_true, if_false, Option.map_some, List.map_cons, List.map_nil, hS.snapV, hS.freeV, hR.snapV, hR.freeV, hQ.snapV, hQ.freeV] <;> exact rfl) rfl (by simp only [LP, zf, List.all_cons, List.all_nil, Bool.and_true, Bool.true_and, hS.snapV, hS.freeV, hR.snapV, hR.freeV, hQ.snapV, hQ.freeV]; try rfl) (by simp only [F17, zv] <;> exact rfl) (by omega) ?_
 rintro d rfl
 refine cw_seq (cw_region ?_)
 refine ow_op (by simp only [zo] <;> exact rfl) ?_
 refine ow_nil ?_
 refine sk_n (by simp only [exports, zn, zg] <;> exact rfl) ?_
 refine cw_seq (cw_seq (cw_region ?_))
 refine ow_op (by simp only [zo] <;> exact rfl) ?_
 refine ow_nil ?_
 refine sk_n (by simp only [exports, zn, zg] <;> exact rfl) ?_
 refine cw_block ?_
 refine cw_loop (fun n env S' => ∃ (i : Nat) (H : List AObj) (u5 u6 u7 u8 u9 u10 : D), i ≤ ks.length ∧ n = ks.length - i ∧ firstC ((ks.drop i).map fun k => (cmpT (k.sub l) (k.sub m), k.dn)) = firstC (ks.map fun k => (cmpT (k.sub l) (k.sub m), k.dn)) ∧ S' = ⟨H, 0⟩ ∧ env = [x, y, z, .int .i64 0, .int .i64 i, u5, u6, u7, u8, u9, u10]) (ks.length) (by omega) (⟨0, _, _, _, _, _, _, _, by omega, by omega, rfl, rfl, rfl⟩) ?_
 rintro n env S' ⟨i, H, u5, u6, u7, u8, u9, u10, hi, rfl, hF, rfl, rfl⟩
 have h0 : (0 : Int) ≤ (i : Int) := by omega
 refine cw_seq (cw_seq (cw_region ?_))
 refine ow_op (by simp only [zo] <;> exact rfl) ?_
 refine ow_op (by simp only [zo] <;> exact rfl) ?_
 refine ow_op (by simp only [zo, lenD_str, lenD_nils, lenD_sl, lenD_msl, hS.len, keRows_len, h0] <;> exact rfl) ?_
 refine ow_op (by simp only [zo, binD, eq_self, ne_eq, not_false_eq_true, true_and, Int.reduceEq, ite_true, ite_false, not_true_eq_false, Int.reduceToNat, Int.reduceLT, hS.len, keRows_len, h0] <;> exact rfl) ?_
 refine ow_nil ?_
 refine sk_n (by simp only [exports, zn, zg] <;> exact rfl) ?_
 refine cw_cond (by simp only [opd, zv, hS.len, keRows_len, h0] <;> exact rfl) (fun hcA => ?_) (fun hcA => ?_)
 ·
  have hlt : i < ks.length := by have := of_decide_eq_true hcA; omega
  have hw := wrap_nat i (by omega)
  obtain ⟨k, hk⟩ : ∃ k, ks[i]? = some k := ⟨_, List.getElem?_eq_getElem hlt⟩
  have hdr : ks.drop i = k :: ks.drop (i + 1) := by rw [List.drop_eq_getElem_cons hlt]; congr 1; exact (List.getElem?_eq_some_iff.1 hk).2
  have hkm := List.mem_of_getElem? hk
  have hfit := hky k hkm
  have hia := fun (S : St) => hS.iaddrN S .i64 (keRows_at hk)
  have hwk : IntKind.i64.wrap ((k.a : Int) + (k.n : Int)) = ((k.a + k.n : Nat) : Int) := by rw [IntKind.wrap_i64]; omega
  refine cw_skip (sk_n rfl (cw_seq (cw_block (cw_seq (cw_region ?_)))))
  refine ow_op (by simp only [zo] <;> exact rfl) ?_
  refine ow_op (by simp only [zo] <;> exact rfl) ?_
  refine ow_op (by simp only [zl, zm, iaddrD_sl, iaddrD_msl, Int.toNat_natCast, Int.toNat_zero, List.getElem?_map, Option.map_some, Int.le_refl, hS.len, keRows_len, h0, hw, hia, hwk] <;> exact rfl) ?_
  refine ow_op (by simp only [zl, zm, loadD_cptr, loadD_ptr, partD, List.take, List.drop, hS.len, keRows_len, h0, hw, hia, hwk] <;> exact rfl) ?_
  refine ow_op (by simp only [zl, zm, hS.len, keRows_len, h0, hw, hia, hwk] <;> exact rfl) ?_
  refine ow_op (by simp only [zl, zm, storeD, overlay, snapVs, snaps, zs, zc, zf, List.take, List.drop, hS.len, keRows_len, h0, hw, hia, hwk] <;> exact rfl) ?_
  refine ow_nil ?_
  refine sk_n (by simp only [exports, zn, zg] <;> exact rfl) ?_
  refine cw_seq (cw_region ?_)
  refine ow_op (by simp only [zo, faddrD_ptr, faddrD_cptr, zm, hS.len, keRows_len, h0, hw, hia, hwk] <;> exact rfl) ?_
  refine ow_op (by simp only [zo, faddrD_ptr, faddrD_cptr, zm, hS.len, keRows_len, h0, hw, hia, hwk] <;> exact rfl) ?_
  refine ow_op (by simp only [zl, zm, loadD_cptr, loadD_ptr, partD, List.take, List.drop, hS.len, keRows_len, h0, hw, hia, hwk] <;> exact rfl) ?_
  refine ow_op (by simp only [zo] <;> exact rfl) ?_
  refine ow_nil ?_
  refine sk_n (by simp only [exports, zn, zg] <;> exact rfl) ?_
  refine cw_block ?_
  refine cw_loop (fun n env S' => ∃ (j : Nat) (v7 v8 v9 v10 : D), k.a ≤ j ∧ j ≤ k.a + k.n ∧ n = k.a + k.n - j ∧ cmpT ((l.drop j).take (k.a + k.n - j)) ((m.drop j).take (k.a + k.n - j)) = cmpT (k.sub l) (k.sub m) ∧ S' = ⟨H ++ [⟨59, 14, [[.int .i64 k.a, .int .i64 k.n, .int .u8 k.cat, .int .u8 k.us, .str k.pic, .int .i64 k.dg, .int .i64 k.sc, .bool k.sg, .bool k.le, .bool k.se, .bool k.ju, .bool k.bl, .int .i64 k.sz, .bool k.dn]], 0, 0, false⟩], 0⟩ ∧ env = [x, y, z, .int .i64 0, .int .i64 i, .ptr H.length 0 0 0, .int .i64 j, v7, v8, v9, v10]) (k.n) (by omega) (⟨k.a, _, _, _, _, by omega, by omega, by omega, by rw [Nat.add_sub_cancel_left]; rfl, rfl, rfl⟩) ?_
  rintro n env S' ⟨j, v7, v8, v9, v10, hj1, hj2, rfl, hJ, rfl, rfl⟩
  have hj0 : (0 : Int) ≤ (j : Int) := by omega
  refine cw_seq (cw_seq (cw_region ?_))
  refine ow_op (by simp only [zo] <;> exact rfl) ?_
  refine ow_op (by simp only [zo, faddrD_ptr, faddrD_cptr, zm, hS.len, keRows_len, h0, hw, hia, hwk, hj0] <;> exact rfl) ?_
  refine ow_op (by simp only [zo, faddrD_ptr, faddrD_cptr, zm, hS.len, keRows_len, h0, hw, hia, hwk, hj0] <;> exact rfl) ?_
  refine ow_op (by simp only [zl, zm, loadD_cptr, loadD_ptr, partD, List.take, List.drop, hS.len, keRows_len, h0, hw, hia, hwk, hj0] <;> exact rfl) ?_
  refine ow_op (by simp only [zo, faddrD_ptr, faddrD_cptr, zm, hS.len, keRows_len, h0, hw, hia, hwk, hj0] <;> exact rfl) ?_
  refine ow_op (by simp only [zo, faddrD_ptr, faddrD_cptr, zm, hS.len, keRows_len, h0, hw, hia, hwk, hj0] <;> exact rfl) ?_
  refine ow_op (by simp only [zl, zm, loadD_cptr, loadD_ptr, partD, List.take, List.drop, hS.len, keRows_len, h0, hw, hia, hwk, hj0] <;> exact rfl) ?_
  refine ow_op (by simp only [zo, binD, eq_self, ne_eq, not_false_eq_true, true_and, Int.reduceEq, ite_true, ite_false, not_true_eq_false, Int.reduceToNat, Int.reduceLT, hS.len, keRows_len, h0, hw, hia, hwk, hj0] <;> exact rfl) ?_
  refine ow_op (by simp only [zo, binD, eq_self, ne_eq, not_false_eq_true, true_and, Int.reduceEq, ite_true, ite_false, not_true_eq_false, Int.reduceToNat, Int.reduceLT, hS.len, keRows_len, h0, hw, hia, hwk, hj0] <;> exact rfl) ?_
  refine ow_nil ?_
  refine sk_n (by simp only [exports, zn, zg] <;> exact rfl) ?_
  refine cw_cond (by simp only [opd, zv, hS.len, keRows_len, h0, hw, hia, hwk, hj0] <;> exact rfl) (fun hcATB => ?_) (fun hcATB => ?_)
  ·
   have hjlt : j < k.a + k.n := by have := of_decide_eq_true hcATB; omega
   have hwj := wrap_nat j (by omega)
   obtain ⟨b, hlj⟩ : ∃ b, l[j]? = some b := ⟨_, List.getElem?_eq_getElem (by omega)⟩
   obtain ⟨c, hmj⟩ : ∃ c, m[j]? = some c := ⟨_, List.getElem?_eq_getElem (by omega)⟩
   have hja := fun (S : St) => hR.iaddrN S .i64 (bR_at hlj)
   have hjb := fun (S : St) => hQ.iaddrN S .i64 (bR_at hmj)
   refine cw_skip (sk_n rfl (cw_seq (cw_block (cw_seq ?_))))
   refine cw_drawn (by simp only [newsVals, List.length_nil, List.length_cons, List.range_succ, List.range_zero, List.nil_append, List.map_nil, List.reverse_nil, List.cons_append, List.map_cons, List.reverse_cons, Nat.zero_add, Nat.add_zero, Nat.reduceAdd] <;> exact rfl) (by simp only [List.map_nil, List.map_cons, newsObj, St.eta, List.append_nil, List.cons_append, List.nil_append, List.length_cons, List.length_nil] <;> exact rfl) ?_
   refine dw_quiet (by simp only [zo] <;> exact rfl) rfl rfl ?_
   refine dw_quiet (by simp only [zo] <;> exact rfl) rfl rfl ?_
   refine dw_op (by simp only [zl, zm, iaddrD_sl, iaddrD_msl, Int.toNat_natCast, Int.toNat_zero, List.getElem?_map, Option.map_some, Int.le_refl, hS.len, keRows_len, h0, hw, hia, hwk, hj0, hwj, hja, hjb] <;> exact rfl) (by simp only [fpHere, opd, List.map_cons, List.map_nil, List.getD_cons_zero, List.getD_cons_succ, zq, hR.fpi, hQ.fpi] <;> exact rfl) rfl ?_
   refine dw_op (by simp only [zl, zm, loadD_cptr, loadD_ptr, partD, List.take, List.drop, hS.len, keRows_len, h0, hw, hia, hwk, hj0, hwj, hja, hjb] <;> exact rfl) (by simp only [fpHere, opd, List.map_cons, List.map_nil, List.getD_cons_zero, List.getD_cons_succ, zq, hR.fpi, hQ.fpi] <;> exact rfl) rfl ?_
   refine dw_quiet (by simp only [zo] <;> exact rfl) rfl rfl ?_
   refine dw_quiet (by simp only [zo] <;> exact rfl) rfl rfl ?_
   refine dw_op (by simp only [zl, zm, iaddrD_sl, iaddrD_msl, Int.toNat_natCast, Int.toNat_zero, List.getElem?_map, Option.map_some, Int.le_refl, hS.len, keRows_len, h0, hw, hia, hwk, hj0, hwj, hja, hjb] <;> exact rfl) (by simp only [fpHere, opd, List.map_cons, List.map_nil, List.getD_cons_zero, List.getD_cons_succ, zq, hR.fpi, hQ.fpi] <;> exact rfl) rfl ?_
   refine dw_op (by simp only [zl, zm, loadD_cptr, loadD_ptr, partD, List.take, List.drop, hS.len, keRows_len, h0, hw, hia, hwk, hj0, hwj, hja, hjb] <;> exact rfl) (by simp only [fpHere, opd, List.map_cons, List.map_nil, List.getD_cons_zero, List.getD_cons_succ, zq, hR.fpi, hQ.fpi] <;> exact rfl) rfl ?_
   refine dw_quiet (by simp only [zo, binD, eq_self, ne_eq, not_false_eq_true, true_and, Int.reduceEq, ite_true, ite_false, not_true_eq_false, Int.reduceToNat, Int.reduceLT, hS.len, keRows_len, h0, hw, hia, hwk, hj0, hwj, hja, hjb] <;> exact rfl) rfl rfl ?_
   refine dw_nil ?_
   refine sk_n (by simp only [exports, zn, zg] <;> exact rfl) ?_
   refine cw_cond (by simp only [opd, zv, hS.len, keRows_len, h0, hw, hia, hwk, hj0, hwj, hja, hjb] <;> exact rfl) (fun hcATBT => ?_) (fun hcATBT => ?_)
   ·
    refine cw_seq (cw_seq ?_)
    refine cw_drawn (by simp only [newsVals, List.length_nil, List.length_cons, List.range_succ, List.range_zero, List.nil_append, List.map_nil, List.reverse_nil, List.cons_append, List.map_cons, List.reverse_cons, Nat.zero_add, Nat.add_zero, Nat.reduceAdd] <;> exact rfl) (by simp only [List.map_nil, List.map_cons, newsObj, St.eta, List.append_nil, List.cons_append, List.nil_append, List.length_cons, List.length_nil] <;> exact rfl) ?_
    refine dw_quiet (by simp only [zo] <;> exact rfl) rfl rfl ?_
    refine dw_quiet (by simp only [zo] <;> exact rfl) rfl rfl ?_
    refine dw_op (by simp only [zl, zm, iaddrD_sl, iaddrD_msl, Int.toNat_natCast, Int.toNat_zero, List.getElem?_map, Option.map_some, Int.le_refl, hS.len, keRows_len, h0, hw, hia, hwk, hj0, hwj, hja, hjb] <;> exact rfl) (by simp only [fpHere, opd, List.map_cons, List.map_nil, List.getD_cons_zero, List.getD_cons_succ, zq, hR.fpi, hQ.fpi] <;> exact rfl) rfl ?_
    refine dw_op (by simp only [zl, zm, loadD_cptr, loadD_ptr, partD, List.take, List.drop, hS.len, keRows_len, h0, hw, hia, hwk, hj0, hwj, hja, hjb] <;> exact rfl) (by simp only [fpHere, opd, List.map_cons, List.map_nil, List.getD_cons_zero, List.getD_cons_succ, zq, hR.fpi, hQ.fpi] <;> exact rfl) rfl ?_
    refine dw_quiet (by simp only [zo] <;> exact rfl) rfl rfl ?_
    refine dw_quiet (by simp only [zo] <;> exact rfl) rfl rfl ?_
    refine dw_op (by simp only [zl, zm, iaddrD_sl, iaddrD_msl, Int.toNat_natCast, Int.toNat_zero, List.getElem?_map, Option.map_some, Int.le_refl, hS.len, keRows_len, h0, hw, hia, hwk, hj0, hwj, hja, hjb] <;> exact rfl) (by simp only [fpHere, opd, List.map_cons, List.map_nil, List.getD_cons_zero, List.getD_cons_succ, zq, hR.fpi, hQ.fpi] <;> exact rfl) rfl ?_
    refine dw_op (by simp only [zl, zm, loadD_cptr, loadD_ptr, partD, List.take, List.drop, hS.len, keRows_len, h0, hw, hia, hwk, hj0, hwj, hja, hjb] <;> exact rfl) (by simp only [fpHere, opd, List.map_cons, List.map_nil, List.getD_cons_zero, List.getD_cons_succ, zq, hR.fpi, hQ.fpi] <;> exact rfl) rfl ?_
    refine dw_quiet (by simp only [zo, binD, eq_self, ne_eq, not_false_eq_true, true_and, Int.reduceEq, ite_true, ite_false, not_true_eq_false, Int.reduceToNat, Int.reduceLT, hS.len, keRows_len, h0, hw, hia, hwk, hj0, hwj, hja, hjb] <;> exact rfl) rfl rfl ?_
    refine dw_quiet (by simp only [zo, faddrD_ptr, faddrD_cptr, zm, hS.len, keRows_len, h0, hw, hia, hwk, hj0, hwj, hja, hjb] <;> exact rfl) rfl rfl ?_
    refine dw_op (by simp only [zl, zm, loadD_cptr, loadD_ptr, partD, List.take, List.drop, hS.len, keRows_len, h0, hw, hia, hwk, hj0, hwj, hja, hjb] <;> exact rfl) (by simp only [fpHere, opd, List.map_cons, List.map_nil, List.getD_cons_zero, List.getD_cons_succ, zq, hR.fpi, hQ.fpi] <;> exact rfl) rfl ?_
    refine dw_quiet (by simp only [zo, hS.len, keRows_len, h0, hw, hia, hwk, hj0, hwj, hja, hjb] <;> exact rfl) rfl rfl ?_
    refine dw_nil ?_
    refine sk_n (by simp only [exports, zn, zg] <;> exact rfl) ?_
    refine cw_cond (by simp only [opd, zv, hS.len, keRows_len, h0, hw, hia, hwk, hj0, hwj, hja, hjb] <;> exact rfl) (fun hcATBTT => ?_) (fun hcATBTT => ?_)
    ·
     refine cw_seq (cw_region ?_)
     refine ow_op (by simp only [zo] <;> exact rfl) ?_
     refine ow_nil ?_
     refine sk_n (by simp only [exports, zn, zg] <;> exact rfl) ?_
     refine cw_ret (sk_r (bk_r (sk_r (lk_r (bk_r (bk_r (sk_r (lk_r (bk_r (sk_r ?_))))))))))
     refine ⟨_, by simp only [F17, resultD, resDs, resD, List.getD_cons_zero, List.getD_cons_succ, loadD_cptr, loadD_ptr, rowsOf, partD, List.getElem?_cons_zero, List.getElem?_cons_succ, if_true, if_false, Bool.false_eq_true, List.take, List.drop, zm] <;> exact rfl, ?_⟩
     have hne : b.toNat ≠ c.toNat := by have := hcATBT; simp at this; omega
     have hcv : cmpT (k.sub l) (k.sub m) = cmpI b.toNat c.toNat := by
      rw [← hJ, cmpT_at hlj hmj hjlt, if_pos]
      simp only [cmpI]; split
      ·
       rfl
      ·
       split
       ·
        rfl
       ·
        exfalso; omega
     rw [← hF, hdr, List.map_cons, firstC, hcv, ord_val hne, if_pos hcATBTT]
     simp only [leaveP, leave, snapVs, snaps, zs, zf, Option.map_some, List.all_cons, List.all_nil, Bool.and_self, Bool.and_true, if_true, if_false, Bool.false_eq_true, List.length_nil, Nat.le_refl, Nat.zero_le]
    ·
     refine cw_skip (sk_n rfl (cw_seq (cw_region ?_)))
     refine ow_op (by simp only [zo] <;> exact rfl) ?_
     refine ow_nil ?_
     refine sk_n (by simp only [exports, zn, zg] <;> exact rfl) ?_
     refine cw_ret (bk_r (sk_r (lk_r (bk_r (bk_r (sk_r (lk_r (bk_r (sk_r ?_)))))))))
     refine ⟨_, by simp only [F17, resultD, resDs, resD, List.getD_cons_zero, List.getD_cons_succ, loadD_cptr, loadD_ptr, rowsOf, partD, List.getElem?_cons_zero, List.getElem?_cons_succ, if_true, if_false, Bool.false_eq_true, List.take, List.drop, zm] <;> exact rfl, ?_⟩
     have hne : b.toNat ≠ c.toNat := by have := hcATBT; simp at this; omega
     have hcv : cmpT (k.sub l) (k.sub m) = cmpI b.toNat c.toNat := by
      rw [← hJ, cmpT_at hlj hmj hjlt, if_pos]
      simp only [cmpI]; split
      ·
       rfl
      ·
       split
       ·
        rfl
       ·
        exfalso; omega
     rw [← hF, hdr, List.map_cons, firstC, hcv, ord_val hne, if_neg (by rw [hcATBTT]; simp)]
     simp only [leaveP, leave, snapVs, snaps, zs, zf, Option.map_some, List.all_cons, List.all_nil, Bool.and_self, Bool.and_true, if_true, if_false, Bool.false_eq_true, List.length_nil, Nat.le_refl, Nat.zero_le]
   ·
    refine cw_skip (bk_n (sk_n rfl (cw_region ?_)))
    refine ow_op (by simp only [zo] <;> exact rfl) ?_
    refine ow_op (by simp only [zo, binD, eq_self, ne_eq, not_false_eq_true, true_and, Int.reduceEq, ite_true, ite_false, not_true_eq_false, Int.reduceToNat, Int.reduceLT, hS.len, keRows_len, h0, hw, hia, hwk, hj0, hwj, hja, hjb] <;> exact rfl) ?_
    refine ow_op (by simp only [zo] <;> exact rfl) ?_
    refine ow_nil ?_
    refine lk_n (by simp only [exports, zn, zg] <;> exact rfl) ?_
    exact ⟨k.a + k.n - (j + 1), by omega, j + 1, _, _, _, _, by omega, by omega, rfl, by rw [← hJ, cmpT_at hlj hmj hjlt, if_neg (by have : b = c := UInt8.toNat_inj.1 (by have := hcATBT; simp at this; omega); subst this; simp [cmpI])], rfl, rfl⟩
  ·
   have hjge : k.a + k.n ≤ j := by have := of_decide_eq_false hcATB; omega
   refine cw_exit (sk_e (lk_e (bk_e (bk_n (sk_n rfl (cw_region ?_))))))
   refine ow_op (by simp only [zo] <;> exact rfl) ?_
   refine ow_op (by simp only [zo, binD, eq_self, ne_eq, not_false_eq_true, true_and, Int.reduceEq, ite_true, ite_false, not_true_eq_false, Int.reduceToNat, Int.reduceLT, hS.len, keRows_len, h0, hw, hia, hwk, hj0] <;> exact rfl) ?_
   refine ow_op (by simp only [zo] <;> exact rfl) ?_
   refine ow_nil ?_
   refine lk_n (by simp only [exports, zn, zg] <;> exact rfl) ?_
   exact ⟨ks.length - (i + 1), by omega, i + 1, _, _, _, _, _, _, _, by omega, rfl, by rw [← hF, hdr, List.map_cons, firstC, if_pos (by rw [← hJ, show k.a + k.n - j = 0 by omega]; simp [cmpT])], rfl, rfl⟩
 ·
  have hge : ks.length ≤ i := by have := of_decide_eq_false hcA; omega
  refine cw_exit (sk_e (lk_e (bk_e (sk_n rfl (cw_seq (cw_region ?_))))))
  refine ow_op (by simp only [zo] <;> exact rfl) ?_
  refine ow_nil ?_
  refine sk_n (by simp only [exports, zn, zg] <;> exact rfl) ?_
  refine cw_ret ?_
  refine ⟨_, by simp only [F17, resultD, resDs, resD, List.getD_cons_zero, List.getD_cons_succ, loadD_cptr, loadD_ptr, rowsOf, partD, List.getElem?_cons_zero, List.getElem?_cons_succ, if_true, if_false, Bool.false_eq_true, List.take, List.drop, zm] <;> exact rfl, ?_⟩
  rw [← hF, List.drop_eq_nil_of_le hge, List.map_nil, firstC]
  simp only [leaveP, leave, snapVs, snaps, zs, zf, Option.map_some, List.all_cons, List.all_nil, Bool.and_self, Bool.and_true, if_true, if_false, Bool.false_eq_true, List.length_nil, Nat.le_refl, Nat.zero_le]

end Go.Proofs.YtabgobmeibjeeaaGreatDoor
